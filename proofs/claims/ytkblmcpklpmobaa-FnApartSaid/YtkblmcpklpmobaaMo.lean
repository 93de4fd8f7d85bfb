/- MarksOf (layer 7): the marks in a range. No condition. -/
import Derived.Test.YtkblmcpklpmobaaOwn
import Derived.Test.YtkblmcpklpmobaaLawM
import Derived.Test.YtkblmcpklpmobaaLd2
import Derived.Lib.SliceRun
namespace Go.Proofs.Ytkblmcpklpmobaa
open Go.RowKit
set_option linter.unusedVariables false
set_option linter.unusedSimpArgs false

theorem Full.puts {T : TypeId} {g : Nat} : ∀ (vs : List Value) (o : Nat) (w : World) (cs : Array Value), Full w g T cs → ∃ cs', Full (w.setCells g o vs) g T cs' ∧ cs'.size = cs.size ∧ ∀ j, j < o → cs'[j]? = cs[j]?
  | [], _, _, cs, h => ⟨cs, h, rfl, fun _ _ => rfl⟩
  | v :: r, o, w, cs, h => by
    obtain ⟨cs', h1, h2, h3⟩ := Full.puts r (o + 1) (w.setCell ⟨g, o, none⟩ v) _ (h.put o v)
    refine ⟨cs', h1, by rw [h2, Array.size_setIfInBounds], fun j hj => ?_⟩
    rw [h3 j (by omega), Array.getElem?_setIfInBounds, if_neg (by omega)]
theorem grownPuts {w : World} {g : Nat} : ∀ (vs : List Value) (o : Nat) (v : World), w.grownBy v (some g) → w.grownBy (v.setCells g o vs) (some g)
  | [], _, _, h => h
  | x :: r, o, v, h => grownPuts r (o + 1) _ (grownPut h)
def outB (lo hi x : Int) : Bool := decide (x < lo) || decide (hi < x)
def keepL (lo hi : Int) (m : List Int) : List Int := m.filter fun x => !outB lo hi x
theorem keepL_length (lo hi : Int) (m : List Int) : (keepL lo hi m).length ≤ m.length := List.length_filter_le _ _
theorem keepL_yes {lo hi x : Int} {m : List Int} {k : Nat} (hx : m[k]? = some x) (h : outB lo hi x = false) : keepL lo hi (m.take (k + 1)) = keepL lo hi (m.take k) ++ [x] := by
  rw [List.take_add_one, hx, keepL, List.filter_append]
  simp [h, keepL]
theorem keepL_no {lo hi x : Int} {m : List Int} {k : Nat} (hx : m[k]? = some x) (h : outB lo hi x = true) : keepL lo hi (m.take (k + 1)) = keepL lo hi (m.take k) := by
  rw [List.take_add_one, hx, keepL, List.filter_append]
  simp [h, keepL]
/-- what IndexFunc answers -/
def IdxP (lo hi : Int) (m : List Int) (r : Int) : Prop := (r = -1 ∧ keepL lo hi m = m) ∨ ∃ (k : Nat) (x : Int), r = (k : Int) ∧ m[k]? = some x ∧ outB lo hi x = true ∧ keepL lo hi (m.take k) = m.take k
set_option maxHeartbeats 400000 in
theorem outside_any (x lo hi : Int) (b1 b2 : Nat) (w : World) (c0 : w.cell? ⟨b1, 0, none⟩ = some (.int .i64 lo)) (c1 : w.cell? ⟨b2, 0, none⟩ = some (.int .i64 hi)) :
    Calls Try.prog 99 #[.int .i64 x, .pointer (some ⟨b1, 0, none⟩), .pointer (some ⟨b2, 0, none⟩)] w fun e w' => e = .returned (.bool (outB lo hi x)) ∧ w = w' := by
  go_enter Try.func99, Try.ntmps99
  go_wp2
  all_goals go_ret
  all_goals (refine ⟨endBool ?_, rfl⟩)
  all_goals (unfold outB; first | (simp_all; done) | (simp_all; omega))
set_option maxHeartbeats 1000000 in
theorem indexOut_any (A : Option Addr) (n c : Nat) (m : List Int) (lo hi : Int) (b1 b2 B : Nat) (w : World) (hl : m.length = n) (hn : n ≤ 9223372036854775807) (hs : Sees w B A (m.map (Value.int .i64))) (c0 : w.cell? ⟨b1, 0, none⟩ = some (.int .i64 lo)) (c1 : w.cell? ⟨b2, 0, none⟩ = some (.int .i64 hi)) :
    Calls Try.prog 103 #[.slice A n c, .func (.func 99) #[] #[.pointer (some ⟨b1, 0, none⟩), .pointer (some ⟨b2, 0, none⟩)]] w fun e w' => ∃ r, e = .returned (.int .i64 r) ∧ IdxP lo hi m r ∧ w = w' := by
  go_enter Try.func103, Try.ntmps103
  go_wp2_with fail
  go_loop [8] (fun i => ∃ k : Nat, k ≤ n ∧ i = .int .i64 k ∧ keepL lo hi (m.take k) = m.take k) (fun i => n - (intOf i).toNat)
  case atStart => exact ⟨0, Nat.zero_le _, rfl, rfl⟩
  case round =>
    obtain ⟨k, hk, rfl, hf⟩ := hrel
    have Hf := Lib.hid hf
    have Hl := Lib.hid hl
    clear hf
    by_cases hlt : k < n
    · obtain ⟨b, off, y, rfl, hb, hp, d0⟩ := hs.one (k := k) (by omega)
      have Hp := Lib.hid hp
      clear hp hs hl
      by_cases hx : outB lo hi y = true
      · go_wp2_with (go_at_call 99; refine (outside_any _ lo hi b1 b2 _ c0 c1).mono ?_; rintro e w' ⟨rfl, rfl⟩)
        go_ret
        exact ⟨_, rfl, Or.inr ⟨k, y, rfl, Hp.out, hx, Hf.out⟩, rfl⟩
      · have hx : outB lo hi y = false := by simpa using hx
        have HY := Lib.hid (keepL_yes Hp.out hx)
        go_wp2_with (go_at_call 99; refine (outside_any _ lo hi b1 b2 _ c0 c1).mono ?_; rintro e w' ⟨rfl, rfl⟩)
        go_round
        case rel => exact ⟨k + 1, by omega, by go_num, by rw [HY.out, Hf.out, List.take_add_one, Hp.out]; rfl⟩
        case measure => simp [intOf]; omega
    · obtain rfl : k = n := by omega
      clear hl hs
      go_wp2_with fail
      go_ret
      refine ⟨_, rfl, Or.inl ⟨rfl, ?_⟩, rfl⟩
      have := Hf.out
      rwa [List.take_of_length_le (by have := Hl.out; omega)] at this
theorem zeroI64 (w : World) : (zeroValue 2).run Try.prog w = .ok (.int .i64 0) w := by kernel_rfl
set_option maxRecDepth 100000 in
set_option maxHeartbeats 2000000 in
theorem deleteOut_any (v : Value) (n base : Nat) (m : List Int) (lo hi : Int) (b1 b2 : Nat) (w : World) (hl : m.length = n) (hn : n ≤ 1000000) (hown : w.ownsRow base 2 1 v n (m.map (Value.int .i64)))
    (c0 : w.cell? ⟨b1, 0, none⟩ = some (.int .i64 lo)) (c1 : w.cell? ⟨b2, 0, none⟩ = some (.int .i64 hi)) (h1 : b1 < base) (h2 : b2 < base) :
    Calls Try.prog 98 #[v, .func (.func 99) #[] #[.pointer (some ⟨b1, 0, none⟩), .pointer (some ⟨b2, 0, none⟩)]] w fun e w' => ∃ v', e = .returned v' ∧ w'.ownsRow base 2 1 v' (keepL lo hi m).length ((keepL lo hi m).map (Value.int .i64)) ∧ w.grownBy w' v.ownBlock := by
  obtain ⟨A, c, rfl⟩ := ownShape hown
  have hs := Sees.ofOwn hown
  have IXC := indexOut_any A n c m lo hi b1 b2 _ w hl (by omega) hs c0 c1
  go_enter Try.func98, Try.ntmps98
  go_wp2_with fail
  refine IXC.mono ?_
  rintro e w' ⟨r, rfl, hr, rfl⟩
  rcases hr with ⟨rfl, hk⟩ | ⟨k, x, rfl, hx, hb, hk⟩
  · have Hk := Lib.hid hk
    clear hk hs IXC
    have Hl := Lib.hid hl
    clear hl
    go_wp2_with fail
    go_ret
    exact ⟨_, rfl, by rw [Hk.out, Hl.out]; exact hown, grownRefl _ _⟩
  · rcases ownRow hown with ⟨hv, hn0, -⟩ | ⟨g, cap, cur, hv, hbg, hF0, hnc, hcm, hsz0, htk⟩
    · have := (List.getElem?_eq_some_iff.1 hx).1
      omega
    · injection hv with hA _ hc
      subst hA hc
      have hkn : k < n := by have := (List.getElem?_eq_some_iff.1 hx).1; omega
      have hcur : ∀ q, q < n → cur[q]? = (m.map (Value.int .i64))[q]? := by
        intro q hq
        rw [← htk, List.getElem?_take, if_pos (by omega)]
        simp
      have Hs1 := Lib.hid (show keepL lo hi (m.take (k + 1)) = m.take k from (keepL_no hx hb).trans hk)
      have Hl := Lib.hid hl
      have e0 : ((k : Int) == -1) = false := by simp
      have hcur' := Lib.hid hcur
      have Hz := Lib.hid hsz0
      clear hk hx hb hs IXC hl htk hown hcur hsz0
      go_wp2_with fail
      go_loopw [5, 6] (fun a b wr => ∃ (i j : Nat) (cs : Array Value), i < j ∧ j ≤ n ∧ a = .int .i64 i ∧ b = .int .i64 j ∧ i = (keepL lo hi (m.take j)).length ∧ Full wr g 2 cs ∧ cs.size = c * 1 ∧ (∀ q, q < i → cs[q]? = ((keepL lo hi (m.take j)).map (Value.int .i64))[q]?) ∧ (∀ q, j ≤ q → q < n → cs[q]? = (m.map (Value.int .i64))[q]?) ∧ w.grownBy wr (some g)) (fun _ b _ => n - (intOf b).toNat)
      case atStart =>
        refine ⟨k, k + 1, cur, by omega, by omega, rfl, by go_num, ?_, hF0, Hz.out, ?_, ?_, grownRefl _ _⟩
        · rw [Hs1.out, List.length_take, Hl.out]; omega
        · intro q hq
          rw [Hs1.out, hcur'.out q (by omega), List.map_take, List.getElem?_take, if_pos hq]
        · intro q _ hq
          exact hcur'.out q hq
      case round =>
        obtain ⟨i, j, cs, hij, hjn, rfl, rfl, hil, hF, hsz, hlo, hhi, hg⟩ := hrel
        have hin := hF.inside
        have Hil := Lib.hid hil
        have Hlo := Lib.hid hlo
        have Hhi := Lib.hid hhi
        have Hsz := Lib.hid hsz
        have hc1 := hcm
        unfold maxLen at hc1
        have d1 := (grownFar hg (b := b1) (World.block_lt_of_cell? w _ c0) (by intro e; injection e; omega) 0).trans c0
        have d2 := (grownFar hg (b := b2) (World.block_lt_of_cell? w _ c1) (by intro e; injection e; omega) 0).trans c1
        have i0 : (0 : Int) ≤ (i : Int) := by omega
        have i1 : (0 : Int) ≤ (j : Int) := by omega
        have i2 : (i : Int) < (n : Int) := by omega
        by_cases hlt : j < n
        · obtain ⟨y, hy⟩ : ∃ y, m[j]? = some y := ⟨_, List.getElem?_eq_getElem (by rw [Hl.out]; exact hlt)⟩
          have dj : wr.cell? ⟨g, j, none⟩ = some (.int .i64 y) := by rw [hF.at_, hhi j (Nat.le_refl _) hlt, List.getElem?_map, hy]; rfl
          obtain ⟨vi, di⟩ := hF.some_ (i := i) (by rw [hsz]; omega)
          have fi := hF.free i
          have i3 : (j : Int) < (n : Int) := by omega
          have Hy := Lib.hid hy
          clear hy hil hlo hhi hsz
          by_cases hb : outB lo hi y = true
          · have HN := Lib.hid (keepL_no Hy.out hb)
            go_wp2_with (go_at_call 99; refine (outside_any _ lo hi b1 b2 _ d1 d2).mono ?_; rintro e w' ⟨rfl, rfl⟩)
            go_roundw
            case rel => exact ⟨i, j + 1, cs, by omega, by omega, rfl, by go_num, by rw [HN.out]; exact Hil.out, hF, Hsz.out, by rw [HN.out]; exact Hlo.out, fun q h3 h4 => Hhi.out q (by omega) h4, hg⟩
            case measure => simp [intOf]; omega
          · have hb : outB lo hi y = false := by simpa using hb
            have HY := Lib.hid (keepL_yes Hy.out hb)
            go_wp2_with (go_at_call 99; refine (outside_any _ lo hi b1 b2 _ d1 d2).mono ?_; rintro e w' ⟨rfl, rfl⟩)
            go_roundw
            case rel =>
              refine ⟨i + 1, j + 1, cs.setIfInBounds i (.int .i64 y), by omega, by omega, by go_num, by go_num, ?_, hF.put i _, by rw [Array.size_setIfInBounds]; exact Hsz.out, ?_, ?_, grownPut hg⟩
              · rw [HY.out, List.length_append, ← Hil.out]; rfl
              · intro q hq
                rw [HY.out, List.map_append, Array.getElem?_setIfInBounds]
                by_cases hqi : i = q
                · rw [if_pos hqi, if_pos (by rw [Hsz.out]; omega), List.getElem?_append_right (by rw [List.length_map, ← Hil.out]; omega), List.length_map, ← Hil.out, ← hqi]
                  simp
                · rw [if_neg hqi, List.getElem?_append_left (by rw [List.length_map, ← Hil.out]; omega)]
                  exact Hlo.out q (by omega)
              · intro q h3 h4
                rw [Array.getElem?_setIfInBounds, if_neg (by omega)]
                exact Hhi.out q (by omega) h4
            case measure => simp [intOf]; omega
        · obtain rfl : j = n := by omega
          have HC : ∀ ty, (Builtin.clear_ #[30] ty #[.slice (some ⟨g, 0 + i, none⟩) (j - i) (c - i)]).run Try.prog wr = .ok (.tuple #[]) (wr.setCells g (0 + i) (List.replicate (j - i) (.int .i64 0))) := fun ty =>
            Lib.run_clear_slice wr 30 2 ty (.int .i64 0) Try.underlying30 zeroI64 rfl rfl g (0 + i) (j - i) (c - i) (by omega)
              (fun q hq => by obtain ⟨v, hv⟩ := hF.some_ (i := 0 + i + q) (by rw [hsz]; omega); rw [hv]; rfl) (fun q hq => hF.free _)
          rw [Nat.zero_add] at HC
          obtain ⟨cs', hF', hsz', hlo'⟩ := hF.puts (List.replicate (j - i) (.int .i64 0)) i
          have HF' := Lib.hid hF'
          have Hsz' := Lib.hid hsz'
          have Hlo' := Lib.hid hlo'
          have hg' := grownPuts (List.replicate (j - i) (.int .i64 0)) i _ hg
          have i3 : (i : Int) ≤ (j : Int) := by omega
          have i4 : (i : Int) ≤ (c : Int) := by omega
          have i5 : (j : Int) ≤ (c : Int) := by omega
          clear hil hlo hhi hsz hF' hsz' hlo'
          go_wp2_with (simp only [HC])
          go_ret
          have HK : keepL lo hi (m.take j) = keepL lo hi m := by rw [List.take_of_length_le (by rw [Hl.out]; exact Nat.le_refl _)]
          have hil := Hil.out
          have hlo := Hlo.out
          rw [HK] at hil hlo
          refine ⟨_, rfl, ?_, hg'⟩
          rw [← hil]
          exact ownMake hbg HF'.out (by omega) hcm (by rw [Hsz'.out]; exact Hsz.out) (by rw [List.length_map, ← hil]; omega) (fun q hq => by rw [Hlo'.out q (by omega)]; exact hlo q (by omega))
set_option maxHeartbeats 400000 in
theorem marksIn_any (A : Option Addr) (n c : Nat) (l : List (Int × Int × Int)) (lo hi : Int) (w : World) (hl : l.length = n) (hn : n ≤ 12) (hs : Sees w w.heap.size A (cells3 l)) (hg : partsIn l) :
    Calls Try.prog 67 #[.slice A n c, .int .i64 lo, .int .i64 hi] w fun e w' => ∃ v, e = .returned v ∧ w'.ownsRow w.heap.size 2 1 v (keepL lo hi (marks l)).length ((keepL lo hi (marks l)).map (Value.int .i64)) ∧ Below w.heap.size w w' := by
  have M := fun W hW => marksOf_any A n c l W hl hn hW hg
  have hml := marks_length hg
  have hlen : (marks l).length ≤ 1000000 := by omega
  generalize marks l = m at *
  clear hml hl
  go_enter Try.func67, Try.ntmps67
  go_wp2_with fail
  refine (M _ (((hs.block (Nat.le_refl _) _).wider (by simp)).block (Nat.le_refl _) _ |>.wider (by simp))).mono ?_
  rintro e w1 ⟨v, rfl, hown, b1⟩
  have D := deleteOut_any v m.length _ m lo hi w.heap.size (w.heap.size + 1) w1 rfl hlen hown (by rw [b1.cell (by simp; omega)]; simp [go_sem]) (by rw [b1.cell (by simp)]; simp [go_sem]) (by simp; omega) (by simp)
  have B1 : Below w.heap.size w w1 := Below.trans (by repeat' (first | exact Below.refl _ _ | assumption | refine Below.alloc ?_ (by first | omega | (simp; done) | (simp; omega)) _ | refine Below.drew ?_ | refine Below.setCell ?_ (by first | omega | (simp; done) | (simp; omega)) _)) (b1.mono (by simp; omega))
  have hlo := hown.lt
  clear M hs hown b1
  go_wp2_with fail
  refine D.mono ?_
  rintro e w2 ⟨v', rfl, hown', hg2⟩
  clear D
  go_wp2_with fail
  go_ret
  refine ⟨_, rfl, ownLower hown' (by simp; omega), B1.grown hg2 B1.size (fun k hk => by have := (hlo k hk).1; simp at this; omega)⟩
def rMarks (l : List (Int × Int × Int)) (lo hi : Int) : List Int × Int := if gradB l = true then (if (inB lo 1000 9999 && inB hi 1000 9999) = true then (if (keepL lo hi (marks l)).length ≤ 200 then (keepL lo hi (marks l), 0) else ([], 3)) else ([], 2)) else ([], 1)
theorem rMarks_len (l : List (Int × Int × Int)) (lo hi : Int) : (rMarks l lo hi).1.length ≤ 1048576 := by
  unfold rMarks
  split
  · split
    · split
      · simp only; omega
      · simp
    · simp
  · simp
theorem outB_inB {lo hi x : Int} : inB x lo hi = !outB lo hi x := by
  rw [Bool.eq_iff_iff]
  simp [inB, outB]
set_option maxRecDepth 100000 in
set_option maxHeartbeats 4000000 in
theorem iMarksOf_any (A : Option Addr) (n c : Nat) (l : List (Int × Int × Int)) (lo hi : Int) (w : World) (hl : l.length = n) (hn : n ≤ 1048576) (hs : Sees w w.heap.size A (cells3 l)) (hr : I64s3 l) :
    Calls Try.prog 14 #[.slice A n c, .int .i64 lo, .int .i64 hi] w (GivesS 2 1 (rMarks l lo hi).1.length ((rMarks l lo hi).1.map (Value.int .i64)) (rMarks l lo hi).2 w) := by
  have Hl := Lib.hid hl
  by_cases h : gradB l = true
  · by_cases g1 : inB lo 1000 9999 = true
    · by_cases g2 : inB hi 1000 9999 = true
      · obtain ⟨hg, h1, h2⟩ := gradB_in h
        have Hw := Lib.hid (show rMarks l lo hi = _ by rw [rMarks, if_pos h, g1, g2, Bool.and_self, if_pos rfl])
        have hn12 : n ≤ 12 := by omega
        have hml := marks_length hg
        have M := fun W hW => marksIn_any A n c l lo hi W Hl.out hn12 hW hg
        have I := fun W hW => iIsGraduation_any A n c l W Hl.out hn hW hr
        rw [h] at I
        have hlen := keepL_length lo hi (marks l)
        have hlm : (marks l).length ≤ 108000 := by omega
        generalize keepL lo hi (marks l) = m at *
        clear hg h h1 h2 hl hml
        go_enter Try.func14, Try.ntmps14
        go_wp2_with fail
        refine (I _ hs).mono ?_
        rintro e w1 ⟨rfl, b1⟩
        go_wp2_with (go_at_call 66; refine (isDigits_any _ _).mono ?_; rintro e w' ⟨rfl, rfl⟩)
        refine (M _ ((hs.over b1).wider b1.size)).mono ?_
        rintro e w2 ⟨v, rfl, hown, b2⟩
        obtain ⟨A', c', rfl⟩ := ownShape hown
        have B2 := b1.trans (b2.mono b1.size)
        have hz1 := b1.size
        clear hs M I
        by_cases h3 : m.length ≤ 200
        · have Hv := Lib.hid (Hw.out.trans (if_pos h3))
          go_wp2_with fail
          go_ret2
          rw [Hv.out]
          exact ⟨_, rfl, ownLower hown hz1, B2⟩
        · have Hv := Lib.hid (Hw.out.trans (if_neg h3))
          go_wp2_with fail
          go_ret2
          rw [Hv.out]
          exact ⟨_, rfl, World.ownsRow_nil _ _ _ _, B2⟩
      · have g2' : inB hi 1000 9999 = false := by simpa using g2
        have Hv := Lib.hid (show rMarks l lo hi = ([], 2) by rw [rMarks, if_pos h, if_neg (by simp [g2'])])
        have I := fun W hW => iIsGraduation_any A n c l W Hl.out hn hW hr
        rw [h] at I
        clear h hl
        go_enter Try.func14, Try.ntmps14
        go_wp2_with fail
        refine (I _ hs).mono ?_
        rintro e w1 ⟨rfl, b1⟩
        go_wp2_with (go_at_call 66; refine (isDigits_any _ _).mono ?_; rintro e w' ⟨rfl, rfl⟩)
        go_ret2
        rw [Hv.out]
        exact ⟨_, rfl, World.ownsRow_nil _ _ _ _, b1⟩
    · have g1' : inB lo 1000 9999 = false := by simpa using g1
      have Hv := Lib.hid (show rMarks l lo hi = ([], 2) by rw [rMarks, if_pos h, if_neg (by simp [g1'])])
      have I := fun W hW => iIsGraduation_any A n c l W Hl.out hn hW hr
      rw [h] at I
      clear h hl
      go_enter Try.func14, Try.ntmps14
      go_wp2_with fail
      refine (I _ hs).mono ?_
      rintro e w1 ⟨rfl, b1⟩
      go_wp2_with (go_at_call 66; refine (isDigits_any _ _).mono ?_; rintro e w' ⟨rfl, rfl⟩)
      go_ret2
      rw [Hv.out]
      exact ⟨_, rfl, World.ownsRow_nil _ _ _ _, b1⟩
  · have h : gradB l = false := by simpa using h
    have Hv := Lib.hid (show rMarks l lo hi = ([], 1) by rw [rMarks, if_neg (by simp [h])])
    have I := fun W hW => iIsGraduation_any A n c l W Hl.out hn hW hr
    rw [h] at I
    clear h hl
    go_enter Try.func14, Try.ntmps14
    go_wp2_with fail
    refine (I _ hs).mono ?_
    rintro e w1 ⟨rfl, b1⟩
    go_wp2_with (go_at_call 66; refine (isDigits_any _ _).mono ?_; rintro e w' ⟨rfl, rfl⟩)
    go_ret2
    rw [Hv.out]
    exact ⟨_, rfl, World.ownsRow_nil _ _ _ _, b1⟩
set_option maxRecDepth 100000 in
set_option maxHeartbeats 4000000 in
theorem sMarksOf_any (A : Option Addr) (n c : Nat) (l : List (Int × Int × Int)) (lo hi : Int) (w : World) (hl : l.length = n) (hn : n ≤ 1048576) (hs : Sees w w.heap.size A (cells3 l)) (hr : I64s3 l) :
    Calls Try.prog 15 #[.slice A n c, .int .i64 lo, .int .i64 hi] w (GivesS 2 1 (rMarks l lo hi).1.length ((rMarks l lo hi).1.map (Value.int .i64)) (rMarks l lo hi).2 w) := by
  have Hl := Lib.hid hl
  by_cases h : gradB l = true
  · by_cases g1 : inB lo 1000 9999 = true
    · by_cases g2 : inB hi 1000 9999 = true
      · obtain ⟨hg, h1, h2⟩ := gradB_in h
        have Hw := Lib.hid (show rMarks l lo hi = _ by rw [rMarks, if_pos h, g1, g2, Bool.and_self, if_pos rfl])
        have hn12 : n ≤ 12 := by omega
        have hml := marks_length hg
        have M := fun W hW => l07Marks_any A n c l W Hl.out hn12 hW hg
        have I := fun W hW => sIsGraduation_any A n c l W Hl.out hn hW hr
        rw [h] at I
        obtain ⟨i0, hi', hz0, hz1, hz2⟩ := info_parts infoI64
        have hlm : (marks l).length ≤ 108000 := by omega
        generalize marks l = m at *
        clear hg h h1 h2 hl hml
        go_enter Try.func15, Try.ntmps15
        go_wp2_with fail
        refine (I _ hs).mono ?_
        rintro e w1 ⟨rfl, b1⟩
        go_wp2_with (go_at_call 68; refine (l01In_any _ _ _ _).mono ?_; rintro e w' ⟨rfl, rfl⟩)
        refine (M _ ((hs.over b1).wider b1.size)).mono ?_
        rintro e w2 ⟨v, rfl, hown, b2⟩
        obtain ⟨A', c', rfl⟩ := ownShape hown
        have B2 := b1.trans (b2.mono b1.size)
        have hz1' := B2.size
        have S2 := Sees.ofOwn hown
        clear hs M I b1 b2 hown
        go_wp2_with fail
        go_loopw [9, 10] (fun v i wr => ∃ k : Nat, k ≤ m.length ∧ i = .int .i64 k ∧ wr.ownsRow w2.heap.size 2 1 v (keepL lo hi (m.take k)).length ((keepL lo hi (m.take k)).map (Value.int .i64)) ∧ Below w2.heap.size w2 wr) (fun _ i _ => m.length - (intOf i).toNat)
        case atStart => exact ⟨0, Nat.zero_le _, rfl, World.ownsRow_made w2 #[] 0 (Nat.le_refl _) (Nat.zero_le _) rfl, (Below.refl _ _).alloc (Nat.le_refl _) _⟩
        case round =>
          obtain ⟨k, hk, rfl, hown2, hB2⟩ := hrel
          have hz2' := hB2.size
          by_cases hlt : k < m.length
          · obtain ⟨b, off, y, rfl, hb, hp, c0⟩ := (S2.over hB2).one (k := k) hlt
            have hll : (keepL lo hi (m.take k)).length ≤ 108000 := Nat.le_trans (keepL_length _ _ _) (by rw [List.length_take]; omega)
            have Hp := Lib.hid hp
            have j0 : (0 : Int) ≤ (k : Int) := by omega
            have j1 : (k : Int) < (m.length : Int) := by omega
            clear hp
            by_cases ho : outB lo hi y = true
            · have HN := Lib.hid (keepL_no Hp.out ho)
              have hin : inB y lo hi = false := by rw [outB_inB, ho]; rfl
              go_wp2_with (first
                | (go_at_call 68; refine (l01In_any _ _ _ _).mono ?_; rintro e w' ⟨rfl, rfl⟩))
              go_roundw
              case rel => exact ⟨k + 1, by omega, by go_num, by rw [HN.out]; exact hown2, hB2⟩
              case measure => simp [intOf]; omega
            · have ho : outB lo hi y = false := by simpa using ho
              have HY := Lib.hid (keepL_yes Hp.out ho)
              have hin : inB y lo hi = true := by rw [outB_inB, ho]; rfl
              have hbr : b < wr.heap.size := by omega
              go_wp2_with (first
                | (go_at_call 68; refine (l01In_any _ _ _ _).mono ?_; rintro e w' ⟨rfl, rfl⟩)
                | (at_builtin; refine wpList_append_own _ rfl _ _ 30 rfl w2.heap.size 2 i0 (.int .i64 0) 1 8 Try.underlying30 hi' hz0 hz1 hz2 rfl (by decide) _ _ _ rfl (hown2.alloc _) ⟨wr.heap.size, 0, none⟩ 1 1 [.int .i64 y] rfl rfl ?_ ?_ ?_ ?_ ?_ ?_; exact cell_one_new _ _ _; (intro u hu; simp at hu; subst hu; rfl); (unfold maxLen; omega); omega; (simp; omega); intro v' w4 hown1 hgr1 _; have hB1 := (hB2.alloc hz2' (.cells #[.int .i64 y] 2)).grown hgr1 (by simp; omega) (fun k hk => (hown2.lt k hk).1)))
              go_roundw
              case rel =>
                refine ⟨k + 1, by omega, by go_num, ?_, hB1⟩
                rw [HY.out, List.map_append, List.length_append]
                exact hown1
              case measure => simp [intOf]; omega
          · obtain rfl : k = m.length := by omega
            obtain ⟨A3, c3, rfl⟩ := ownShape hown2
            rw [List.take_length] at hown2
            rw [List.take_length]
            clear S2
            by_cases h3 : (keepL lo hi m).length ≤ 200
            · have Hv := Lib.hid (Hw.out.trans (if_pos h3))
              generalize keepL lo hi m = m' at *
              go_wp2_with fail
              go_ret2
              rw [Hv.out]
              exact ⟨_, rfl, ownLower hown2 hz1', B2.trans (hB2.mono hz1')⟩
            · have Hv := Lib.hid (Hw.out.trans (if_neg h3))
              have hkl := keepL_length lo hi m
              generalize keepL lo hi m = m' at *
              go_wp2_with fail
              go_ret2
              rw [Hv.out]
              exact ⟨_, rfl, World.ownsRow_nil _ _ _ _, B2.trans (hB2.mono hz1')⟩
      · have g2' : inB hi 1000 9999 = false := by simpa using g2
        have Hv := Lib.hid (show rMarks l lo hi = ([], 2) by rw [rMarks, if_pos h, if_neg (by simp [g2'])])
        have I := fun W hW => sIsGraduation_any A n c l W Hl.out hn hW hr
        rw [h] at I
        clear h hl
        go_enter Try.func15, Try.ntmps15
        go_wp2_with fail
        refine (I _ hs).mono ?_
        rintro e w1 ⟨rfl, b1⟩
        go_wp2_with (go_at_call 68; refine (l01In_any _ _ _ _).mono ?_; rintro e w' ⟨rfl, rfl⟩)
        go_ret2
        rw [Hv.out]
        exact ⟨_, rfl, World.ownsRow_nil _ _ _ _, b1⟩
    · have g1' : inB lo 1000 9999 = false := by simpa using g1
      have Hv := Lib.hid (show rMarks l lo hi = ([], 2) by rw [rMarks, if_pos h, if_neg (by simp [g1'])])
      have I := fun W hW => sIsGraduation_any A n c l W Hl.out hn hW hr
      rw [h] at I
      clear h hl
      go_enter Try.func15, Try.ntmps15
      go_wp2_with fail
      refine (I _ hs).mono ?_
      rintro e w1 ⟨rfl, b1⟩
      go_wp2_with (go_at_call 68; refine (l01In_any _ _ _ _).mono ?_; rintro e w' ⟨rfl, rfl⟩)
      go_ret2
      rw [Hv.out]
      exact ⟨_, rfl, World.ownsRow_nil _ _ _ _, b1⟩
  · have h : gradB l = false := by simpa using h
    have Hv := Lib.hid (show rMarks l lo hi = ([], 1) by rw [rMarks, if_neg (by simp [h])])
    have I := fun W hW => sIsGraduation_any A n c l W Hl.out hn hW hr
    rw [h] at I
    clear h hl
    go_enter Try.func15, Try.ntmps15
    go_wp2_with fail
    refine (I _ hs).mono ?_
    rintro e w1 ⟨rfl, b1⟩
    go_wp2_with (go_at_call 68; refine (l01In_any _ _ _ _).mono ?_; rintro e w' ⟨rfl, rfl⟩)
    go_ret2
    rw [Hv.out]
    exact ⟨_, rfl, World.ownsRow_nil _ _ _ _, b1⟩
end Go.Proofs.Ytkblmcpklpmobaa
