/- The program's TicksOf (layer 8). No condition. -/
import Derived.Test.YtkblmcpklpmobaaStW3T
import Derived.Test.YtkblmcpklpmobaaTo2
namespace Go.Proofs.Ytkblmcpklpmobaa
open Go.RowKit
set_option linter.unusedVariables false
set_option linter.unusedSimpArgs false

set_option maxHeartbeats 400000 in
theorem isNaN64_any (x : Int) (w : World) :
    Calls Try.prog 135 #[.int .i64 x] w fun e w' => e = .returned (.bool false) ∧ w = w' := by
  go_enter Try.func135, Try.ntmps135
  go_wp2
  go_ret
  exact ⟨endBool (by simp), rfl⟩
set_option maxHeartbeats 1000000 in
theorem compare64_any (x y : Int) (w : World) :
    Calls Try.prog 113 #[.int .i64 x, .int .i64 y] w fun e w' => ∃ r : Int, e = .returned (.int .i64 r) ∧ (r < 0 ↔ x < y) ∧ -1 ≤ r ∧ r ≤ 1 ∧ w = w' := by
  by_cases h1 : x < y
  · have h2 : ¬ y < x := by omega
    go_enter Try.func113, Try.ntmps113
    go_wp2_with (go_at_call 135; refine (isNaN64_any _ _).mono ?_; rintro e w' ⟨rfl, rfl⟩)
    go_ret
    exact ⟨-1, rfl, by omega, by omega, by omega, rfl⟩
  · by_cases h2 : y < x
    · go_enter Try.func113, Try.ntmps113
      go_wp2_with (go_at_call 135; refine (isNaN64_any _ _).mono ?_; rintro e w' ⟨rfl, rfl⟩)
      go_ret
      exact ⟨1, rfl, by omega, by omega, by omega, rfl⟩
    · go_enter Try.func113, Try.ntmps113
      go_wp2_with (go_at_call 135; refine (isNaN64_any _ _).mono ?_; rintro e w' ⟨rfl, rfl⟩)
      go_ret
      exact ⟨0, rfl, by omega, by omega, by omega, rfl⟩
set_option maxHeartbeats 1000000 in
theorem ticksOrder_any (g : Nat) (w : World) : CmpCT plcOf g w := by
  intro W hW x y
  obtain ⟨x0, x1, x2⟩ := x
  obtain ⟨y0, y1, y2⟩ := y
  have C := fun V => compare64_any x1 y1 V
  go_enter Try.func112, Try.ntmps112
  go_wp2_with fail
  refine (C _).mono ?_
  rintro e w1 ⟨r, rfl, h1, h2, h3, rfl⟩
  have H := Lib.hid h1
  clear C h1
  go_wp2_with fail
  go_ret
  exact ⟨r, rfl, H.out, h2, h3, by repeat' (first | exact Below.refl _ _ | assumption | refine Below.alloc ?_ (by first | omega | (simp; done) | (simp; omega)) _ | refine Below.drew ?_ | refine Below.setCell ?_ (by first | omega | (simp; done) | (simp; omega)) _)⟩
/-- marks that a slice shows, in a block of their own -/
def KeptM (w : World) (A : Option Addr) (M : List Int) (v : Value) : Prop := ∀ j y, M[j]? = some y → ∃ b off, A = some ⟨b, off, none⟩ ∧ b < w.heap.size ∧ some b ≠ v.ownBlock ∧ w.cell? ⟨b, off + j, none⟩ = some (.int .i64 y)
set_option maxRecDepth 100000 in
set_option maxHeartbeats 4000000 in
theorem ticksOf_any (A : Option Addr) (n c : Nat) (l : List (Int × Int × Int)) (sc len lo hi : Int) (w : World) (hl : l.length = n) (hn : n ≤ 12) (hs : Sees w w.heap.size A (cells3 l)) (hg : partsIn l) (h1 : 1 ≤ len) (h2 : len ≤ 100000) (h150 : (keepL lo hi (marks l)).length ≤ 150) (hM : ∀ x ∈ keepL lo hi (marks l), 1000 ≤ x ∧ x ≤ 9999) :
    Calls Try.prog 93 #[.slice A n c, .int .i64 sc, .int .i64 len, .int .i64 lo, .int .i64 hi] w fun e w' => ∃ v, e = .returned v ∧ w'.ownsRow w.heap.size 51 3 v (ticksIn (keepL lo hi (marks l)) sc len).length (cells3 (ticksIn (keepL lo hi (marks l)) sc len)) ∧ Below w.heap.size w w' := by
  have MK := fun W hW => marksIn_any A n c l lo hi W hl hn hW hg
  have HM := Lib.hid hM
  obtain ⟨i0, hi', hz0, hz1, hz2⟩ := info_parts infoTickT
  generalize keepL lo hi (marks l) = M at *
  clear hM hl hg
  go_enter Try.func93, Try.ntmps93
  go_wp2_with fail
  refine (MK _ ((hs.block (Nat.le_refl _) _).wider (by simp))).mono ?_
  rintro e w2 ⟨vm, rfl, om, b2⟩
  obtain ⟨mA, mc, rfl⟩ := ownShape om
  have B2 : Below w.heap.size w w2 := Below.trans (by repeat' (first | (with_reducible exact Below.refl _ _) | (with_reducible assumption) | (with_reducible refine Below.alloc ?_ ?_ _) | (with_reducible refine Below.drew ?_) | (with_reducible refine belowDraws ?_ _) | (with_reducible refine Below.setCell ?_ ?_ _) | omega | (simp; done) | (simp; omega))) (b2.mono (by simp))
  have o2 := ownOver (World.ownsRow_made (base := w.heap.size) (e := 51) (size := 3) w #[] 0 (Nat.le_refl _) (Nat.zero_le _) rfl) b2
  have KM : KeptM w2 mA M (.slice (some ⟨w.heap.size, 0, none⟩) 0 0) := fun j y hy => by
    obtain ⟨b, off, hA, hb, hc⟩ := Sees.ofOwn om j (.int .i64 y) (by rw [List.getElem?_map, hy]; rfl)
    have hlt := (om.lt b (by rw [hA]; rcases ownRow om with ⟨hv, _, _⟩ | ⟨g, cap, cur, hv, _⟩; (rw [hA] at hv; cases hv); (injection hv with hv; rw [hA] at hv; injection hv with hv; injection hv with e1 e2 e3; subst e1 e2; rfl))).1
    simp at hlt
    exact ⟨b, off, hA, hb, by simp [Value.ownBlock]; omega, hc⟩
  have z2 := B2.size
  clear MK om b2 hs
  go_wp2_with fail
  go_loopw [11, 20] (fun v i wr => ∃ k : Nat, k ≤ M.length ∧ i = .int .i64 k ∧ v ≠ .slice none 0 0 ∧ wr.ownsRow w.heap.size 51 3 v k (cells3 ((M.take k).map (tickAt sc len))) ∧ KeptM wr mA M v ∧ Below w.heap.size w wr) (fun _ i _ => M.length - (intOf i).toNat)
  case atStart => exact ⟨0, Nat.zero_le _, rfl, by simp, o2, KM, B2⟩
  case round =>
    clear o2 KM B2
    obtain ⟨k, hk, rfl, hnil, hown, hKM, hB⟩ := hrel
    have zr := hB.size
    by_cases hlt : k < M.length
    · obtain ⟨y, hy⟩ : ∃ y, M[k]? = some y := ⟨_, List.getElem?_eq_getElem hlt⟩
      obtain ⟨b, off, rfl, hb, hne, c0⟩ := hKM k y hy
      have hyb := HM.out y (List.mem_of_getElem? hy)
      have hy1 := hyb.1
      have hy2 := hyb.2
      have MD := fun W => middle_any sc y len W ⟨hy1, hy2⟩ h1 h2
      have HT := Lib.hid (show (M.take (k + 1)).map (tickAt sc len) = (M.take k).map (tickAt sc len) ++ [(y, mid sc len y, heightOf y)] by rw [List.take_add_one, hy]; simp [tickAt])
      have hml : ((M.take k).map (tickAt sc len)).length = k := by rw [List.length_map, List.length_take]; omega
      have HKM := Lib.hid hKM
      have HNIL := Lib.hid hnil
      obtain ⟨A3, c3, rfl⟩ := ownShape hown
      clear hy hyb hKM hnil
      rw [show (plL sc y 0 len + plU sc y 0 len) / 2 = mid sc len y from rfl] at MD
      generalize mid sc len y = md at *
      go_wp2_with fail
      refine (MD _).mono ?_
      rintro e w3 ⟨rfl, b3⟩
      have hown3' := ownOver hown b3
      have B3 : Below w.heap.size w w3 := hB.trans (b3.mono zr)
      have z3 := B3.size
      have y3 := b3.size
      have K3 : KeptM w3 (some ⟨b, off, none⟩) M (.slice A3 k c3) := fun j y hy => by
        obtain ⟨b', off', hA, hb', hne', hc⟩ := HKM.out j y hy
        exact ⟨b', off', hA, by omega, hne', (b3.cell (p := ⟨b', off' + j, none⟩) hb').trans hc⟩
      have HK3 := Lib.hid K3
      clear hown K3 b3
      go_wp2_with fail
      refine (tickHeight_any y _ hy1 hy2).mono ?_
      rintro e w4 ⟨rfl, hw4⟩
      have hown3 : w4.ownsRow w.heap.size 51 3 (.slice A3 k c3) k (cells3 ((M.take k).map (tickAt sc len))) := by rw [← hw4]; exact hown3'.alloc _
      have B4 : Below w.heap.size w w4 := by rw [← hw4]; exact B3.alloc z3 _
      have K4 := Lib.hid (show KeptM w4 (some ⟨b, off, none⟩) M (.slice A3 k c3) from fun j y hy => by
        obtain ⟨b', off', hA, hb', hne', hc⟩ := HK3.out j y hy
        rw [← hw4]
        exact ⟨b', off', hA, by rw [World.size_alloc]; omega, hne', (World.cell?_alloc_lt _ _ ⟨b', off' + j, none⟩ hb').trans hc⟩)
      have z4 := B4.size
      clear hw4 hown3' B3
      go_wp2_with (at_builtin; refine wpList_append_own_at _ rfl _ _ 40 rfl w.heap.size 51 i0 _ 3 24 Try.underlying40 hi' hz0 hz1 hz2 rfl (by decide) _ _ _ rfl (hown3.alloc _) ⟨w4.heap.size, 0, none⟩ 1 1 [.int .i64 y, .int .i64 md, .int .i64 (heightOf y)] rfl rfl ?_ ?_ ?_ ?_ ?_ ?_; exact newsAt _ _ rfl _ _; (intro u hu; simp at hu; rcases hu with rfl | rfl | rfl <;> rfl); (unfold maxLen; omega); omega; (simp; omega); intro v' w5 hown1 hgr1 hnil1 hat1)
      have K5 := Lib.hid (show KeptM w5 (some ⟨b, off, none⟩) M v' from fun j y' hy => by
        obtain ⟨b', off', hA, hb', hne', hc⟩ := K4.out j y' hy
        refine ⟨b', off', hA, Nat.lt_of_lt_of_le hb' (Nat.le_trans (by rw [World.size_alloc]; omega) hgr1.size), ?_, ?_⟩
        · rcases hat1 with e | e
          · rw [e]; exact hne'
          · rw [e]; intro e2; injection e2 with e2; rw [World.size_alloc] at e2; omega
        · exact (hgr1.cell_far ⟨b', off' + j, none⟩ (by rw [World.size_alloc]; show b' < _; omega) hne').trans ((World.cell?_alloc_lt _ _ ⟨b', off' + j, none⟩ hb').trans hc))
      have B5 : Below w.heap.size w w5 := (B4.alloc z4 (.cells #[.int .i64 y, .int .i64 md, .int .i64 (heightOf y)] 51)).grown hgr1 (by simp; omega) (fun q hq => (hown3.lt q hq).1)
      have HN5 := Lib.hid (show v' ≠ .slice none 0 0 from fun e => HNIL.out (hnil1.1 e).1)
      clear hgr1 hat1 hnil1
      go_wp2_with fail
      go_roundw
      case rel => exact ⟨k + 1, by omega, by go_num, HN5.out, by rw [HT.out, cells3_append]; exact hown1, K5.out, B5⟩
      case measure => simp [intOf]; omega
    · obtain rfl : k = M.length := by omega
      rw [List.take_length] at hown
      obtain ⟨A3, c3, rfl⟩ := ownShape hown
      obtain ⟨g, rfl, hbg, hnc, hcm, hHd⟩ := HdT.of_own hown hnil
      have HL := Lib.hid (show (M.map (tickAt sc len)).length = M.length from List.length_map ..)
      have SRT := fun W hW => sortStableT_any plcOf g M.length c3 (M.map (tickAt sc len)) W (by omega) HL.out hW (ticksOrder_any g W)
      clear hKM hown hnil
      go_wp2_with fail
      refine (SRT _ hHd).mono ?_
      rintro e w3 ⟨rfl, r, rfl, H3, G3⟩
      have HT := Lib.hid (show stabSort plcOf (M.map (tickAt sc len)) = ticksIn M sc len from rfl)
      rw [HT.out] at H3
      have HTL := Lib.hid (ticksIn_length M sc len)
      have own3 := H3.own hbg (by rw [HTL.out]; exact hnc) hcm
      rw [HTL.out] at own3
      have B3 : Below w.heap.size w w3 := hB.grown G3 zr (fun q hq => by injection hq with hq; omega)
      clear SRT H3 G3 hHd
      go_wp2_with fail
      go_ret
      exact ⟨_, rfl, by rw [HTL.out]; exact own3, B3⟩
set_option maxRecDepth 100000 in
set_option maxHeartbeats 4000000 in
theorem iTicksOf_any (A : Option Addr) (n c : Nat) (l : List (Int × Int × Int)) (sc len lo hi : Int) (w : World) (hl : l.length = n) (hn : n ≤ 1048576) (hs : Sees w w.heap.size A (cells3 l)) (hr : I64s3 l) :
    Calls Try.prog 46 #[.slice A n c, .int .i64 sc, .int .i64 len, .int .i64 lo, .int .i64 hi] w (GivesS 51 3 (rTicks l sc len lo hi).1.length (cells3 (rTicks l sc len lo hi).1) (rTicks l sc len lo hi).2 w) := by
  have Hl := Lib.hid hl
  by_cases h : gradB l = true
  · by_cases g0 : inB sc 0 5 = true
    · by_cases g3 : inB len 1 100000 = true
      · by_cases g1 : inB lo 1000 9999 = true
        · by_cases g2 : inB hi 1000 9999 = true
          · obtain ⟨hg, h1, h2⟩ := gradB_in h
            have Hw := Lib.hid (show rTicks l sc len lo hi = _ by rw [rTicks, if_pos h, g0, g3, g1, g2, Bool.and_self, Bool.and_self, Bool.and_self, if_pos rfl])
            have hn12 : n ≤ 12 := by omega
            have MK := fun W hW => marksIn_any A n c l lo hi W Hl.out hn12 hW hg
            have ln := inB_iff.1 g3
            have hM : ∀ x ∈ keepL lo hi (marks l), 1000 ≤ x ∧ x ≤ 9999 := fun x hx => by have := (keepL_mem hx).2; have := inB_iff.1 g1; have := inB_iff.1 g2; omega
            have TK := fun (h : (keepL lo hi (marks l)).length ≤ 150) W hW => ticksOf_any A n c l sc len lo hi W Hl.out hn12 hW hg ln.1 ln.2 h hM
            have I := fun W hW => iIsGraduation_any A n c l W Hl.out hn hW hr
            rw [h] at I
            generalize keepL lo hi (marks l) = M at *
            clear hg h h1 h2 hl hM
            by_cases h150 : M.length ≤ 150
            · have Hv := Lib.hid (Hw.out.trans (if_pos h150))
              have TK2 := TK h150
              clear Hw TK
              go_enter Try.func46, Try.ntmps46
              go_wp2_with fail
              refine (I _ hs).mono ?_
              rintro e w1 ⟨rfl, b1⟩
              have s1 := (hs.over b1).wider b1.size
              go_wp2_with (first
                | (go_at_call 91; refine (iIsScale_any _ _).mono ?_; rintro e w' ⟨rfl, rfl⟩)
                | (go_at_call 92; refine (isLength_any _ _).mono ?_; rintro e w' ⟨rfl, rfl⟩)
                | (go_at_call 66; refine (isDigits_any _ _).mono ?_; rintro e w' ⟨rfl, rfl⟩))
              refine (MK _ s1).mono ?_
              rintro e w2 ⟨vm, rfl, om, b2⟩
              obtain ⟨mA, mc, rfl⟩ := ownShape om
              have B2 := b1.trans (b2.mono b1.size)
              clear om MK
              go_wp2_with fail
              refine (TK2 _ ((hs.over B2).wider B2.size)).mono ?_
              rintro e w3 ⟨vt, rfl, ot, b3⟩
              have B3 := B2.trans (b3.mono B2.size)
              have z2 := B2.size
              obtain ⟨tA, tc, rfl⟩ := ownShape ot
              clear TK2
              generalize ticksIn M sc len = T at *
              go_wp2_with fail
              go_ret2
              rw [Hv.out]
              exact ⟨_, rfl, ownLower ot z2, B3⟩
            · have Hv := Lib.hid (Hw.out.trans (if_neg h150))
              clear Hw TK
              go_enter Try.func46, Try.ntmps46
              go_wp2_with fail
              refine (I _ hs).mono ?_
              rintro e w1 ⟨rfl, b1⟩
              have s1 := (hs.over b1).wider b1.size
              go_wp2_with (first
                | (go_at_call 91; refine (iIsScale_any _ _).mono ?_; rintro e w' ⟨rfl, rfl⟩)
                | (go_at_call 92; refine (isLength_any _ _).mono ?_; rintro e w' ⟨rfl, rfl⟩)
                | (go_at_call 66; refine (isDigits_any _ _).mono ?_; rintro e w' ⟨rfl, rfl⟩))
              refine (MK _ s1).mono ?_
              rintro e w2 ⟨vm, rfl, om, b2⟩
              obtain ⟨mA, mc, rfl⟩ := ownShape om
              have B2 := b1.trans (b2.mono b1.size)
              clear om MK
              go_wp2_with fail
              go_ret2
              rw [Hv.out]
              exact ⟨_, rfl, World.ownsRow_nil _ _ _ _, B2⟩
          · have g2' : inB hi 1000 9999 = false := by simpa using g2
            have Hv := Lib.hid (show rTicks l sc len lo hi = ([], 2) by rw [rTicks, if_pos h, if_neg (by simp [g2'])])
            have I := fun W hW => iIsGraduation_any A n c l W Hl.out hn hW hr
            rw [h] at I
            clear h hl
            go_enter Try.func46, Try.ntmps46
            go_wp2_with fail
            refine (I _ hs).mono ?_
            rintro e w1 ⟨rfl, b1⟩
            go_wp2_with (first
              | (go_at_call 91; refine (iIsScale_any _ _).mono ?_; rintro e w' ⟨rfl, rfl⟩)
              | (go_at_call 92; refine (isLength_any _ _).mono ?_; rintro e w' ⟨rfl, rfl⟩)
              | (go_at_call 66; refine (isDigits_any _ _).mono ?_; rintro e w' ⟨rfl, rfl⟩))
            go_ret2
            rw [Hv.out]
            exact ⟨_, rfl, World.ownsRow_nil _ _ _ _, b1⟩
        · have g1' : inB lo 1000 9999 = false := by simpa using g1
          have Hv := Lib.hid (show rTicks l sc len lo hi = ([], 2) by rw [rTicks, if_pos h, if_neg (by simp [g1'])])
          have I := fun W hW => iIsGraduation_any A n c l W Hl.out hn hW hr
          rw [h] at I
          clear h hl
          go_enter Try.func46, Try.ntmps46
          go_wp2_with fail
          refine (I _ hs).mono ?_
          rintro e w1 ⟨rfl, b1⟩
          go_wp2_with (first
            | (go_at_call 91; refine (iIsScale_any _ _).mono ?_; rintro e w' ⟨rfl, rfl⟩)
            | (go_at_call 92; refine (isLength_any _ _).mono ?_; rintro e w' ⟨rfl, rfl⟩)
            | (go_at_call 66; refine (isDigits_any _ _).mono ?_; rintro e w' ⟨rfl, rfl⟩))
          go_ret2
          rw [Hv.out]
          exact ⟨_, rfl, World.ownsRow_nil _ _ _ _, b1⟩
      · have g3' : inB len 1 100000 = false := by simpa using g3
        have Hv := Lib.hid (show rTicks l sc len lo hi = ([], 2) by rw [rTicks, if_pos h, if_neg (by simp [g3'])])
        have I := fun W hW => iIsGraduation_any A n c l W Hl.out hn hW hr
        rw [h] at I
        clear h hl
        go_enter Try.func46, Try.ntmps46
        go_wp2_with fail
        refine (I _ hs).mono ?_
        rintro e w1 ⟨rfl, b1⟩
        go_wp2_with (first
          | (go_at_call 91; refine (iIsScale_any _ _).mono ?_; rintro e w' ⟨rfl, rfl⟩)
          | (go_at_call 92; refine (isLength_any _ _).mono ?_; rintro e w' ⟨rfl, rfl⟩)
          | (go_at_call 66; refine (isDigits_any _ _).mono ?_; rintro e w' ⟨rfl, rfl⟩))
        go_ret2
        rw [Hv.out]
        exact ⟨_, rfl, World.ownsRow_nil _ _ _ _, b1⟩
    · have g0' : inB sc 0 5 = false := by simpa using g0
      have Hv := Lib.hid (show rTicks l sc len lo hi = ([], 2) by rw [rTicks, if_pos h, if_neg (by simp [g0'])])
      have I := fun W hW => iIsGraduation_any A n c l W Hl.out hn hW hr
      rw [h] at I
      clear h hl
      go_enter Try.func46, Try.ntmps46
      go_wp2_with fail
      refine (I _ hs).mono ?_
      rintro e w1 ⟨rfl, b1⟩
      go_wp2_with (first
        | (go_at_call 91; refine (iIsScale_any _ _).mono ?_; rintro e w' ⟨rfl, rfl⟩)
        | (go_at_call 92; refine (isLength_any _ _).mono ?_; rintro e w' ⟨rfl, rfl⟩)
        | (go_at_call 66; refine (isDigits_any _ _).mono ?_; rintro e w' ⟨rfl, rfl⟩))
      go_ret2
      rw [Hv.out]
      exact ⟨_, rfl, World.ownsRow_nil _ _ _ _, b1⟩
  · have h : gradB l = false := by simpa using h
    have Hv := Lib.hid (show rTicks l sc len lo hi = ([], 1) by rw [rTicks, if_neg (by simp [h])])
    have I := fun W hW => iIsGraduation_any A n c l W Hl.out hn hW hr
    rw [h] at I
    clear h hl
    go_enter Try.func46, Try.ntmps46
    go_wp2_with fail
    refine (I _ hs).mono ?_
    rintro e w1 ⟨rfl, b1⟩
    go_wp2_with (first
      | (go_at_call 91; refine (iIsScale_any _ _).mono ?_; rintro e w' ⟨rfl, rfl⟩)
      | (go_at_call 92; refine (isLength_any _ _).mono ?_; rintro e w' ⟨rfl, rfl⟩)
      | (go_at_call 66; refine (isDigits_any _ _).mono ?_; rintro e w' ⟨rfl, rfl⟩))
    go_ret2
    rw [Hv.out]
    exact ⟨_, rfl, World.ownsRow_nil _ _ _ _, b1⟩
set_option maxRecDepth 100000 in
set_option maxHeartbeats 2000000 in
theorem fnExactTicksOf_walk (A : Option Addr) (n c : Nat) (l : List (Int × Int × Int)) (sc : Int) (len : Int) (lo : Int) (hi : Int) (w : World) (hl : l.length = n) (_hc : n ≤ c) (hm : c ≤ maxLen) (hs : Sees w w.heap.size A (cells3 l)) (hr : I64s3 l) (_gsc : I64 sc) (_glen : I64 len) (_glo : I64 lo) (_ghi : I64 hi) :
    Calls Try.prog 6 #[.slice A n c, .int .i64 sc, .int .i64 len, .int .i64 lo, .int .i64 hi] w fun e w' => e = .returned (.bool true) ∧ Below w.heap.size w w' := by
  unfold maxLen at hm
  have Hl := Lib.hid hl
  clear hl
  by_cases hn : n ≤ 1048576
  · obtain ⟨⟨L, code⟩, HV⟩ : ∃ p, Hid (rTicks l sc len lo hi = p) := ⟨_, Lib.hid rfl⟩
    have hL : L.length ≤ 1048576 := by have := rTicks_len l sc len lo hi; rw [HV.out] at this; exact this
    have S := fun (AA : Option Addr) (W : World) hS => sTicksOf_any AA n n l sc len lo hi W Hl.out hn (hS) hr
    have J := fun (AA : Option Addr) (W : World) hS => iTicksOf_any AA n n l sc len lo hi W Hl.out hn (hS) hr
    rw [HV.out] at S J
    go_enter Try.func6, Try.ntmps6
    go_wp2_with (go_at_call 43; refine (szPartS_yes _ _ _ _ hn).mono ?_; rintro e w' ⟨rfl, rfl⟩)
    refine (toPartS_any _ _ _ l _ Hl.out hn hs).mono ?_
    rintro e w1 ⟨rfl, F1, b1⟩
    have B1 : Below w.heap.size w w1 := (Below.refl w.heap.size w).trans (b1.mono (Below.refl w.heap.size w).size)
    go_wp2_with fail
    refine (S (some ⟨w.heap.size, 0, none⟩) _ F1.sees).mono ?_
    rintro e w2 ⟨v, rfl, o0, b2⟩
    obtain ⟨vA, vc, rfl⟩ := ownShape o0
    have B2 : Below w.heap.size w w2 := B1.trans (b2.mono B1.size)
    have o0n := o0.lt
    go_wp2_with fail
    refine (toPartS_any _ _ _ l _ Hl.out hn ((hs.over B2).wider B2.size)).mono ?_
    rintro e w3 ⟨rfl, F3, b3⟩
    have hF3i := F3.inside
    replace o0 := ownOver o0 b3
    have B3 : Below w.heap.size w w3 := B2.trans (b3.mono B2.size)
    go_wp2_with fail
    refine (J (some ⟨w2.heap.size, 0, none⟩) _ F3.sees).mono ?_
    rintro e w4 ⟨u, rfl, o1, b4⟩
    obtain ⟨uA, uc, rfl⟩ := ownShape o1
    replace o0 := ownOver o0 b4
    replace F3 := F3.over b4 F3.inside
    have B4 : Below w.heap.size w w4 := B3.trans (b4.mono B3.size)
    have o1n := o1.lt
    go_wp2_with fail
    refine (eqTickS_same _ _ _ _ _ L _ rfl hL (Sees.ofOwn o1) (Sees.ofOwn o0)).mono ?_
    rintro e w5 ⟨rfl, b5⟩
    replace o0 := ownOver o0 b5
    replace o1 := ownOver o1 b5
    replace F3 := F3.over b5 F3.inside
    have B5 : Below w.heap.size w w5 := B4.trans (b5.mono B4.size)
    go_wp2_with fail
    refine (toPartS_any _ _ _ l _ Hl.out hn ((hs.over B5).wider B5.size)).mono ?_
    rintro e w6 ⟨rfl, F6, b6⟩
    replace o0 := ownOver o0 b6
    replace o1 := ownOver o1 b6
    replace F3 := F3.over b6 F3.inside
    have B6 : Below w.heap.size w w6 := B5.trans (b6.mono B5.size)
    go_wp2_with fail
    refine (eqPartS_same _ _ _ _ _ l _ Hl.out hn F3.sees F6.sees).mono ?_
    rintro e w7 ⟨rfl, b7⟩
    replace o0 := ownOver o0 b7
    replace o1 := ownOver o1 b7
    replace F3 := F3.over b7 F3.inside
    have B7 : Below w.heap.size w w7 := B6.trans (b7.mono B6.size)
    go_wp2_with fail
    refine (markPartS_own w2.heap.size n _ _ _ hn (ownOfFull (n := n) (size := 3) F3 (by rw [cells3_length, Hl.out]; omega) (by unfold maxLen; omega))).mono ?_
    rintro e w8 ⟨rfl, ox, hg8⟩
    replace hg8 : w7.grownBy w8 (some w2.heap.size) := hg8
    have B8 : Below w.heap.size w w8 := B7.grown hg8 B7.size (fun j hj => by injection hj with hj; have := B2.size; omega)
    have s3 := b3.size
    have F3i := hF3i
    have s3' : w2.heap.size < w3.heap.size := Nat.lt_of_lt_of_le F3i (Nat.le_refl _)
    replace o0 := ownGrown o0 hg8 (ownNo (fun j hj => by have := o0n j hj; omega))
    replace o1 := ownGrown o1 hg8 (ownNo (fun j hj => by have := o1n j hj; omega))
    clear ox F3
    go_wp2_with fail
    refine (eqTickS_same _ _ _ _ _ L _ rfl hL (Sees.ofOwn o1) (Sees.ofOwn o0)).mono ?_
    rintro e w9 ⟨rfl, b9⟩
    replace o0 := ownOver o0 b9
    replace o1 := ownOver o1 b9
    have B9 : Below w.heap.size w w9 := B8.trans (b9.mono B8.size)
    go_wp2_with fail
    refine (markTickS_own _ L.length _ _ _ hL o1).mono ?_
    rintro e w10 ⟨rfl, o1, hg10⟩
    have hlo := b3.size
    have B10 : Below w.heap.size w w10 := B9.grown hg10 B9.size (fun j hj => by have := o1n j hj; have := B3.size; omega)
    replace o0 := ownGrown o0 hg10 (ownNo2 (fun j hj => (o0n j hj).2) (fun j hj => (o1n j hj).1) hlo)
    go_wp2_with fail
    refine (heldTickS_seen _ _ _ _ _ hL (Sees.ofOwn o1)).mono ?_
    rintro e w' ⟨rfl, rfl⟩
    go_wp2_with fail
    refine (toPartS_any _ _ _ l _ Hl.out hn ((hs.over B10).wider B10.size)).mono ?_
    rintro e w11 ⟨rfl, F11, b11⟩
    replace o0 := ownOver o0 b11
    replace o1 := ownOver o1 b11
    have B11 : Below w.heap.size w w11 := B10.trans (b11.mono B10.size)
    go_wp2_with fail
    refine (J (some ⟨w10.heap.size, 0, none⟩) _ F11.sees).mono ?_
    rintro e w12 ⟨t, rfl, o2, b12⟩
    obtain ⟨tA, tc, rfl⟩ := ownShape o2
    replace o0 := ownOver o0 b12
    replace o1 := ownOver o1 b12
    have B12 : Below w.heap.size w w12 := B11.trans (b12.mono B11.size)
    have o2n := o2.lt
    go_wp2_with fail
    refine (eqTickS_same _ _ _ _ _ L _ rfl hL (Sees.ofOwn o2) (Sees.ofOwn o0)).mono ?_
    rintro e w13 ⟨rfl, b13⟩
    replace o0 := ownOver o0 b13
    replace o1 := ownOver o1 b13
    replace o2 := ownOver o2 b13
    have B13 : Below w.heap.size w w13 := B12.trans (b13.mono B12.size)
    go_wp2_with fail
    refine (heldTickS_seen _ _ _ _ _ hL (Sees.ofOwn o1)).mono ?_
    rintro e w' ⟨rfl, rfl⟩
    go_wp2_with fail
    go_ret
    exact ⟨rfl, B13⟩
  · go_enter Try.func6, Try.ntmps6
    go_wp2_with (go_at_call 43; refine (szPartS_no _ _ _ _ (by omega) (by omega)).mono ?_; rintro e w' ⟨rfl, rfl⟩)
    go_ret
    exact ⟨rfl, Below.refl _ _⟩
end Go.Proofs.Ytkblmcpklpmobaa
