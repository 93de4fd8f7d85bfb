/- Draws of lists of ticks with labels, of tables of a proof, of pairs (layer 9). No condition. -/
import Derived.Test.YtpbhncgjnmaojaaDoorDrL
import Derived.Test.YtpbhncgjnmaojaaDoorPo5
namespace Go.Proofs.YtpbhncgjnmaojaaDoor
open Go.RowKit
set_option linter.unusedVariables false
set_option linter.unusedSimpArgs false

theorem infoTickM : (Tryd.prog.info? 26).map (fun i => (i.zero, i.size, i.bytes)) = some (some (.agg #[.int .i64 0, .int .i64 0, .int .i64 0]), 3, 24) := by kernel_rfl
theorem i64s3_more {L : List (Int × Int × Int)} {x y z : Int} (h : I64s3 L) (h1 : I64 x) (h2 : I64 y) (h3 : I64 z) : I64s3 (L ++ [(x, y, z)]) := fun q hq => by
  rcases List.mem_append.1 hq with hq | hq
  · exact h q hq
  · rw [List.mem_singleton] at hq; subst hq; exact ⟨h1, h2, h3⟩
/-- ticks drawn: in a block of their own -/
def GivesTkL (b : Nat) (A : Option Addr) (n c : Nat) (l : List Int) (w : World) (e : Ending) (w' : World) : Prop := ∃ v T, e = .returned v ∧ T.length ≤ 41 ∧ I64s3 T ∧ w'.ownsRow w.heap.size 26 3 v T.length (cells3 T) ∧ Src w' b A n c l ∧ w.grownBy w' (some b)
/-- one number of a row of its own is written -/
theorem ownSet {w : World} {base g n cap k : Nat} {V : List Int} {x : Int} (h : w.ownsRow base 2 1 (.slice (some ⟨g, 0, none⟩) n cap) n (V.map (Value.int .i64))) (hk : k < n) : (w.setCell ⟨g, k, none⟩ (.int .i64 x)).ownsRow base 2 1 (.slice (some ⟨g, 0, none⟩) n cap) n ((V.set k x).map (Value.int .i64)) := by
  have hlen := h.1
  rcases ownRow h with ⟨hv, _, _⟩ | ⟨g', cap', cur, hv, hb, F, h1, h2, h3, htk⟩
  · cases hv
  · injection hv with hA _ hc
    injection hA with hA
    injection hA with hA _
    subst hA hc
    rw [Nat.mul_one] at htk h3
    rw [List.length_map, Nat.mul_one] at hlen
    refine ownMake hb (F.put k _) h1 h2 (by rw [Array.size_setIfInBounds, h3, Nat.mul_one]) (by rw [List.length_map, List.length_set, hlen, Nat.mul_one]) (fun j hj => ?_)
    rw [Nat.mul_one] at hj
    rw [Array.getElem?_setIfInBounds, List.getElem?_map, List.getElem?_set]
    by_cases e : k = j
    · rw [if_pos e, if_pos (by omega), if_pos e, if_pos (by omega)]; rfl
    · rw [if_neg e, if_neg e, ← List.getElem?_map, ← htk, List.getElem?_take, if_pos hj]; simp
theorem ownFree {w : World} {base g n cap : Nat} {e : TypeId} {size : Nat} {xs : List Value} (h : w.ownsRow base e size (.slice (some ⟨g, 0, none⟩) n cap) n xs) (i : Nat) : w.frozen? ⟨g, i, none⟩ = false := by
  rcases ownRow h with ⟨hv, _, _⟩ | ⟨g', cap', cur, hv, hb, F, _⟩
  · cases hv
  · injection hv with hA _ hc
    injection hA with hA
    injection hA with hA _
    subst hA
    exact F.free i
theorem ownCut {w : World} {base g n cap k : Nat} {V : List Int} (h : w.ownsRow base 2 1 (.slice (some ⟨g, 0, none⟩) n cap) n (V.map (Value.int .i64))) (hk : k ≤ n) : w.ownsRow base 2 1 (.slice (some ⟨g, 0, none⟩) k cap) k ((V.take k).map (Value.int .i64)) := by
  have hlen := h.1
  rcases ownRow h with ⟨hv, _, _⟩ | ⟨g', cap', cur, hv, hb, F, h1, h2, h3, htk⟩
  · cases hv
  · injection hv with hA _ hc
    injection hA with hA
    injection hA with hA _
    subst hA hc
    rw [Nat.mul_one] at htk
    rw [List.length_map, Nat.mul_one] at hlen
    refine ownMake hb F (by omega) h2 h3 (by rw [List.length_map, List.length_take, hlen, Nat.mul_one]; omega) (fun j hj => ?_)
    rw [Nat.mul_one] at hj
    rw [List.getElem?_map, List.getElem?_take, if_pos hj, ← List.getElem?_map, ← htk, List.getElem?_take, if_pos (by omega)]
    simp
def SmallV (m : Int) (V : List Int) : Prop := ∀ x ∈ V, -100 ≤ x ∧ x ≤ m
theorem SmallV.i64 {m : Int} {V : List Int} (h : SmallV m V) (hm : m ≤ 100000) : I64s V := fun x hx => by
  have := h x hx
  unfold I64
  omega
theorem SmallV.put {m p x : Int} {V : List Int} {k : Nat} (h : SmallV m V) (h0 : -100 ≤ x) (h1 : x ≤ p) (hm : m ≤ p) : SmallV p (V.set k x) := fun y hy => by
  rcases List.mem_or_eq_of_mem_set hy with hy | hy
  · have := h y hy; omega
  · subst hy; exact ⟨h0, h1⟩
theorem SmallV.wide {m p : Int} {V : List Int} (h : SmallV m V) (hm : m ≤ p) : SmallV p V := fun x hx => by have := h x hx; omega
theorem SmallV.at_ {m x : Int} {V : List Int} {k : Nat} (h : SmallV m V) (hx : V[k]? = some x) : -100 ≤ x ∧ x ≤ m := h x (List.mem_of_getElem? hx)
set_option maxRecDepth 100000 in
set_option maxHeartbeats 8000000 in
theorem l09Draw_any (b : Nat) (A : Option Addr) (n c : Nat) (l : List Int) (w : World) (hl : l.length = n) (hn : n ≤ 1048576) (h8 : U8s l) (hS : Src w b A n c l) :
    Calls Tryd.prog 60 #[.pointer (some ⟨b, 0, none⟩)] w (GivesTkL b A n c l w) := by
  have yb := hS.inside
  obtain ⟨i0, hi', hz0, hz1, hz2⟩ := info_parts infoTickM
  go_enter Tryd.func60, Tryd.ntmps60
  go_wp2_with fail
  have o0 : (w.alloc (.cells #[] 26)).ownsRow w.heap.size 26 3 (.slice (some ⟨w.heap.size, 0, none⟩) 0 0) ([] : List (Int × Int × Int)).length (cells3 []) := World.ownsRow_made (base := w.heap.size) w #[] 0 (Nat.le_refl _) (Nat.zero_le _) rfl
  refine (l01Next_any _ b A n c l _ hl hn h8 (hS.alloc _)).mono ?_
  rintro e w1 ⟨v1, rfl, lo1, hi1, S1, g1⟩
  have hv1 : v1 ≤ 11 := by omega
  have o1 := ownGrown o0 g1 (ownNo (fun q hq => by have := (o0.lt q hq).1; omega))
  have G1 : w.grownBy w1 (some b) := grownTrans (gAlloc (grownRefl _ _) _) g1
  clear g1 hi1 o0
  go_wp2_with fail
  go_loopw [3, 4] (fun vo nv wr => ∃ (T : List (Int × Int × Int)) (y : Int), nv = .int .i64 y ∧ 0 ≤ y ∧ y ≤ 11 ∧ (T.length : Int) + y ≤ 11 ∧ Hid (I64s3 T) ∧ vo ≠ .slice none 0 0 ∧ wr.ownsRow w.heap.size 26 3 vo T.length (cells3 T) ∧ Src wr b A n c l ∧ w.grownBy wr (some b)) (fun _ nv _ => (intOf nv).toNat)
  case atStart => exact ⟨[], v1, rfl, lo1, hv1, by simp; omega, Lib.hid (fun p hp => by cases hp), by simp, o1, S1, G1⟩
  case round =>
    obtain ⟨T, y, rfl, yl, yh, hTy, HT, hnil, hown, hSr, hG⟩ := hrel
    have zr := hG.size
    have yr := hSr.inside
    have HNIL := Lib.hid hnil
    clear hnil S1 G1 o1
    obtain ⟨A2, c2, rfl⟩ := ownShape hown
    by_cases hy : 0 < y
    · go_wp2_with fail
      refine (l09DrawTick_any b A n c l _ hl hn h8 hSr).mono ?_
      rintro e w3 ⟨x3, y3', z3', rfl, i3a, i3b, i3c, S3, g3⟩
      have I3 := Lib.hid (And.intro i3a (And.intro i3b i3c))
      have o3 := ownGrown hown g3 (ownNo (fun q hq => by have := (hown.lt q hq).1; omega))
      have G3 : w.grownBy w3 (some b) := grownTrans hG g3
      have y3 := S3.inside
      have z3 := G3.size
      clear g3
      clear hown hSr hG i3a i3b i3c
      go_wp2_with (at_builtin; refine wpList_append_own_at _ rfl _ _ 36 rfl w.heap.size 26 i0 _ 3 24 Tryd.underlying36 hi' hz0 hz1 hz2 rfl (by decide) _ _ _ rfl (o3.alloc _) ⟨w3.heap.size, 0, none⟩ 1 1 [.int .i64 x3, .int .i64 y3', .int .i64 z3'] rfl rfl ?_ ?_ ?_ ?_ ?_ ?_; exact newsAt _ _ rfl _ _; (intro u hu; simp at hu; rcases hu with rfl | rfl | rfl <;> rfl); (unfold maxLen; omega); omega; (simp; omega); intro v' w4 hown1 hgr1 hnil1 _)
      have S4 := (S3.alloc (.cells #[.int .i64 x3, .int .i64 y3', .int .i64 z3'] 26)).grown hgr1 (fun g hg => by have := (o3.lt g hg).1; omega)
      have G4 : w.grownBy w4 (some b) := gGrown (gAlloc G3 (.cells #[.int .i64 x3, .int .i64 y3', .int .i64 z3'] 26)) hgr1 (fun g hg => (o3.lt g hg).1)
      have HN4 := Lib.hid (show v' ≠ .slice none 0 0 from fun e => HNIL.out (hnil1.1 e).1)
      clear hgr1 o3 S3 G3 hnil1
      go_wp2_with fail
      go_roundw
      case rel => exact ⟨T ++ [(x3, y3', z3')], y - 1, rfl, by omega, by omega, by simp; omega, Lib.hid (i64s3_more HT.out I3.out.1 I3.out.2.1 I3.out.2.2), HN4.out, by rw [cells3_append]; simpa [cells3] using hown1, S4, G4⟩
      case measure => simp [intOf]; omega
    · go_wp2_with fail
      refine (l01Next_any _ b A n c l _ hl hn h8 (hSr)).mono ?_
      rintro e w5 ⟨v5, rfl, lo5, hi5, S5, g5⟩
      have o5 := ownGrown hown g5 (ownNo (fun q hq => by have := (hown.lt q hq).1; omega))
      have G5 : w.grownBy w5 (some b) := grownTrans hG g5
      have y5 := S5.inside
      have z5 := G5.size
      clear g5
      by_cases q0 : v5 = 0
      · have t0 : (v5 == 0) = true := beq_iff_eq.2 q0
        clear q0 hown hSr hG lo5 hi5
        go_wp2_with fail
        go_loopw [3] (fun vo wr => ∃ (T : List (Int × Int × Int)) (m : Nat) (A2 : Option Addr) (c2 : Nat), vo = .slice A2 m c2 ∧ Hid (T.length = m) ∧ m ≤ 41 ∧ Hid (I64s3 T) ∧ wr.ownsRow w.heap.size 26 3 (.slice A2 m c2) m (cells3 T) ∧ Src wr b A n c l ∧ w.grownBy wr (some b)) (fun vo _ => match vo with | .slice _ m _ => 41 - m | _ => 0)
        case atStart => exact ⟨T, _, _, _, rfl, Lib.hid rfl, by omega, HT, o5, S5, G5⟩
        case round =>
          clear o5 S5 G5 HNIL HT hTy
          obtain ⟨T, m, A2, c2, rfl, HM, hm, HT, hown, hSr, hG⟩ := hrel
          have zr := hG.size
          have yr := hSr.inside
          go_wp2_with fail
          refine (l01Next_any _ b A n c l _ hl hn h8 hSr).mono ?_
          rintro e w7 ⟨v7, rfl, lo7, hi7, S7, g7⟩
          have hv7 : v7 ≤ 1 := by omega
          have o7 := ownGrown hown g7 (ownNo (fun q hq => by have := (hown.lt q hq).1; omega))
          have G7 : w.grownBy w7 (some b) := grownTrans hG g7
          have y7 := S7.inside
          have z7 := G7.size
          clear g7 hi7 hown hSr hG
          by_cases hlt : (m : Int) < 40 + v7
          · have tl : decide ((m : Int) < 40 + v7) = true := decide_eq_true hlt
            go_wp2_with (at_builtin; refine wpList_append_own_at _ rfl _ _ 36 rfl w.heap.size 26 i0 _ 3 24 Tryd.underlying36 hi' hz0 hz1 hz2 rfl (by decide) _ _ _ rfl (o7.alloc _) ⟨w7.heap.size, 0, none⟩ 1 1 [.int .i64 1000, .int .i64 (100 * (m : Int)), .int .i64 4] rfl rfl ?_ ?_ ?_ ?_ ?_ ?_; exact newsAt _ _ rfl _ _; (intro u hu; simp at hu; rcases hu with rfl | rfl | rfl <;> rfl); (unfold maxLen; omega); omega; (simp; omega); intro v' w8 hown1 hgr1 hnil1 _)
            have S8 := (S7.alloc (.cells #[.int .i64 1000, .int .i64 (100 * (m : Int)), .int .i64 4] 26)).grown hgr1 (fun g hg => by have := (o7.lt g hg).1; omega)
            have G8 : w.grownBy w8 (some b) := gGrown (gAlloc G7 (.cells #[.int .i64 1000, .int .i64 (100 * (m : Int)), .int .i64 4] 26)) hgr1 (fun g hg => (o7.lt g hg).1)
            have o8 : w8.ownsRow w.heap.size 26 3 v' (m + 1) (cells3 (T ++ [(1000, 100 * (m : Int), 4)])) := by rw [cells3_append]; simpa [cells3] using hown1
            obtain ⟨A3, c3, rfl⟩ := ownShape o8
            clear hgr1 o7 S7 G7 hnil1 hown1
            go_wp2_with fail
            go_roundw
            case rel => exact ⟨T ++ [(1000, 100 * (m : Int), 4)], m + 1, A3, c3, rfl, Lib.hid (by have := HM.out; simp; omega), by omega, Lib.hid (i64s3_more HT.out (by unfold I64; omega) (by unfold I64; omega) (by unfold I64; omega)), o8, S8, G8⟩
            case measure => show 41 - (m + 1) < 41 - m; omega
          · have tl : decide ((m : Int) < 40 + v7) = false := decide_eq_false hlt
            go_wp2_with fail
            go_ret
            refine ⟨_, T, rfl, by have := HM.out; omega, HT.out, ?_, S7, G7⟩
            rw [HM.out]
            exact o7
      · have t0 : (v5 == 0) = false := by simpa using q0
        clear q0
        go_wp2_with fail
        go_ret
        exact ⟨_, T, rfl, by omega, HT.out, o5, S5, G5⟩
/-- a tick drawn, for itself -/
def GivesT1 (w : World) (e : Ending) (w' : World) : Prop := ∃ x y z : Int, e = .returned (.agg #[.int .i64 x, .int .i64 y, .int .i64 z]) ∧ I64 x ∧ I64 y ∧ I64 z ∧ Below w.heap.size w w'
set_option maxRecDepth 100000 in
set_option maxHeartbeats 4000000 in
theorem DrawLabelText_any (A : Option Addr) (n c : Nat) (l : List Int) (w : World) (hl : l.length = n) (hn : n ≤ 1048576) (h8 : U8s l) (hs : Sees w w.heap.size A (l.map (Value.int .u8))) :
    Calls Tryd.prog 36 #[.slice A n c] w (GivesT1 w) := by
  go_enter Tryd.func36, Tryd.ntmps36
  go_wp2_with fail
  refine (l01From_any A n c l _ hl hn h8 ?_).mono ?_
  · exact (hs.over (by repeat' (first | exact Below.refl _ _ | assumption | refine Below.alloc ?_ (by first | omega | (simp; done) | (simp; omega)) _ | refine Below.drew ?_ | refine Below.setCell ?_ (by first | omega | (simp; done) | (simp; omega)) _))).wider (by first | omega | (simp; done) | (simp; omega))
  rintro e w0 ⟨b, rfl, hb0, S0, B0⟩
  have hb : w.heap.size + 1 ≤ b := by first | omega | (simp at hb0; omega)
  have cl0 : w.heap.size < w0.heap.size := Nat.lt_of_lt_of_le (by first | omega | (simp; done) | (simp; omega)) B0.size
  have cn0 : w.heap.size ≠ b := by omega
  have cb00 : w0.cell? ⟨w.heap.size, 0, none⟩ = some (.int .i64 0) := (by rw [B0.cell (by first | omega | (simp; done) | (simp; omega))]; simp [go_sem])
  have cf00 : w0.frozen? ⟨w.heap.size, 0, none⟩ = false := (by rw [B0.frozen (by first | omega | (simp; done) | (simp; omega))]; simp [go_sem])
  have cb01 : w0.cell? ⟨w.heap.size, 1, none⟩ = some (.int .i64 0) := (by rw [B0.cell (by first | omega | (simp; done) | (simp; omega))]; simp [go_sem])
  have cf01 : w0.frozen? ⟨w.heap.size, 1, none⟩ = false := (by rw [B0.frozen (by first | omega | (simp; done) | (simp; omega))]; simp [go_sem])
  have cb02 : w0.cell? ⟨w.heap.size, 2, none⟩ = some (.int .i64 0) := (by rw [B0.cell (by first | omega | (simp; done) | (simp; omega))]; simp [go_sem])
  have cf02 : w0.frozen? ⟨w.heap.size, 2, none⟩ = false := (by rw [B0.frozen (by first | omega | (simp; done) | (simp; omega))]; simp [go_sem])
  have y0 := S0.inside
  replace B0 : Below w.heap.size w w0 := Below.trans (by repeat' (first | exact Below.refl _ _ | assumption | refine Below.alloc ?_ (by first | omega | (simp; done) | (simp; omega)) _ | refine Below.drew ?_ | refine Below.setCell ?_ (by first | omega | (simp; done) | (simp; omega)) _)) (B0.mono (by first | omega | (simp; done) | (simp; omega)))
  have z0 := B0.size
  have hbw : w.heap.size ≤ b := by omega
  clear hb0 hs
  go_wp2_with fail
  refine (l09DrawTick_any b A n c l _ hl hn h8 S0).mono ?_
  rintro e w1 ⟨x, y, z, rfl, i1, i2, i3, S1, g1⟩
  have I1 := Lib.hid (And.intro i1 (And.intro i2 i3))
  have B1 : Below w.heap.size w w1 := B0.trans (gBelow g1 hbw z0)
  have x0 := (gCell (j := 0) g1 cl0 cn0).trans cb00
  have x1 := (gCell (j := 1) g1 cl0 cn0).trans cb01
  have x2 := (gCell (j := 2) g1 cl0 cn0).trans cb02
  have f0 := (gFroz (j := 0) g1 cl0 cn0).trans cf00
  have f1 := (gFroz (j := 1) g1 cl0 cn0).trans cf01
  have f2 := (gFroz (j := 2) g1 cl0 cn0).trans cf02
  have lr := Nat.lt_of_lt_of_le cl0 g1.size
  clear cb00 cb01 cb02 cf00 cf01 cf02 g1 i1 i2 i3
  go_wp2_with fail
  refine bodyPost_ret (v := .agg #[.int .i64 x, .int .i64 y, .int .i64 z]) ?_ rfl ?_
  · simp [results, Tryd.results36, go_sem, *]
  · exact ⟨x, y, z, rfl, I1.out.1, I1.out.2.1, I1.out.2.2, by repeat' (first | (with_reducible exact Below.refl _ _) | (with_reducible assumption) | (with_reducible refine Below.alloc ?_ ?_ _) | (with_reducible refine Below.drew ?_) | (with_reducible refine belowDraws ?_ _) | (with_reducible refine Below.setCell ?_ ?_ _) | omega | (simp; done) | (simp; omega))⟩
end Go.Proofs.YtpbhncgjnmaojaaDoor
