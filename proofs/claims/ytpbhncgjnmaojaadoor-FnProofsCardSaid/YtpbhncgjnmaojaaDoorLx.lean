/- The laws on LabelText and DoCollide (layer 9). No condition but the table. -/
import Derived.Test.YtpbhncgjnmaojaaDoorLc
import Derived.Deep.RegionHeld3
import Derived.Deep.DeepCutAuto
namespace Go.Proofs.YtpbhncgjnmaojaaDoor
open Go.RowKit
set_option linter.unusedVariables false
set_option linter.unusedSimpArgs false

theorem Full.next (w : World) (o : Obj) (T : TypeId) (cs : Array Value) : Full ((w.alloc o).alloc (.cells cs T)) (w.heap.size + 1) T cs := by
  have h := Full.made (w.alloc o) T cs
  rwa [show (w.alloc o).heap.size = w.heap.size + 1 by simp] at h
theorem ckL_one (p : Int × Int × Int) : ckL [p] = if okL p = true then 0 else 2 := by
  unfold ckL
  simp
theorem ckL_two (p q : Int × Int × Int) : ckL [p, q] = if okL p = true ∧ okL q = true then 0 else 2 := by
  unfold ckL
  simp
def rText (p : Int × Int × Int) : List UInt8 × Int := if okL p = true then (labN p.1.toNat, 0) else ([], 2)
def rColl (p q : Int × Int × Int) : Bool × Int := if okL p = true ∧ okL q = true then (hitB p.1.toNat p.2.1 q.1.toNat q.2.1, 0) else (false, 2)
theorem endStrInt {p : List UInt8 × Int} {x : List UInt8} {y : Int} (h : p = (x, y)) : Ending.returned (.tuple #[.string ⟨x.toArray⟩, .int .i64 y]) = .returned (.tuple #[.string ⟨p.1.toArray⟩, .int .i64 p.2]) := by subst h; rfl
/-- a tick as described, its mark a natural number -/
theorem okL_nat {a b c : Int} (h : okL (a, b, c) = true) : ∃ m : Nat, a = (m : Int) ∧ 1000 ≤ m ∧ m ≤ 9999 ∧ 0 ≤ b ∧ b ≤ 100000 ∧ 0 ≤ c ∧ c ≤ 4 := by
  have := okL_iff.1 h
  simp only at this
  exact ⟨a.toNat, by omega, by omega, by omega, by omega, by omega, by omega, by omega⟩
theorem toTick_bel (a b c : Int) (w : World) :
    Calls Tryd.prog 13 #[.agg #[.int .i64 a, .int .i64 b, .int .i64 c]] w fun e w' => e = .returned (.agg #[.int .i64 a, .int .i64 b, .int .i64 c]) ∧ Below w.heap.size w w' :=
  (toTick_any a b c w).mono (by
    rintro e w' ⟨rfl, rfl⟩
    exact ⟨rfl, ((Below.alloc (Below.refl _ _) (Nat.le_refl _) _).alloc (by simp) _).alloc (by simp; omega) _⟩)
set_option maxHeartbeats 4000000 in
theorem iLabelText_any (a b c : Int) (w : World) (hT : Tab w) :
    Calls Tryd.prog 14 #[.agg #[.int .i64 a, .int .i64 b, .int .i64 c]] w fun e w' => e = .returned (.tuple #[.string ⟨(rText (a, b, c)).1.toArray⟩, .int .i64 (rText (a, b, c)).2]) ∧ Below w.heap.size w w' := by
  have CK := fun W hs => checkLabels_any (some ⟨w.heap.size + 1, 0, none⟩) 1 1 [(a, b, c)] W rfl (by omega) hs
  by_cases h : okL (a, b, c) = true
  · have Hv := Lib.hid (show rText (a, b, c) = (labN a.toNat, 0) by rw [rText, if_pos h])
    have H := Lib.hid h
    obtain ⟨m, rfl, h0, h1, h2, h3, h4, h5⟩ := okL_nat h
    have HM := Lib.hid (show rText ((m : Int), b, c) = (labN m, 0) from Hv.out)
    have LT := fun W (hW : Tab W) => labelText_any m b c W (by omega) h1 hW
    clear h Hv
    go_enter Tryd.func14, Tryd.ntmps14
    go_wp2_with fail
    refine (CK _ (Full.sees (xs := [.int .i64 (m : Int), .int .i64 b, .int .i64 c]) (Full.next w _ 26 _))).mono ?_
    rintro e w1 ⟨rfl, hb1⟩
    have q0 : w1.cell? ⟨w.heap.size, 0, none⟩ = some (.int .i64 (m : Int)) := (by rw [hb1.cell (by first | omega | (simp; done) | (simp; omega))]; simp [go_sem])
    have q1 : w1.cell? ⟨w.heap.size, 1, none⟩ = some (.int .i64 b) := (by rw [hb1.cell (by first | omega | (simp; done) | (simp; omega))]; simp [go_sem])
    have q2 : w1.cell? ⟨w.heap.size, 2, none⟩ = some (.int .i64 c) := (by rw [hb1.cell (by first | omega | (simp; done) | (simp; omega))]; simp [go_sem])
    have B1 : Below w.heap.size w w1 := Below.trans (by repeat' (first | (with_reducible exact Below.refl _ _) | (with_reducible assumption) | (with_reducible refine Below.alloc ?_ ?_ _) | (with_reducible refine Below.drew ?_) | (with_reducible refine belowDraws ?_ _) | (with_reducible refine Below.setCell ?_ ?_ _) | omega | (simp; done) | (simp; omega))) (hb1.mono (by simp; omega))
    clear hb1
    rw [ckL_one]
    rw [if_pos H.out]
    go_wp2_with fail
    refine (LT _ (hT.over B1)).mono ?_
    rintro e w2 ⟨rfl, hb2⟩
    go_wp2_with fail
    go_ret2
    exact ⟨endStrInt HM.out, B1.trans (hb2.mono B1.size)⟩
  · have Hv := Lib.hid (show rText (a, b, c) = ([], 2) by rw [rText, if_neg h])
    have H := Lib.hid h
    clear h
    go_enter Tryd.func14, Tryd.ntmps14
    go_wp2_with fail
    refine (CK _ (Full.sees (xs := [.int .i64 a, .int .i64 b, .int .i64 c]) (Full.next w _ 26 _))).mono ?_
    rintro e w1 ⟨rfl, hb1⟩
    have q0 : w1.cell? ⟨w.heap.size, 0, none⟩ = some (.int .i64 a) := (by rw [hb1.cell (by first | omega | (simp; done) | (simp; omega))]; simp [go_sem])
    have q1 : w1.cell? ⟨w.heap.size, 1, none⟩ = some (.int .i64 b) := (by rw [hb1.cell (by first | omega | (simp; done) | (simp; omega))]; simp [go_sem])
    have q2 : w1.cell? ⟨w.heap.size, 2, none⟩ = some (.int .i64 c) := (by rw [hb1.cell (by first | omega | (simp; done) | (simp; omega))]; simp [go_sem])
    have B1 : Below w.heap.size w w1 := Below.trans (by repeat' (first | (with_reducible exact Below.refl _ _) | (with_reducible assumption) | (with_reducible refine Below.alloc ?_ ?_ _) | (with_reducible refine Below.drew ?_) | (with_reducible refine belowDraws ?_ _) | (with_reducible refine Below.setCell ?_ ?_ _) | omega | (simp; done) | (simp; omega))) (hb1.mono (by simp; omega))
    clear hb1
    rw [ckL_one]
    rw [if_neg H.out]
    go_wp2_with fail
    go_ret2
    exact ⟨endStrInt Hv.out, B1⟩
set_option maxHeartbeats 4000000 in
theorem sLabelText_any (a b c : Int) (w : World) :
    Calls Tryd.prog 12 #[.agg #[.int .i64 a, .int .i64 b, .int .i64 c]] w fun e w' => e = .returned (.tuple #[.string ⟨(rText (a, b, c)).1.toArray⟩, .int .i64 (rText (a, b, c)).2]) ∧ Below w.heap.size w w' := by
  have CK := fun W => l09Is_any a b c W
  by_cases h : okL (a, b, c) = true
  · have Hv := Lib.hid (show rText (a, b, c) = (labN a.toNat, 0) by rw [rText, if_pos h])
    have H := Lib.hid h
    obtain ⟨m, rfl, h0, h1, h2, h3, h4, h5⟩ := okL_nat h
    have HM := Lib.hid (show rText ((m : Int), b, c) = (labN m, 0) from Hv.out)
    have LT := fun W  => l09Text_any m b c W (by omega) h1
    clear h Hv
    go_enter Tryd.func12, Tryd.ntmps12
    go_wp2_with fail
    refine (CK _).mono ?_
    rintro e w1 ⟨rfl, hw1⟩
    have hb1 : Below w.heap.size w w1 := by subst hw1; exact by repeat' (first | (with_reducible exact Below.refl _ _) | (with_reducible assumption) | (with_reducible refine Below.alloc ?_ ?_ _) | (with_reducible refine Below.drew ?_) | (with_reducible refine belowDraws ?_ _) | (with_reducible refine Below.setCell ?_ ?_ _) | omega | (simp; done) | (simp; omega))
    have q0 : w1.cell? ⟨w.heap.size, 0, none⟩ = some (.int .i64 (m : Int)) := (by rw [← hw1]; simp [go_sem])
    have q1 : w1.cell? ⟨w.heap.size, 1, none⟩ = some (.int .i64 b) := (by rw [← hw1]; simp [go_sem])
    have q2 : w1.cell? ⟨w.heap.size, 2, none⟩ = some (.int .i64 c) := (by rw [← hw1]; simp [go_sem])
    have B1 : Below w.heap.size w w1 := hb1
    clear hb1 hw1
    rw [H.out]
    go_wp2_with fail
    refine (LT _).mono ?_
    rintro e w2 ⟨rfl, hb2⟩
    go_wp2_with fail
    go_ret2
    exact ⟨endStrInt HM.out, B1.trans (hb2.mono B1.size)⟩
  · have Hv := Lib.hid (show rText (a, b, c) = ([], 2) by rw [rText, if_neg h])
    have H := Lib.hid h
    clear h
    go_enter Tryd.func12, Tryd.ntmps12
    go_wp2_with fail
    refine (CK _).mono ?_
    rintro e w1 ⟨rfl, hw1⟩
    have hb1 : Below w.heap.size w w1 := by subst hw1; exact by repeat' (first | (with_reducible exact Below.refl _ _) | (with_reducible assumption) | (with_reducible refine Below.alloc ?_ ?_ _) | (with_reducible refine Below.drew ?_) | (with_reducible refine belowDraws ?_ _) | (with_reducible refine Below.setCell ?_ ?_ _) | omega | (simp; done) | (simp; omega))
    have q0 : w1.cell? ⟨w.heap.size, 0, none⟩ = some (.int .i64 a) := (by rw [← hw1]; simp [go_sem])
    have q1 : w1.cell? ⟨w.heap.size, 1, none⟩ = some (.int .i64 b) := (by rw [← hw1]; simp [go_sem])
    have q2 : w1.cell? ⟨w.heap.size, 2, none⟩ = some (.int .i64 c) := (by rw [← hw1]; simp [go_sem])
    have B1 : Below w.heap.size w w1 := hb1
    clear hb1 hw1
    rw [(show okL (a, b, c) = false by simpa using H.out)]
    go_wp2_with fail
    go_ret2
    exact ⟨endStrInt Hv.out, B1⟩
set_option maxHeartbeats 2000000 in
theorem fnExactLabelText_walk (a b c : Int) (w : World) (_h1 : I64 a) (_h2 : I64 b) (_h3 : I64 c) (hT : Lib.TabIs Tryd.prog w "internal/strconv.uint64pow10" .u64 Lib.pow10Tab) :
    Calls Tryd.prog 3 #[.agg #[.int .i64 a, .int .i64 b, .int .i64 c]] w fun e w' => e = .returned (.bool true) ∧ Below w.heap.size w w' := by
  have hT : Tab w := hT
  go_enter Tryd.func3, Tryd.ntmps3
  go_upto_region 0 with fail
  go_cut [1, 2] (fun s1 s2 wx => s1 = .pointer (some ⟨w.heap.size, 0, none⟩) ∧ s2 = .bool false ∧ wx.cell? ⟨w.heap.size, 0, none⟩ = some (.int .i64 a) ∧ wx.cell? ⟨w.heap.size, 1, none⟩ = some (.int .i64 b) ∧ wx.cell? ⟨w.heap.size, 2, none⟩ = some (.int .i64 c) ∧ w.heap.size < wx.heap.size ∧ Below w.heap.size w wx)
  case first =>
    go_wp2_with fail
    go_meet
    refine ⟨rfl, rfl, ?_, ?_, ?_, by simp, by repeat' (first | (with_reducible exact Below.refl _ _) | (with_reducible assumption) | (with_reducible refine Below.alloc ?_ ?_ _) | (with_reducible refine Below.drew ?_) | (with_reducible refine belowDraws ?_ _) | (with_reducible refine Below.setCell ?_ ?_ _) | omega | (simp; done) | (simp; omega))⟩
    all_goals simp [go_sem]
  case rest =>
  obtain ⟨rfl, rfl, c0, c1, c2, hl0, B0⟩ := hcut
  obtain ⟨w0, rfl⟩ : ∃ w0 : World, w0 = wc := ⟨_, rfl⟩
  have KP := Lib.hid (show ∀ W : World, Below w0.heap.size w0 W → W.cell? ⟨w.heap.size, 0, none⟩ = some (.int .i64 a) ∧ W.cell? ⟨w.heap.size, 1, none⟩ = some (.int .i64 b) ∧ W.cell? ⟨w.heap.size, 2, none⟩ = some (.int .i64 c) from fun W hW => ⟨(hW.cell (by first | omega | (simp; done) | (simp; omega))).trans c0, (hW.cell (by first | omega | (simp; done) | (simp; omega))).trans c1, (hW.cell (by first | omega | (simp; done) | (simp; omega))).trans c2⟩)
  clear c0 c1 c2
  have K0 := KP.out w0 (Below.refl _ _)
  obtain ⟨c0, c1, c2⟩ := K0
  have T0 := hT.over B0
  go_wp2_with fail
  refine (toTick_bel a b c _).mono ?_
  rintro e w1 ⟨rfl, hb1⟩
  go_wp2_with fail
  refine (sLabelText_any a b c _).mono ?_
  rintro e w2 ⟨rfl, hb2⟩
  have hB2 : Below w0.heap.size w0 w2 := hb1.trans (hb2.mono hb1.size)
  obtain ⟨d0, d1, d2⟩ := KP.out w2 hB2
  clear c0 c1 c2
  go_wp2_with fail
  refine (toTick_bel a b c _).mono ?_
  rintro e w3 ⟨rfl, hb3⟩
  have hB3 := hB2.trans (hb3.mono hB2.size)
  go_wp2_with fail
  refine (iLabelText_any a b c _ (T0.over hB3)).mono ?_
  rintro e w4 ⟨rfl, hb4⟩
  have hB4 := hB3.trans (hb4.mono hB3.size)
  go_wp2_with fail
  go_ret
  exact ⟨rfl, B0.trans (hB4.mono B0.size)⟩
set_option maxHeartbeats 8000000 in
theorem iDoCollide_any (a b c a' b' c' : Int) (w : World) (hT : Tab w) :
    Calls Tryd.prog 16 #[.agg #[.int .i64 a, .int .i64 b, .int .i64 c], .agg #[.int .i64 a', .int .i64 b', .int .i64 c']] w fun e w' => e = .returned (.tuple #[.bool (rColl (a, b, c) (a', b', c')).1, .int .i64 (rColl (a, b, c) (a', b', c')).2]) ∧ Below w.heap.size w w' := by
  go_enter Tryd.func16, Tryd.ntmps16
  go_upto_region 0 with fail
  go_cut [2, 3, 4, 5] (fun s2 s3 s4 s5 wx => s2 = .pointer (some ⟨w.heap.size, 0, none⟩) ∧ s3 = .pointer (some ⟨w.heap.size + 1, 0, none⟩) ∧ s4 = .bool false ∧ s5 = .int .i64 0 ∧ wx.cell? ⟨w.heap.size, 0, none⟩ = some (.int .i64 a) ∧ wx.cell? ⟨w.heap.size, 1, none⟩ = some (.int .i64 b) ∧ wx.cell? ⟨w.heap.size, 2, none⟩ = some (.int .i64 c) ∧ wx.cell? ⟨(w.heap.size + 1), 0, none⟩ = some (.int .i64 a') ∧ wx.cell? ⟨(w.heap.size + 1), 1, none⟩ = some (.int .i64 b') ∧ wx.cell? ⟨(w.heap.size + 1), 2, none⟩ = some (.int .i64 c') ∧ (w.heap.size + 1) < wx.heap.size ∧ Below w.heap.size w wx)
  case first =>
    go_wp2_with fail
    go_meet
    refine ⟨rfl, rfl, rfl, rfl, ?_, ?_, ?_, ?_, ?_, ?_, by simp, by repeat' (first | (with_reducible exact Below.refl _ _) | (with_reducible assumption) | (with_reducible refine Below.alloc ?_ ?_ _) | (with_reducible refine Below.drew ?_) | (with_reducible refine belowDraws ?_ _) | (with_reducible refine Below.setCell ?_ ?_ _) | omega | (simp; done) | (simp; omega))⟩
    all_goals simp [go_sem]
  case rest =>
  obtain ⟨rfl, rfl, rfl, rfl, c0, c1, c2, c3, c4, c5, hl0, B0⟩ := hcut
  obtain ⟨w0, rfl⟩ : ∃ w0 : World, w0 = wc := ⟨_, rfl⟩
  have KP := Lib.hid (show ∀ W : World, Below w0.heap.size w0 W → W.cell? ⟨w.heap.size, 0, none⟩ = some (.int .i64 a) ∧ W.cell? ⟨w.heap.size, 1, none⟩ = some (.int .i64 b) ∧ W.cell? ⟨w.heap.size, 2, none⟩ = some (.int .i64 c) ∧ W.cell? ⟨(w.heap.size + 1), 0, none⟩ = some (.int .i64 a') ∧ W.cell? ⟨(w.heap.size + 1), 1, none⟩ = some (.int .i64 b') ∧ W.cell? ⟨(w.heap.size + 1), 2, none⟩ = some (.int .i64 c') from fun W hW => ⟨(hW.cell (by first | omega | (simp; done) | (simp; omega))).trans c0, (hW.cell (by first | omega | (simp; done) | (simp; omega))).trans c1, (hW.cell (by first | omega | (simp; done) | (simp; omega))).trans c2, (hW.cell (by first | omega | (simp; done) | (simp; omega))).trans c3, (hW.cell (by first | omega | (simp; done) | (simp; omega))).trans c4, (hW.cell (by first | omega | (simp; done) | (simp; omega))).trans c5⟩)
  clear c0 c1 c2 c3 c4 c5
  obtain ⟨c0, c1, c2, c3, c4, c5⟩ := KP.out w0 (Below.refl _ _)
  have CK := fun W hs => checkLabels_any (some ⟨w0.heap.size, 0, none⟩) 2 2 [(a, b, c), (a', b', c')] W rfl (by omega) hs
  go_wp2_with fail
  refine (CK _ (Full.sees (xs := [.int .i64 a, .int .i64 b, .int .i64 c, .int .i64 a', .int .i64 b', .int .i64 c']) (Full.made w0 26 _))).mono ?_
  rintro e w1 ⟨rfl, hb1⟩
  have B1 : Below w0.heap.size w0 w1 := Below.trans (by repeat' (first | (with_reducible exact Below.refl _ _) | (with_reducible assumption) | (with_reducible refine Below.alloc ?_ ?_ _) | (with_reducible refine Below.drew ?_) | (with_reducible refine belowDraws ?_ _) | (with_reducible refine Below.setCell ?_ ?_ _) | omega | (simp; done) | (simp; omega))) (hb1.mono (by simp))
  obtain ⟨d0, d1, d2, d3, d4, d5⟩ := KP.out w1 B1
  clear c0 c1 c2 c3 c4 c5 hb1 CK
  rw [ckL_two]
  have T1 : Tab w1 := (hT.over B0).over B1
  by_cases h : okL (a, b, c) = true ∧ okL (a', b', c') = true
  · rw [if_pos h]
    obtain ⟨m, rfl, h0, h1, h2, h3, h4, h5⟩ := okL_nat h.1
    obtain ⟨m', rfl, h0', h1', h2', h3', h4', h5'⟩ := okL_nat h.2
    have Hv := Lib.hid (show rColl ((m : Int), b, c) ((m' : Int), b', c') = (hitB m b m' b', 0) by rw [rColl, if_pos h]; rfl)
    clear h
    go_wp2_with fail
    refine (collide_any m b c m' b' c' _ (by omega) h1 h2 h3 (by omega) h1' h2' h3' T1).mono ?_
    rintro e w2 ⟨rfl, hb2⟩
    go_wp2_with fail
    go_ret2
    exact ⟨endBoolInt Hv.out, B0.trans ((B1.trans (hb2.mono B1.size)).mono B0.size)⟩
  · rw [if_neg h]
    have Hv := Lib.hid (show rColl (a, b, c) (a', b', c') = (false, 2) by rw [rColl, if_neg h])
    clear h
    go_wp2_with fail
    go_ret2
    exact ⟨endBoolInt Hv.out, B0.trans (B1.mono B0.size)⟩
theorem l09Is_bel (a b c : Int) (w : World) :
    Calls Tryd.prog 41 #[.agg #[.int .i64 a, .int .i64 b, .int .i64 c]] w fun e w' => e = .returned (.bool (okL (a, b, c))) ∧ Below w.heap.size w w' :=
  (l09Is_any a b c w).mono (by
    rintro e w' ⟨rfl, rfl⟩
    exact ⟨rfl, Below.alloc (Below.refl _ _) (Nat.le_refl _) _⟩)
set_option maxHeartbeats 8000000 in
theorem sDoCollide_any (a b c a' b' c' : Int) (w : World) :
    Calls Tryd.prog 15 #[.agg #[.int .i64 a, .int .i64 b, .int .i64 c], .agg #[.int .i64 a', .int .i64 b', .int .i64 c']] w fun e w' => e = .returned (.tuple #[.bool (rColl (a, b, c) (a', b', c')).1, .int .i64 (rColl (a, b, c) (a', b', c')).2]) ∧ Below w.heap.size w w' := by
  go_enter Tryd.func15, Tryd.ntmps15
  go_upto_region 0 with fail
  go_cut [2, 3, 4, 5] (fun s2 s3 s4 s5 wx => s2 = .pointer (some ⟨w.heap.size, 0, none⟩) ∧ s3 = .pointer (some ⟨w.heap.size + 1, 0, none⟩) ∧ s4 = .bool false ∧ s5 = .int .i64 0 ∧ wx.cell? ⟨w.heap.size, 0, none⟩ = some (.int .i64 a) ∧ wx.cell? ⟨w.heap.size, 1, none⟩ = some (.int .i64 b) ∧ wx.cell? ⟨w.heap.size, 2, none⟩ = some (.int .i64 c) ∧ wx.cell? ⟨(w.heap.size + 1), 0, none⟩ = some (.int .i64 a') ∧ wx.cell? ⟨(w.heap.size + 1), 1, none⟩ = some (.int .i64 b') ∧ wx.cell? ⟨(w.heap.size + 1), 2, none⟩ = some (.int .i64 c') ∧ (w.heap.size + 1) < wx.heap.size ∧ Below w.heap.size w wx)
  case first =>
    go_wp2_with fail
    go_meet
    refine ⟨rfl, rfl, rfl, rfl, ?_, ?_, ?_, ?_, ?_, ?_, by simp, by repeat' (first | (with_reducible exact Below.refl _ _) | (with_reducible assumption) | (with_reducible refine Below.alloc ?_ ?_ _) | (with_reducible refine Below.drew ?_) | (with_reducible refine belowDraws ?_ _) | (with_reducible refine Below.setCell ?_ ?_ _) | omega | (simp; done) | (simp; omega))⟩
    all_goals simp [go_sem]
  case rest =>
  obtain ⟨rfl, rfl, rfl, rfl, c0, c1, c2, c3, c4, c5, hl0, B0⟩ := hcut
  obtain ⟨w0, rfl⟩ : ∃ w0 : World, w0 = wc := ⟨_, rfl⟩
  have KP := Lib.hid (show ∀ W : World, Below w0.heap.size w0 W → W.cell? ⟨w.heap.size, 0, none⟩ = some (.int .i64 a) ∧ W.cell? ⟨w.heap.size, 1, none⟩ = some (.int .i64 b) ∧ W.cell? ⟨w.heap.size, 2, none⟩ = some (.int .i64 c) ∧ W.cell? ⟨(w.heap.size + 1), 0, none⟩ = some (.int .i64 a') ∧ W.cell? ⟨(w.heap.size + 1), 1, none⟩ = some (.int .i64 b') ∧ W.cell? ⟨(w.heap.size + 1), 2, none⟩ = some (.int .i64 c') from fun W hW => ⟨(hW.cell (by first | omega | (simp; done) | (simp; omega))).trans c0, (hW.cell (by first | omega | (simp; done) | (simp; omega))).trans c1, (hW.cell (by first | omega | (simp; done) | (simp; omega))).trans c2, (hW.cell (by first | omega | (simp; done) | (simp; omega))).trans c3, (hW.cell (by first | omega | (simp; done) | (simp; omega))).trans c4, (hW.cell (by first | omega | (simp; done) | (simp; omega))).trans c5⟩)
  clear c0 c1 c2 c3 c4 c5
  obtain ⟨c0, c1, c2, c3, c4, c5⟩ := KP.out w0 (Below.refl _ _)
  have C1 := fun W => l09Is_bel a b c W
  have C2 := fun W => l09Is_bel a' b' c' W
  by_cases h1 : okL (a, b, c) = true
  · rw [h1] at C1
    by_cases h2 : okL (a', b', c') = true
    · rw [h2] at C2
      have h := And.intro h1 h2
      clear h1 h2
      obtain ⟨m, rfl, h0, h1, h2, h3, h4, h5⟩ := okL_nat h.1
      obtain ⟨m', rfl, h0', h1', h2', h3', h4', h5'⟩ := okL_nat h.2
      have Hv := Lib.hid (show rColl ((m : Int), b, c) ((m' : Int), b', c') = (hitB m b m' b', 0) by rw [rColl, if_pos h]; rfl)
      clear h
      go_wp2_with fail
      refine (C1 _).mono ?_
      rintro e w1 ⟨rfl, hb1⟩
      have hB1 : Below w0.heap.size w0 w1 := hb1
      obtain ⟨x1_0, x1_1, x1_2, x1_3, x1_4, x1_5⟩ := KP.out w1 hB1
      clear hb1 c0 c1 c2 c3 c4 c5
      go_wp2_with fail
      refine (C2 _).mono ?_
      rintro e w2 ⟨rfl, hb2⟩
      have hB2 : Below w0.heap.size w0 w2 := hB1.trans (hb2.mono hB1.size)
      obtain ⟨x2_0, x2_1, x2_2, x2_3, x2_4, x2_5⟩ := KP.out w2 hB2
      clear hb2 x1_0 x1_1 x1_2 x1_3 x1_4 x1_5
      go_wp2_with fail
      refine (l09Collide_any m b c m' b' c' _ (by omega) h1 h2 h3 (by omega) h1' h2' h3').mono ?_
      rintro e w3 ⟨rfl, hb3⟩
      go_wp2_with fail
      go_ret2
      exact ⟨endBoolInt Hv.out, B0.trans ((hB2.trans (hb3.mono hB2.size)).mono B0.size)⟩
    · rw [show okL (a', b', c') = false by simpa using h2] at C2
      have Hv := Lib.hid (show rColl (a, b, c) (a', b', c') = (false, 2) by rw [rColl, if_neg (fun h => h2 h.2)])
      clear h1 h2
      go_wp2_with fail
      refine (C1 _).mono ?_
      rintro e w1 ⟨rfl, hb1⟩
      have hB1 : Below w0.heap.size w0 w1 := hb1
      obtain ⟨x1_0, x1_1, x1_2, x1_3, x1_4, x1_5⟩ := KP.out w1 hB1
      clear hb1 c0 c1 c2 c3 c4 c5
      go_wp2_with fail
      refine (C2 _).mono ?_
      rintro e w2 ⟨rfl, hb2⟩
      have hB2 : Below w0.heap.size w0 w2 := hB1.trans (hb2.mono hB1.size)
      obtain ⟨x2_0, x2_1, x2_2, x2_3, x2_4, x2_5⟩ := KP.out w2 hB2
      clear hb2 x1_0 x1_1 x1_2 x1_3 x1_4 x1_5
      go_wp2_with fail
      go_ret2
      exact ⟨endBoolInt Hv.out, B0.trans (hB2.mono B0.size)⟩
  · rw [show okL (a, b, c) = false by simpa using h1] at C1
    have Hv := Lib.hid (show rColl (a, b, c) (a', b', c') = (false, 2) by rw [rColl, if_neg (fun h => h1 h.1)])
    clear h1
    go_wp2_with fail
    refine (C1 _).mono ?_
    rintro e w1 ⟨rfl, hb1⟩
    have hB1 : Below w0.heap.size w0 w1 := hb1
    obtain ⟨x1_0, x1_1, x1_2, x1_3, x1_4, x1_5⟩ := KP.out w1 hB1
    clear hb1 c0 c1 c2 c3 c4 c5
    go_wp2_with fail
    go_ret2
    exact ⟨endBoolInt Hv.out, B0.trans (hB1.mono B0.size)⟩
set_option maxHeartbeats 8000000 in
set_option maxRecDepth 100000 in
theorem fnExactDoCollide_walk (a b c a' b' c' : Int) (w : World) (_h1 : I64 a) (_h2 : I64 b) (_h3 : I64 c) (_h4 : I64 a') (_h5 : I64 b') (_h6 : I64 c') (hT : Lib.TabIs Tryd.prog w "internal/strconv.uint64pow10" .u64 Lib.pow10Tab) :
    Calls Tryd.prog 4 #[.agg #[.int .i64 a, .int .i64 b, .int .i64 c], .agg #[.int .i64 a', .int .i64 b', .int .i64 c']] w fun e w' => e = .returned (.bool true) ∧ Below w.heap.size w w' := by
  have hT : Tab w := hT
  go_enter Tryd.func4, Tryd.ntmps4
  go_upto_region 0 with fail
  go_cut [2, 3, 4] (fun s2 s3 s4 wx => s2 = .pointer (some ⟨w.heap.size, 0, none⟩) ∧ s3 = .pointer (some ⟨w.heap.size + 1, 0, none⟩) ∧ s4 = .bool false ∧ wx.cell? ⟨w.heap.size, 0, none⟩ = some (.int .i64 a) ∧ wx.cell? ⟨w.heap.size, 1, none⟩ = some (.int .i64 b) ∧ wx.cell? ⟨w.heap.size, 2, none⟩ = some (.int .i64 c) ∧ wx.cell? ⟨(w.heap.size + 1), 0, none⟩ = some (.int .i64 a') ∧ wx.cell? ⟨(w.heap.size + 1), 1, none⟩ = some (.int .i64 b') ∧ wx.cell? ⟨(w.heap.size + 1), 2, none⟩ = some (.int .i64 c') ∧ (w.heap.size + 1) < wx.heap.size ∧ Below w.heap.size w wx)
  case first =>
    go_wp2_with fail
    go_meet
    refine ⟨rfl, rfl, rfl, ?_, ?_, ?_, ?_, ?_, ?_, by simp, by repeat' (first | (with_reducible exact Below.refl _ _) | (with_reducible assumption) | (with_reducible refine Below.alloc ?_ ?_ _) | (with_reducible refine Below.drew ?_) | (with_reducible refine belowDraws ?_ _) | (with_reducible refine Below.setCell ?_ ?_ _) | omega | (simp; done) | (simp; omega))⟩
    all_goals simp [go_sem]
  case rest =>
  obtain ⟨rfl, rfl, rfl, c0, c1, c2, c3, c4, c5, hl0, B0⟩ := hcut
  obtain ⟨w0, rfl⟩ : ∃ w0 : World, w0 = wc := ⟨_, rfl⟩
  have KP := Lib.hid (show ∀ W : World, Below w0.heap.size w0 W → W.cell? ⟨w.heap.size, 0, none⟩ = some (.int .i64 a) ∧ W.cell? ⟨w.heap.size, 1, none⟩ = some (.int .i64 b) ∧ W.cell? ⟨w.heap.size, 2, none⟩ = some (.int .i64 c) ∧ W.cell? ⟨(w.heap.size + 1), 0, none⟩ = some (.int .i64 a') ∧ W.cell? ⟨(w.heap.size + 1), 1, none⟩ = some (.int .i64 b') ∧ W.cell? ⟨(w.heap.size + 1), 2, none⟩ = some (.int .i64 c') from fun W hW => ⟨(hW.cell (by first | omega | (simp; done) | (simp; omega))).trans c0, (hW.cell (by first | omega | (simp; done) | (simp; omega))).trans c1, (hW.cell (by first | omega | (simp; done) | (simp; omega))).trans c2, (hW.cell (by first | omega | (simp; done) | (simp; omega))).trans c3, (hW.cell (by first | omega | (simp; done) | (simp; omega))).trans c4, (hW.cell (by first | omega | (simp; done) | (simp; omega))).trans c5⟩)
  clear c0 c1 c2 c3 c4 c5
  obtain ⟨c0, c1, c2, c3, c4, c5⟩ := KP.out w0 (Below.refl _ _)
  have T0 := hT.over B0
  have TA := fun W => toTick_bel a b c W
  have TB := fun W => toTick_bel a' b' c' W
  have SC := fun W => sDoCollide_any a b c a' b' c' W
  have IC := fun W hW => iDoCollide_any a b c a' b' c' W hW
  obtain ⟨⟨k1, k2⟩, HP⟩ : ∃ p, Hid (rColl (a, b, c) (a', b', c') = p) := ⟨_, Lib.hid rfl⟩
  rw [HP.out] at SC IC
  clear HP
  go_wp2_with fail
  go_region_held3 (fun w' => w'.cell? ⟨w.heap.size, 0, none⟩ = some (.int .i64 a) ∧ w'.cell? ⟨w.heap.size, 1, none⟩ = some (.int .i64 b) ∧ w'.cell? ⟨w.heap.size, 2, none⟩ = some (.int .i64 c) ∧ w'.cell? ⟨(w.heap.size + 1), 0, none⟩ = some (.int .i64 a') ∧ w'.cell? ⟨(w.heap.size + 1), 1, none⟩ = some (.int .i64 b') ∧ w'.cell? ⟨(w.heap.size + 1), 2, none⟩ = some (.int .i64 c')) (go_keep) (first
    | (go_at_call 13; (with_reducible refine (TA _).mono ?_); rintro e w1 ⟨rfl, hb1⟩; have hB1 : Below w0.heap.size w0 w1 := Below.trans (by repeat' (first | exact Below.refl _ _ | assumption | refine Below.alloc ?_ (by first | omega | (simp; done) | (simp; omega)) _ | refine Below.drew ?_ | refine Below.setCell ?_ (by first | omega | (simp; done) | (simp; omega)) _)) (hb1.mono (by first | omega | (simp; done) | (simp; omega))); have hz1 := hB1.size; obtain ⟨q1_0, q1_1, q1_2, q1_3, q1_4, q1_5⟩ := KP.out w1 hB1; clear hb1)
    | (go_at_call 13; (with_reducible refine (TB _).mono ?_); rintro e w2 ⟨rfl, hb2⟩; have hB2 : Below w0.heap.size w0 w2 := Below.trans (by repeat' (first | exact Below.refl _ _ | assumption | refine Below.alloc ?_ (by first | omega | (simp; done) | (simp; omega)) _ | refine Below.drew ?_ | refine Below.setCell ?_ (by first | omega | (simp; done) | (simp; omega)) _)) (hb2.mono (by first | omega | (simp; done) | (simp; omega))); have hz2 := hB2.size; obtain ⟨q2_0, q2_1, q2_2, q2_3, q2_4, q2_5⟩ := KP.out w2 hB2; clear hb2)
    | (go_at_call 15; (with_reducible refine (SC _).mono ?_); rintro e w3 ⟨rfl, hb3⟩; have hB3 : Below w0.heap.size w0 w3 := Below.trans (by repeat' (first | exact Below.refl _ _ | assumption | refine Below.alloc ?_ (by first | omega | (simp; done) | (simp; omega)) _ | refine Below.drew ?_ | refine Below.setCell ?_ (by first | omega | (simp; done) | (simp; omega)) _)) (hb3.mono (by first | omega | (simp; done) | (simp; omega))); have hz3 := hB3.size; obtain ⟨q3_0, q3_1, q3_2, q3_3, q3_4, q3_5⟩ := KP.out w3 hB3; clear hb3))
  all_goals (go_wp2_with fail)
  all_goals (go_region_held3 (fun w' => w'.cell? ⟨w.heap.size, 0, none⟩ = some (.int .i64 a) ∧ w'.cell? ⟨w.heap.size, 1, none⟩ = some (.int .i64 b) ∧ w'.cell? ⟨w.heap.size, 2, none⟩ = some (.int .i64 c) ∧ w'.cell? ⟨(w.heap.size + 1), 0, none⟩ = some (.int .i64 a') ∧ w'.cell? ⟨(w.heap.size + 1), 1, none⟩ = some (.int .i64 b') ∧ w'.cell? ⟨(w.heap.size + 1), 2, none⟩ = some (.int .i64 c')) (go_keep) (first
    | (go_at_call 13; (with_reducible refine (TA _).mono ?_); rintro e w4 ⟨rfl, hb4⟩; have hB4 : Below w0.heap.size w0 w4 := Below.trans (by repeat' (first | exact Below.refl _ _ | assumption | refine Below.alloc ?_ (by first | omega | (simp; done) | (simp; omega)) _ | refine Below.drew ?_ | refine Below.setCell ?_ (by first | omega | (simp; done) | (simp; omega)) _)) (hb4.mono (by first | omega | (simp; done) | (simp; omega))); have hz4 := hB4.size; obtain ⟨q4_0, q4_1, q4_2, q4_3, q4_4, q4_5⟩ := KP.out w4 hB4; clear hb4)
    | (go_at_call 13; (with_reducible refine (TB _).mono ?_); rintro e w5 ⟨rfl, hb5⟩; have hB5 : Below w0.heap.size w0 w5 := Below.trans (by repeat' (first | exact Below.refl _ _ | assumption | refine Below.alloc ?_ (by first | omega | (simp; done) | (simp; omega)) _ | refine Below.drew ?_ | refine Below.setCell ?_ (by first | omega | (simp; done) | (simp; omega)) _)) (hb5.mono (by first | omega | (simp; done) | (simp; omega))); have hz5 := hB5.size; obtain ⟨q5_0, q5_1, q5_2, q5_3, q5_4, q5_5⟩ := KP.out w5 hB5; clear hb5)
    | (go_at_call 16; (with_reducible refine (IC _ ?_).mono ?_); (focus (with_reducible exact T0.over (by repeat' (first | exact Below.refl _ _ | assumption | refine Below.alloc ?_ (by first | omega | (simp; done) | (simp; omega)) _ | refine Below.drew ?_ | refine Below.setCell ?_ (by first | omega | (simp; done) | (simp; omega)) _)))); rintro e w6 ⟨rfl, hb6⟩; have hB6 : Below w0.heap.size w0 w6 := Below.trans (by repeat' (first | exact Below.refl _ _ | assumption | refine Below.alloc ?_ (by first | omega | (simp; done) | (simp; omega)) _ | refine Below.drew ?_ | refine Below.setCell ?_ (by first | omega | (simp; done) | (simp; omega)) _)) (hb6.mono (by first | omega | (simp; done) | (simp; omega))); have hz6 := hB6.size; obtain ⟨q6_0, q6_1, q6_2, q6_3, q6_4, q6_5⟩ := KP.out w6 hB6; clear hb6)))
  all_goals (go_wp2_with fail)
  all_goals go_ret
  all_goals exact ⟨rfl, B0.trans (hB6.mono B0.size)⟩
end Go.Proofs.YtpbhncgjnmaojaaDoor
