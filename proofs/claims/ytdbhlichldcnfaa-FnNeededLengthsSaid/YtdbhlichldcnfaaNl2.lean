/- NeededLength (layer 6) and its law. No condition. -/
import Derived.Test.YtdbhlichldcnfaaNl
namespace Go.Proofs.Ytdbhlichldcnfaa
open Go.RowKit
set_option linter.unusedVariables false
set_option linter.unusedSimpArgs false

def needAt (s d1 d2 t eye : Int) : Nat → Int → Int × Int
  | 0, _ => (0, 4)
  | f + 1, k => if apartB s d1 d2 t k eye = true then (k, 0) else needAt s d1 d2 t eye f (k + 100)
def needOk (s t eye parts : Int) : Bool := inB s 0 5 && (inB eye 0 200 && (inB parts 1 4 && inB t 0 (decades s - 1)))
def nextD (d parts : Int) : Int := cutD d parts + p10 (4 - parts).toNat
def rNeed (s d t eye parts : Int) : Int × Int :=
  if figB d t = true then (if needOk s t eye parts = true then (if cutT d t parts ≠ t ∨ 9999 < nextD d parts then (0, 2) else needAt s (cutD d parts) (nextD d parts) t eye 1000 100) else (0, 2)) else (0, 1)
theorem needAt_yes {s d1 d2 t eye : Int} {f : Nat} {k : Int} (h : apartB s d1 d2 t k eye = true) : needAt s d1 d2 t eye (f + 1) k = (k, 0) := by rw [needAt, if_pos h]
theorem needAt_no {s d1 d2 t eye : Int} {f : Nat} {k : Int} (h : apartB s d1 d2 t k eye = false) : needAt s d1 d2 t eye (f + 1) k = needAt s d1 d2 t eye f (k + 100) := by rw [needAt, if_neg (by rw [h]; decide)]
theorem cut_of {d t parts : Int} (h : Dig d) (p1 : 1 ≤ parts) (p2 : parts ≤ 4) : Dig (cutD d parts) ∧ (cutT d t parts = t ∨ cutT d t parts = t + 1) ∧ 1001 ≤ nextD d parts ∧ nextD d parts ≤ 10999 := by
  have hb := cutN_bd h p1 p2
  have hu := unit_bd p1 p2
  unfold nextD cutT cutD
  split
  · exact ⟨⟨by omega, by omega⟩, .inr rfl, by omega, by omega⟩
  · exact ⟨⟨by omega, by omega⟩, .inl rfl, by omega, by omega⟩
/-- the program's test of two places: by the one whose Low is less -/
def sortB (s d d2 t len eye : Int) : Bool := if plL s d2 t len < plL s d t len then decide (plU s d2 t len + eye ≤ plL s d t len) else decide (plU s d t len + eye ≤ plL s d2 t len)
theorem p_strict {s d t : Int} (h : Dig d) (hs : s ≠ 5) : pL s d t < pU s d t := by
  have h3 := dL_lt_dU h
  have h4 : Dig 3142 := ⟨by omega, by omega⟩
  have h7 := dL_lt_dU h4
  have hc := fun (a b : Int) (hb : 0 < b) => ceilDiv_bd (a := a) hb
  have hf := fun (a b : Int) (hb : 0 < b) => floor_bd (a := a) hb
  unfold pL pU
  rw [if_neg hs, if_neg hs]
  by_cases s1 : s = 1
  · rw [if_pos s1, if_pos s1]
    have a := hf (dL d + 1048576 * (t % 2)) 2 (by omega)
    have b := hc (dU d + 1048576 * (t % 2)) 2 (by omega)
    omega
  · rw [if_neg s1, if_neg s1]
    by_cases s2 : s = 2
    · rw [if_pos s2, if_pos s2]
      have a := hf (dL d + 1048576 * (t % 3)) 3 (by omega)
      have b := hc (dU d + 1048576 * (t % 3)) 3 (by omega)
      omega
    · rw [if_neg s2, if_neg s2]
      by_cases s3 : s = 3
      · rw [if_pos s3, if_pos s3]; omega
      · rw [if_neg s3, if_neg s3]
        by_cases s4 : s = 4
        · rw [if_pos s4, if_pos s4]
          split <;> omega
        · rw [if_neg s4, if_neg s4]; exact h3
theorem pl_strict {s d t len : Int} (h : Dig d) (h1 : 1 ≤ len) (hs : s ≠ 5) (hp : pL s d t < pU s d t) : plL s d t len < plU s d t len := by
  have a := floor_bd (a := pL s d t * len) (b := 1048576) (by omega)
  have b := ceilDiv_bd (a := pU s d t * len) (b := 1048576) (by omega)
  have c : pL s d t * len < pU s d t * len := Int.mul_lt_mul_of_pos_right hp (by omega)
  unfold plL plU
  omega
theorem sortB_apart {s d d2 t len eye : Int} (hd : Dig d) (hd2 : Dig d2) (hlt : d < d2) (h1 : 1 ≤ len) (h2 : len ≤ 100000) (h5 : 0 ≤ eye) : sortB s d d2 t len eye = apartB s d d2 t len eye := by
  have P1 := pl_bd (s := s) (t := t) hd h1 h2
  have P2 := pl_bd (s := s) (t := t) hd2 h1 h2
  unfold sortB apartB
  split
  · rename_i hc
    rw [show decide (plU s d t len + eye ≤ plL s d2 t len) = false from decide_eq_false (by omega), Bool.or_false]
  · rename_i hc
    by_cases h : plU s d2 t len + eye ≤ plL s d t len
    · have e1 : plL s d t len = plL s d2 t len := by omega
      have e2 : plU s d2 t len = plL s d2 t len := by omega
      have : plU s d t len + eye ≤ plL s d2 t len := by
        by_cases hs : s = 5
        · subst hs
          have : pU 5 d t ≤ pU 5 d2 t := by
            unfold pU
            rw [if_pos rfl, if_pos rfl]
            exact ceilDiv_mono (by omega) (by omega)
          have : plU 5 d t len ≤ plU 5 d2 t len := by
            unfold plU
            exact ceilDiv_mono (by omega) (Int.mul_le_mul_of_nonneg_right this (by omega))
          omega
        · have := pl_strict (s := s) (t := t) (len := len) hd2 h1 hs (p_strict hd2 hs)
          omega
      rw [decide_eq_true h, decide_eq_true this]
      rfl
    · rw [decide_eq_false h, Bool.false_or]
theorem endPq {p : Int × Int} {x y : Int} (h : p = (x, y)) : Ending.returned (.tuple #[.int .i64 x, .int .i64 y]) = .returned (.tuple #[.int .i64 p.1, .int .i64 p.2]) := by subst h; rfl
theorem oneAl {P : Program} {f : FuncId} {args : Array Value} {W : World} {v : Value} {o : Obj} (h : Calls P f args W fun e w' => e = .returned v ∧ W.alloc o = w') : Calls P f args W fun e w' => e = .returned v ∧ Below W.heap.size W w' :=
  h.mono fun e w' ⟨he, hw⟩ => ⟨he, by subst hw; exact (Below.refl _ _).alloc (Nat.le_refl _) _⟩
set_option maxRecDepth 100000 in
set_option maxHeartbeats 8000000 in
theorem iNeededLength_any (s d t eye parts : Int) (w : World) :
    Calls Try.prog 20 #[.int .i64 s, .agg #[.int .i64 d, .int .i64 t], .int .i64 eye, .int .i64 parts] w fun e w' => e = .returned (.tuple #[.int .i64 (rNeed s d t eye parts).1, .int .i64 (rNeed s d t eye parts).2]) ∧ Below w.heap.size w w' := by
  have IG := fun W => oneAl (iIsFigure_any d t W)
  by_cases g1 : figB d t = true
  · rw [g1] at IG
    obtain ⟨hd, ht1, ht2⟩ := figB_iff.1 g1
    by_cases g2 : inB s 0 5 = true
    · have hs := inB_iff.1 g2
      obtain ⟨dc1, dc2⟩ := decades_bd s
      have DC := fun W => oneAl (decadesOf_any s W hs.1 hs.2)
      have HN := Lib.hid (show needOk s t eye parts = (inB s 0 5 && (inB eye 0 200 && (inB parts 1 4 && inB t 0 (decades s - 1)))) from rfl)
      have HC := Lib.hid (show rNeed s d t eye parts = if needOk s t eye parts = true then (if cutT d t parts ≠ t ∨ 9999 < nextD d parts then (0, 2) else needAt s (cutD d parts) (nextD d parts) t eye 1000 100) else (0, 2) by rw [rNeed, if_pos g1])
      have ewd : IntKind.i64.wrap (decades s - 1) = decades s - 1 := IntWalk.i64_in _ (by omega)
      clear g1
      skip
      by_cases g3 : inB eye 0 200 = true
      · by_cases g4 : inB parts 1 4 = true
        · obtain ⟨p1, p2⟩ := inB_iff.1 g4
          by_cases g5 : inB t 0 (decades s - 1) = true
          · have HV0 := Lib.hid (HC.out.trans (if_pos (by rw [HN.out, g2, g3, g4, g5]; rfl)))
            have HT := inB_iff.1 g5
            have RF := fun W => roundFigure_any d t parts W hd (by omega) (by omega) p1 p2
            have TN := fun W => ten_any (4 - parts) W (by omega) (by omega)
            have HE := inB_iff.1 g3
            have CU := cut_of (t := t) hd p1 p2
            have HX := Lib.hid (show nextD d parts = cutD d parts + p10 (4 - parts).toNat from rfl)
            generalize decades s = dcs at *
            clear HC HN
            have HY := Lib.hid (show ∃ x, x = cutD d parts from ⟨_, rfl⟩)
            obtain ⟨hcd, hct, hn1, hn2⟩ := CU
            have ew4 : IntKind.i64.wrap (4 - parts) = 4 - parts := IntWalk.i64_in _ (by omega)
            have enx : IntKind.i64.wrap (cutD d parts + p10 (4 - parts).toNat) = nextD d parts := (IntWalk.i64_in _ (by have := HX.out; omega)).trans HX.out.symm
            have HW := Lib.hid (show cutD d parts < nextD d parts by have := HX.out; have := unit_bd p1 p2; omega)
            clear HY HX
            generalize p10 (4 - parts).toNat = un at *
            generalize cutD d parts = cd at *
            generalize cutT d t parts = ct at *
            generalize nextD d parts = nd at *
            go_enter Try.func20, Try.ntmps20
            go_upto_region 0 with fail
            go_cut [5, 8, 9] (fun s5 s8 s9 wx => s5 = .pointer (some ⟨w.heap.size, 0, none⟩) ∧ s8 = .int .i64 0 ∧ s9 = .int .i64 0 ∧ wx.cell? ⟨w.heap.size, 0, none⟩ = some (.int .i64 d) ∧ wx.cell? ⟨w.heap.size, 1, none⟩ = some (.int .i64 t) ∧ w.heap.size < wx.heap.size ∧ Below w.heap.size w wx)
            case first =>
              go_wp2_with fail
              go_meet
              refine ⟨rfl, rfl, rfl, ?_, ?_, ?_, by repeat' (first | (with_reducible exact Below.refl _ _) | (with_reducible assumption) | (with_reducible refine Below.alloc ?_ ?_ _) | (with_reducible refine Below.drew ?_) | (with_reducible refine belowDraws ?_ _) | (with_reducible refine Below.setCell ?_ ?_ _) | omega | (simp; done) | (simp; omega))⟩
              all_goals (first | omega | (simp [go_sem]; done) | (simp; omega))
            case rest =>
            obtain ⟨rfl, rfl, rfl, c0, c1, hl, B0⟩ := hcut
            obtain ⟨w0, rfl⟩ : ∃ w0 : World, w0 = wc := ⟨_, rfl⟩
            have lw0 := B0.size
            have KP := Lib.hid (show ∀ W : World, Below w0.heap.size w0 W → W.cell? ⟨w.heap.size, 0, none⟩ = some (.int .i64 d) ∧ W.cell? ⟨w.heap.size, 1, none⟩ = some (.int .i64 t) from fun W hW => ⟨(hW.cell (by first | omega | (simp; done) | (simp; omega))).trans c0, (hW.cell (by first | omega | (simp; done) | (simp; omega))).trans c1⟩)
            go_upto_region 3 with (first
              | (go_at_call 73; (with_reducible refine (IG _).mono ?_); rintro e w1 ⟨rfl, hb1⟩; have hB1 : Below w0.heap.size w0 w1 := Below.trans (by repeat' (first | exact Below.refl _ _ | assumption | refine Below.alloc ?_ (by first | omega | (simp; done) | (simp; omega)) _ | refine Below.drew ?_ | refine Below.setCell ?_ (by first | omega | (simp; done) | (simp; omega)) _)) (hb1.mono (by first | omega | (simp; done) | (simp; omega))); have hz1 := hB1.size; obtain ⟨q1_0, q1_1⟩ := KP.out w1 hB1; clear hb1))
            go_cut [39] (fun s39 wx => s39 = .bool false ∧ Below w0.heap.size w0 wx)
            case first =>
              go_region_held3 (fun w' => w'.cell? ⟨w.heap.size, 0, none⟩ = some (.int .i64 d) ∧ w'.cell? ⟨w.heap.size, 1, none⟩ = some (.int .i64 t)) (first | (exact KP.out _ (by repeat' (first | (with_reducible exact Below.refl _ _) | (with_reducible assumption) | (with_reducible refine Below.alloc ?_ ?_ _) | (with_reducible refine Below.drew ?_) | (with_reducible refine belowDraws ?_ _) | (with_reducible refine Below.setCell ?_ ?_ _) | omega | (simp; done) | (simp; omega)))) | (go_keep; done)) (first
                | (go_at_call 74; (with_reducible refine (iIsScale_any _ _).mono ?_); rintro e w' ⟨rfl, rfl⟩)
                | (go_at_call 63; (with_reducible refine (within_any _ _ _ _).mono ?_); rintro e w' ⟨rfl, rfl⟩)
                | (go_at_call 75; (with_reducible refine (DC _).mono ?_); rintro e w2 ⟨rfl, hb2⟩; have hB2 : Below w0.heap.size w0 w2 := Below.trans (by repeat' (first | exact Below.refl _ _ | assumption | refine Below.alloc ?_ (by first | omega | (simp; done) | (simp; omega)) _ | refine Below.drew ?_ | refine Below.setCell ?_ (by first | omega | (simp; done) | (simp; omega)) _)) (hb2.mono (by first | omega | (simp; done) | (simp; omega))); have hz2 := hB2.size; obtain ⟨q2_0, q2_1⟩ := KP.out w2 hB2; clear hb2))
              all_goals (go_wp2_with fail; go_meet; exact ⟨rfl, by repeat' (first | (with_reducible exact Below.refl _ _) | (with_reducible assumption) | (with_reducible refine Below.alloc ?_ ?_ _) | (with_reducible refine Below.drew ?_) | (with_reducible refine belowDraws ?_ _) | (with_reducible refine Below.setCell ?_ ?_ _) | omega | (simp; done) | (simp; omega))⟩)
            case rest =>
            obtain ⟨rfl, BZ⟩ := hcut
            obtain ⟨wZ, rfl⟩ : ∃ wZ : World, wZ = wc := ⟨_, rfl⟩
            obtain ⟨e0, e1⟩ := KP.out wZ BZ
            have lwZ := BZ.size
            go_upto_region 5 with fail
            go_cut [10] (fun s10 wx => ∃ g : Nat, s10 = .pointer (some ⟨g, 0, none⟩) ∧ wx.cell? ⟨g, 0, none⟩ = some (.int .i64 cd) ∧ wx.cell? ⟨g, 1, none⟩ = some (.int .i64 ct) ∧ w.heap.size < g ∧ g < wx.heap.size ∧ Below w0.heap.size w0 wx)
            case first =>
              go_wp2_with (go_at_call 76; (with_reducible refine (RF _).mono ?_); rintro e w3 ⟨rfl, hb3⟩; have hB3 : Below w0.heap.size w0 w3 := Below.trans (by repeat' (first | exact Below.refl _ _ | assumption | refine Below.alloc ?_ (by first | omega | (simp; done) | (simp; omega)) _ | refine Below.drew ?_ | refine Below.setCell ?_ (by first | omega | (simp; done) | (simp; omega)) _)) (hb3.mono (by first | omega | (simp; done) | (simp; omega))); have hz3 := hB3.size; obtain ⟨q3_0, q3_1⟩ := KP.out w3 hB3; clear hb3)
              go_meet
              refine ⟨_, rfl, ?_, ?_, ?_, ?_, by repeat' (first | (with_reducible exact Below.refl _ _) | (with_reducible assumption) | (with_reducible refine Below.alloc ?_ ?_ _) | (with_reducible refine Below.drew ?_) | (with_reducible refine belowDraws ?_ _) | (with_reducible refine Below.setCell ?_ ?_ _) | omega | (simp; done) | (simp; omega))⟩
              all_goals (first | omega | (simp [go_sem, *]; done) | (simp; omega))
            case rest =>
            obtain ⟨ga, rfl, a0, a1, hga0, hga, BA⟩ := hcut
            obtain ⟨wA, rfl⟩ : ∃ wA : World, wA = wc := ⟨_, rfl⟩
            obtain ⟨e2, e3⟩ := KP.out wA BA
            have lwA := BA.size
            have KA := Lib.hid (show ∀ W : World, Below wA.heap.size wA W → W.cell? ⟨w.heap.size, 0, none⟩ = some (.int .i64 d) ∧ W.cell? ⟨w.heap.size, 1, none⟩ = some (.int .i64 t) ∧ W.cell? ⟨ga, 0, none⟩ = some (.int .i64 cd) ∧ W.cell? ⟨ga, 1, none⟩ = some (.int .i64 ct) from fun W hW => ⟨(hW.cell (by first | omega | (simp; done) | (simp; omega))).trans e2, (hW.cell (by first | omega | (simp; done) | (simp; omega))).trans e3, (hW.cell (by first | omega | (simp; done) | (simp; omega))).trans a0, (hW.cell (by first | omega | (simp; done) | (simp; omega))).trans a1⟩)
            have na1 : w.heap.size ≠ wA.heap.size := by omega
            have na2 : ga ≠ wA.heap.size := by omega
            go_upto_region 6 with fail
            go_cut [11] (fun s11 wx => ∃ g : Nat, s11 = .pointer (some ⟨g, 0, none⟩) ∧ wx.cell? ⟨g, 0, none⟩ = some (.int .i64 nd) ∧ wx.cell? ⟨g, 1, none⟩ = some (.int .i64 t) ∧ g < wx.heap.size ∧ Below wA.heap.size wA wx)
            case first =>
              go_region_held3 (fun w' => w'.cell? ⟨ga, 0, none⟩ = some (.int .i64 cd) ∧ w'.cell? ⟨ga, 1, none⟩ = some (.int .i64 ct) ∧ w'.cell? ⟨w.heap.size, 1, none⟩ = some (.int .i64 t)) (first | (go_keep; done) | (refine ⟨?_, ?_, ?_⟩ <;> (simp [go_sem, *]; done))) (first
                | (go_at_call 77; (with_reducible refine (TN _).mono ?_); rintro e w' ⟨rfl, rfl⟩))
              all_goals (go_wp2_with fail; go_meet; refine ⟨_, rfl, ?_, ?_, ?_, by repeat' (first | (with_reducible exact Below.refl _ _) | (with_reducible assumption) | (with_reducible refine Below.alloc ?_ ?_ _) | (with_reducible refine Below.drew ?_) | (with_reducible refine belowDraws ?_ _) | (with_reducible refine Below.setCell ?_ ?_ _) | omega | (simp; done) | (simp; omega))⟩)
              all_goals (first | omega | (simp [go_sem, *]; done) | (simp; omega))
            case rest =>
            obtain ⟨gb, rfl, b0, b1, hgb, BB⟩ := hcut
            obtain ⟨wB, rfl⟩ : ∃ wB : World, wB = wc := ⟨_, rfl⟩
            obtain ⟨e4, e5, e6, e7⟩ := KA.out wB BB
            have lwB := BB.size
            have KB := Lib.hid (show ∀ W : World, Below wB.heap.size wB W → W.cell? ⟨w.heap.size, 0, none⟩ = some (.int .i64 d) ∧ W.cell? ⟨w.heap.size, 1, none⟩ = some (.int .i64 t) ∧ W.cell? ⟨ga, 0, none⟩ = some (.int .i64 cd) ∧ W.cell? ⟨ga, 1, none⟩ = some (.int .i64 ct) ∧ W.cell? ⟨gb, 0, none⟩ = some (.int .i64 nd) ∧ W.cell? ⟨gb, 1, none⟩ = some (.int .i64 t) from fun W hW => ⟨(hW.cell (by first | omega | (simp; done) | (simp; omega))).trans e4, (hW.cell (by first | omega | (simp; done) | (simp; omega))).trans e5, (hW.cell (by first | omega | (simp; done) | (simp; omega))).trans e6, (hW.cell (by first | omega | (simp; done) | (simp; omega))).trans e7, (hW.cell (by first | omega | (simp; done) | (simp; omega))).trans b0, (hW.cell (by first | omega | (simp; done) | (simp; omega))).trans b1⟩)
            have BALL := B0.trans ((BA.trans (BB.mono BA.size)).mono B0.size)
            by_cases hbad : ct ≠ t ∨ 9999 < nd
            · have HV := Lib.hid (HV0.out.trans (if_pos hbad))
              by_cases hq : ct = t
              · have hn3 : 9999 < nd := by omega
                have t1 : (ct != t) = false := by simpa using hq
                have t2 : decide (9999 < nd) = true := decide_eq_true hn3
                clear hbad hq
                go_wp2_with fail
                go_ret2
                exact ⟨endPq HV.out, by exact BALL⟩
              · have t1 : (ct != t) = true := by simpa using hq
                clear hbad hq
                go_wp2_with fail
                go_ret2
                exact ⟨endPq HV.out, by exact BALL⟩
            · have HV := Lib.hid (HV0.out.trans (if_neg hbad))
              have hq : ct = t := by omega
              have hn3 : nd ≤ 9999 := by omega
              have hnd : Dig nd := ⟨by omega, hn3⟩
              clear hbad
              subst hq
              have t2 : decide (9999 < nd) = false := decide_eq_false (by omega)
              have t3 : (ct != ct) = false := by simp
              go_wp2_with fail
              go_loopw [12] (fun v wr => ∃ (k : Int) (f : Nat), v = .int .i64 k ∧ 100 ≤ k ∧ (f : Int) * 100 + k = 100100 ∧ needAt s cd nd ct eye 1000 100 = needAt s cd nd ct eye f k ∧ Below wB.heap.size wB wr) (fun v _ => (100100 - intOf v).toNat)
              case atStart => exact ⟨100, 1000, rfl, by omega, by omega, rfl, by repeat' (first | (with_reducible exact Below.refl _ _) | (with_reducible assumption) | (with_reducible refine Below.alloc ?_ ?_ _) | (with_reducible refine Below.drew ?_) | (with_reducible refine belowDraws ?_ _) | (with_reducible refine Below.setCell ?_ ?_ _) | omega | (simp; done) | (simp; omega))⟩
              case round =>
                obtain ⟨k, f, rfl, hk, hfk, hN, hW⟩ := hrel
                have HN := Lib.hid hN
                obtain ⟨r0, r1, r2, r3, r4, r5⟩ := KB.out wr hW
                have lwr := hW.size
                clear hN
                match f with
                | 0 =>
                  have hk2 : ¬ k ≤ 100000 := by omega
                  have HE2 := Lib.hid (HV.out.trans HN.out)
                  go_wp2_with fail
                  go_ret2
                  exact ⟨endPq HE2.out, BALL.trans (hW.mono BALL.size)⟩
                | f + 1 =>
                  have hk2 : k ≤ 100000 := by omega
                  have PL1 := fun W => place_any s cd ct k W hcd (by omega) (by omega) (by omega) (by omega)
                  have PL2 := fun W => place_any s nd ct k W hnd (by omega) (by omega) (by omega) (by omega)
                  have P1 := pl_bd (s := s) (t := ct) hcd (show 1 ≤ k by omega) hk2
                  have P2 := pl_bd (s := s) (t := ct) hnd (show 1 ≤ k by omega) hk2
                  have HS := Lib.hid (sortB_apart (s := s) (t := ct) hcd hnd HW.out (show 1 ≤ k by omega) hk2 HE.1)
                  have HT0 := Lib.hid (show sortB s cd nd ct k eye = if plL s nd ct k < plL s cd ct k then decide (plU s nd ct k + eye ≤ plL s cd ct k) else decide (plU s cd ct k + eye ≤ plL s nd ct k) from rfl)
                  generalize plL s cd ct k = a1 at *
                  generalize plU s cd ct k = b1 at *
                  generalize plL s nd ct k = a2 at *
                  generalize plU s nd ct k = b2 at *
                  go_upto_region 12 with fail
                  go_cut [13, 14] from 62 to 88 (fun s13 s14 wx => ∃ g h : Nat, s13 = .pointer (some ⟨g, 0, none⟩) ∧ s14 = .pointer (some ⟨h, 0, none⟩) ∧ wx.cell? ⟨g, 0, none⟩ = some (.int .i64 a1) ∧ wx.cell? ⟨g, 1, none⟩ = some (.int .i64 b1) ∧ wx.cell? ⟨h, 0, none⟩ = some (.int .i64 a2) ∧ wx.cell? ⟨h, 1, none⟩ = some (.int .i64 b2) ∧
                    wx.frozen? ⟨g, 0, none⟩ = false ∧ wx.frozen? ⟨g, 1, none⟩ = false ∧ wx.frozen? ⟨h, 0, none⟩ = false ∧ wx.frozen? ⟨h, 1, none⟩ = false ∧ g ≠ h ∧ wB.heap.size ≤ g ∧ wB.heap.size ≤ h ∧ Below wB.heap.size wB wx)
                  case first =>
                    go_region_held3 (fun w' => w'.cell? ⟨w.heap.size, 0, none⟩ = some (.int .i64 d) ∧ w'.cell? ⟨w.heap.size, 1, none⟩ = some (.int .i64 ct) ∧ w'.cell? ⟨ga, 0, none⟩ = some (.int .i64 cd) ∧ w'.cell? ⟨ga, 1, none⟩ = some (.int .i64 ct) ∧ w'.cell? ⟨gb, 0, none⟩ = some (.int .i64 nd) ∧ w'.cell? ⟨gb, 1, none⟩ = some (.int .i64 ct)) (first | (exact KB.out _ (by repeat' (first | (with_reducible exact Below.refl _ _) | (with_reducible assumption) | (with_reducible refine Below.alloc ?_ ?_ _) | (with_reducible refine Below.drew ?_) | (with_reducible refine belowDraws ?_ _) | (with_reducible refine Below.setCell ?_ ?_ _) | omega | (simp; done) | (simp; omega)))) | (go_keep; done)) (first
                      | (go_at_call 78; (with_reducible refine (PL1 _).mono ?_); rintro e w5 ⟨rfl, hb5⟩; have hB5 : Below wB.heap.size wB w5 := Below.trans (by repeat' (first | exact Below.refl _ _ | assumption | refine Below.alloc ?_ (by first | omega | (simp; done) | (simp; omega)) _ | refine Below.drew ?_ | refine Below.setCell ?_ (by first | omega | (simp; done) | (simp; omega)) _)) (hb5.mono (by first | omega | (simp; done) | (simp; omega))); have hz5 := hB5.size; obtain ⟨q5_0, q5_1, q5_2, q5_3, q5_4, q5_5⟩ := KB.out w5 hB5; (try (refine (fun (hm5_0 : wr.heap.size < w5.heap.size) => ?_) ?_; rotate_left; refine Nat.lt_of_lt_of_le ?_ hb5.size; (focus (first | omega | (simp; done) | (simp; omega))); refine (fun (mq5_00 : w5.cell? ⟨wr.heap.size, 0, none⟩ = some (.int .i64 0)) => ?_) ?_; rotate_left; refine (hb5.cell ?_).trans ?_; (focus (first | omega | (simp; done) | (simp; omega))); (focus (simp [go_sem, *]; done)); refine (fun (mr5_00 : w5.frozen? ⟨wr.heap.size, 0, none⟩ = false) => ?_) ?_; rotate_left; refine (hb5.frozen ?_).trans ?_; (focus (first | omega | (simp; done) | (simp; omega))); (focus (simp [go_sem, *]; done)); refine (fun (mq5_01 : w5.cell? ⟨wr.heap.size, 1, none⟩ = some (.int .i64 0)) => ?_) ?_; rotate_left; refine (hb5.cell ?_).trans ?_; (focus (first | omega | (simp; done) | (simp; omega))); (focus (simp [go_sem, *]; done)); refine (fun (mr5_01 : w5.frozen? ⟨wr.heap.size, 1, none⟩ = false) => ?_) ?_; rotate_left; refine (hb5.frozen ?_).trans ?_; (focus (first | omega | (simp; done) | (simp; omega))); (focus (simp [go_sem, *]; done)))); (try (refine (fun (hm5_1 : (wr.heap.size + 1) < w5.heap.size) => ?_) ?_; rotate_left; refine Nat.lt_of_lt_of_le ?_ hb5.size; (focus (first | omega | (simp; done) | (simp; omega))); refine (fun (mq5_10 : w5.cell? ⟨(wr.heap.size + 1), 0, none⟩ = some (.int .i64 0)) => ?_) ?_; rotate_left; refine (hb5.cell ?_).trans ?_; (focus (first | omega | (simp; done) | (simp; omega))); (focus (simp [go_sem, *]; done)); refine (fun (mr5_10 : w5.frozen? ⟨(wr.heap.size + 1), 0, none⟩ = false) => ?_) ?_; rotate_left; refine (hb5.frozen ?_).trans ?_; (focus (first | omega | (simp; done) | (simp; omega))); (focus (simp [go_sem, *]; done)); refine (fun (mq5_11 : w5.cell? ⟨(wr.heap.size + 1), 1, none⟩ = some (.int .i64 0)) => ?_) ?_; rotate_left; refine (hb5.cell ?_).trans ?_; (focus (first | omega | (simp; done) | (simp; omega))); (focus (simp [go_sem, *]; done)); refine (fun (mr5_11 : w5.frozen? ⟨(wr.heap.size + 1), 1, none⟩ = false) => ?_) ?_; rotate_left; refine (hb5.frozen ?_).trans ?_; (focus (first | omega | (simp; done) | (simp; omega))); (focus (simp [go_sem, *]; done)))); (try (refine (fun (nx5_0 : wr.heap.size ≠ w5.heap.size) => ?_) ?_; rotate_left; omega; refine (fun (ny5_0 : w5.heap.size ≠ wr.heap.size) => ?_) ?_; rotate_left; omega)); (try (refine (fun (nx5_1 : wr.heap.size ≠ w5.heap.size + 1) => ?_) ?_; rotate_left; omega; refine (fun (ny5_1 : w5.heap.size + 1 ≠ wr.heap.size) => ?_) ?_; rotate_left; omega)); (try (refine (fun (nx5_2 : (wr.heap.size + 1) ≠ w5.heap.size) => ?_) ?_; rotate_left; omega; refine (fun (ny5_2 : w5.heap.size ≠ (wr.heap.size + 1)) => ?_) ?_; rotate_left; omega)); (try (refine (fun (nx5_3 : (wr.heap.size + 1) ≠ w5.heap.size + 1) => ?_) ?_; rotate_left; omega; refine (fun (ny5_3 : w5.heap.size + 1 ≠ (wr.heap.size + 1)) => ?_) ?_; rotate_left; omega)); clear hb5)
                      | (go_at_call 78; (with_reducible refine (PL2 _).mono ?_); rintro e w6 ⟨rfl, hb6⟩; have hB6 : Below wB.heap.size wB w6 := Below.trans (by repeat' (first | exact Below.refl _ _ | assumption | refine Below.alloc ?_ (by first | omega | (simp; done) | (simp; omega)) _ | refine Below.drew ?_ | refine Below.setCell ?_ (by first | omega | (simp; done) | (simp; omega)) _)) (hb6.mono (by first | omega | (simp; done) | (simp; omega))); have hz6 := hB6.size; obtain ⟨q6_0, q6_1, q6_2, q6_3, q6_4, q6_5⟩ := KB.out w6 hB6; (try (refine (fun (hm6_0 : wr.heap.size < w6.heap.size) => ?_) ?_; rotate_left; refine Nat.lt_of_lt_of_le ?_ hb6.size; (focus (first | omega | (simp; done) | (simp; omega))); refine (fun (mq6_00 : w6.cell? ⟨wr.heap.size, 0, none⟩ = some (.int .i64 0)) => ?_) ?_; rotate_left; refine (hb6.cell ?_).trans ?_; (focus (first | omega | (simp; done) | (simp; omega))); (focus (simp [go_sem, *]; done)); refine (fun (mr6_00 : w6.frozen? ⟨wr.heap.size, 0, none⟩ = false) => ?_) ?_; rotate_left; refine (hb6.frozen ?_).trans ?_; (focus (first | omega | (simp; done) | (simp; omega))); (focus (simp [go_sem, *]; done)); refine (fun (mq6_01 : w6.cell? ⟨wr.heap.size, 1, none⟩ = some (.int .i64 0)) => ?_) ?_; rotate_left; refine (hb6.cell ?_).trans ?_; (focus (first | omega | (simp; done) | (simp; omega))); (focus (simp [go_sem, *]; done)); refine (fun (mr6_01 : w6.frozen? ⟨wr.heap.size, 1, none⟩ = false) => ?_) ?_; rotate_left; refine (hb6.frozen ?_).trans ?_; (focus (first | omega | (simp; done) | (simp; omega))); (focus (simp [go_sem, *]; done)))); (try (refine (fun (hm6_1 : (wr.heap.size + 1) < w6.heap.size) => ?_) ?_; rotate_left; refine Nat.lt_of_lt_of_le ?_ hb6.size; (focus (first | omega | (simp; done) | (simp; omega))); refine (fun (mq6_10 : w6.cell? ⟨(wr.heap.size + 1), 0, none⟩ = some (.int .i64 0)) => ?_) ?_; rotate_left; refine (hb6.cell ?_).trans ?_; (focus (first | omega | (simp; done) | (simp; omega))); (focus (simp [go_sem, *]; done)); refine (fun (mr6_10 : w6.frozen? ⟨(wr.heap.size + 1), 0, none⟩ = false) => ?_) ?_; rotate_left; refine (hb6.frozen ?_).trans ?_; (focus (first | omega | (simp; done) | (simp; omega))); (focus (simp [go_sem, *]; done)); refine (fun (mq6_11 : w6.cell? ⟨(wr.heap.size + 1), 1, none⟩ = some (.int .i64 0)) => ?_) ?_; rotate_left; refine (hb6.cell ?_).trans ?_; (focus (first | omega | (simp; done) | (simp; omega))); (focus (simp [go_sem, *]; done)); refine (fun (mr6_11 : w6.frozen? ⟨(wr.heap.size + 1), 1, none⟩ = false) => ?_) ?_; rotate_left; refine (hb6.frozen ?_).trans ?_; (focus (first | omega | (simp; done) | (simp; omega))); (focus (simp [go_sem, *]; done)))); (try (refine (fun (hm6_2 : w5.heap.size < w6.heap.size) => ?_) ?_; rotate_left; refine Nat.lt_of_lt_of_le ?_ hb6.size; (focus (first | omega | (simp; done) | (simp; omega))); refine (fun (mq6_20 : w6.cell? ⟨w5.heap.size, 0, none⟩ = some (.int .i64 0)) => ?_) ?_; rotate_left; refine (hb6.cell ?_).trans ?_; (focus (first | omega | (simp; done) | (simp; omega))); (focus (simp [go_sem, *]; done)); refine (fun (mr6_20 : w6.frozen? ⟨w5.heap.size, 0, none⟩ = false) => ?_) ?_; rotate_left; refine (hb6.frozen ?_).trans ?_; (focus (first | omega | (simp; done) | (simp; omega))); (focus (simp [go_sem, *]; done)); refine (fun (mq6_21 : w6.cell? ⟨w5.heap.size, 1, none⟩ = some (.int .i64 0)) => ?_) ?_; rotate_left; refine (hb6.cell ?_).trans ?_; (focus (first | omega | (simp; done) | (simp; omega))); (focus (simp [go_sem, *]; done)); refine (fun (mr6_21 : w6.frozen? ⟨w5.heap.size, 1, none⟩ = false) => ?_) ?_; rotate_left; refine (hb6.frozen ?_).trans ?_; (focus (first | omega | (simp; done) | (simp; omega))); (focus (simp [go_sem, *]; done)))); (try (refine (fun (hm6_3 : (w5.heap.size + 1) < w6.heap.size) => ?_) ?_; rotate_left; refine Nat.lt_of_lt_of_le ?_ hb6.size; (focus (first | omega | (simp; done) | (simp; omega))); refine (fun (mq6_30 : w6.cell? ⟨(w5.heap.size + 1), 0, none⟩ = some (.int .i64 0)) => ?_) ?_; rotate_left; refine (hb6.cell ?_).trans ?_; (focus (first | omega | (simp; done) | (simp; omega))); (focus (simp [go_sem, *]; done)); refine (fun (mr6_30 : w6.frozen? ⟨(w5.heap.size + 1), 0, none⟩ = false) => ?_) ?_; rotate_left; refine (hb6.frozen ?_).trans ?_; (focus (first | omega | (simp; done) | (simp; omega))); (focus (simp [go_sem, *]; done)); refine (fun (mq6_31 : w6.cell? ⟨(w5.heap.size + 1), 1, none⟩ = some (.int .i64 0)) => ?_) ?_; rotate_left; refine (hb6.cell ?_).trans ?_; (focus (first | omega | (simp; done) | (simp; omega))); (focus (simp [go_sem, *]; done)); refine (fun (mr6_31 : w6.frozen? ⟨(w5.heap.size + 1), 1, none⟩ = false) => ?_) ?_; rotate_left; refine (hb6.frozen ?_).trans ?_; (focus (first | omega | (simp; done) | (simp; omega))); (focus (simp [go_sem, *]; done)))); (try (refine (fun (nx6_0 : wr.heap.size ≠ w6.heap.size) => ?_) ?_; rotate_left; omega; refine (fun (ny6_0 : w6.heap.size ≠ wr.heap.size) => ?_) ?_; rotate_left; omega)); (try (refine (fun (nx6_1 : wr.heap.size ≠ w6.heap.size + 1) => ?_) ?_; rotate_left; omega; refine (fun (ny6_1 : w6.heap.size + 1 ≠ wr.heap.size) => ?_) ?_; rotate_left; omega)); (try (refine (fun (nx6_2 : (wr.heap.size + 1) ≠ w6.heap.size) => ?_) ?_; rotate_left; omega; refine (fun (ny6_2 : w6.heap.size ≠ (wr.heap.size + 1)) => ?_) ?_; rotate_left; omega)); (try (refine (fun (nx6_3 : (wr.heap.size + 1) ≠ w6.heap.size + 1) => ?_) ?_; rotate_left; omega; refine (fun (ny6_3 : w6.heap.size + 1 ≠ (wr.heap.size + 1)) => ?_) ?_; rotate_left; omega)); (try (refine (fun (nx6_4 : w5.heap.size ≠ w6.heap.size) => ?_) ?_; rotate_left; omega; refine (fun (ny6_4 : w6.heap.size ≠ w5.heap.size) => ?_) ?_; rotate_left; omega)); (try (refine (fun (nx6_5 : w5.heap.size ≠ w6.heap.size + 1) => ?_) ?_; rotate_left; omega; refine (fun (ny6_5 : w6.heap.size + 1 ≠ w5.heap.size) => ?_) ?_; rotate_left; omega)); (try (refine (fun (nx6_6 : (w5.heap.size + 1) ≠ w6.heap.size) => ?_) ?_; rotate_left; omega; refine (fun (ny6_6 : w6.heap.size ≠ (w5.heap.size + 1)) => ?_) ?_; rotate_left; omega)); (try (refine (fun (nx6_7 : (w5.heap.size + 1) ≠ w6.heap.size + 1) => ?_) ?_; rotate_left; omega; refine (fun (ny6_7 : w6.heap.size + 1 ≠ (w5.heap.size + 1)) => ?_) ?_; rotate_left; omega)); clear hb6))
                    all_goals (go_wp2_with fail; go_meet; refine ⟨_, _, rfl, rfl, ?_, ?_, ?_, ?_, ?_, ?_, ?_, ?_, ?_, ?_, ?_, by repeat' (first | (with_reducible exact Below.refl _ _) | (with_reducible assumption) | (with_reducible refine Below.alloc ?_ ?_ _) | (with_reducible refine Below.drew ?_) | (with_reducible refine belowDraws ?_ _) | (with_reducible refine Below.setCell ?_ ?_ _) | omega | (simp; done) | (simp; omega))⟩)
                    all_goals (first | omega | (simp [go_sem, *]; done) | (simp; omega))
                  case rest =>
                  obtain ⟨gp, gq, rfl, rfl, c1, c2, c3, c4, f1, f2, f3, f4, hne, hg1, hg2, BC⟩ := hcut
                  have hne2 : gq ≠ gp := fun h => hne h.symm
                  have lwc := BC.size
                  by_cases hs1 : a2 < a1
                  · have HT := Lib.hid (HT0.out.trans (if_pos hs1))
                    have ts : decide (a2 < a1) = true := decide_eq_true hs1
                    by_cases ha : apartB s cd nd ct k eye = true
                    · have HE2 := Lib.hid (HV.out.trans (HN.out.trans (needAt_yes ha)))
                      have td : decide (b2 + eye ≤ a1) = true := by rw [← HT.out]; exact HS.out.trans ha
                      clear ha
                      go_wp2_with fail
                      go_ret2
                      exact ⟨endPq HE2.out, by repeat' (first | (with_reducible exact Below.refl _ _) | (with_reducible assumption) | (refine BALL.trans (Below.mono ?_ BALL.size); with_reducible assumption) | (with_reducible refine Below.alloc ?_ ?_ _) | (with_reducible refine Below.drew ?_) | (with_reducible refine belowDraws ?_ _) | (with_reducible refine Below.setCell ?_ ?_ _) | omega | (simp; done) | (simp; omega))⟩
                    · have ha' : apartB s cd nd ct k eye = false := by simpa using ha
                      have HN2 := Lib.hid (HN.out.trans (needAt_no ha'))
                      have td : decide (b2 + eye ≤ a1) = false := by rw [← HT.out]; exact HS.out.trans ha'
                      clear ha ha'
                      go_wp2_with fail
                      go_roundw
                      case rel => exact ⟨k + 100, f, rfl, by omega, by omega, HN2.out, by repeat' (first | (with_reducible exact Below.refl _ _) | (with_reducible assumption) | (with_reducible refine Below.alloc ?_ ?_ _) | (with_reducible refine Below.drew ?_) | (with_reducible refine belowDraws ?_ _) | (with_reducible refine Below.setCell ?_ ?_ _) | omega | (simp; done) | (simp; omega))⟩
                      case measure => simp [intOf]; omega
                  · have HT := Lib.hid (HT0.out.trans (if_neg hs1))
                    have ts : decide (a2 < a1) = false := decide_eq_false hs1
                    by_cases ha : apartB s cd nd ct k eye = true
                    · have HE2 := Lib.hid (HV.out.trans (HN.out.trans (needAt_yes ha)))
                      have td : decide (b1 + eye ≤ a2) = true := by rw [← HT.out]; exact HS.out.trans ha
                      clear ha
                      go_wp2_with fail
                      go_ret2
                      exact ⟨endPq HE2.out, by repeat' (first | (with_reducible exact Below.refl _ _) | (with_reducible assumption) | (refine BALL.trans (Below.mono ?_ BALL.size); with_reducible assumption) | (with_reducible refine Below.alloc ?_ ?_ _) | (with_reducible refine Below.drew ?_) | (with_reducible refine belowDraws ?_ _) | (with_reducible refine Below.setCell ?_ ?_ _) | omega | (simp; done) | (simp; omega))⟩
                    · have ha' : apartB s cd nd ct k eye = false := by simpa using ha
                      have HN2 := Lib.hid (HN.out.trans (needAt_no ha'))
                      have td : decide (b1 + eye ≤ a2) = false := by rw [← HT.out]; exact HS.out.trans ha'
                      clear ha ha'
                      go_wp2_with fail
                      go_roundw
                      case rel => exact ⟨k + 100, f, rfl, by omega, by omega, HN2.out, by repeat' (first | (with_reducible exact Below.refl _ _) | (with_reducible assumption) | (with_reducible refine Below.alloc ?_ ?_ _) | (with_reducible refine Below.drew ?_) | (with_reducible refine belowDraws ?_ _) | (with_reducible refine Below.setCell ?_ ?_ _) | omega | (simp; done) | (simp; omega))⟩
                      case measure => simp [intOf]; omega
          · have HV := Lib.hid (HC.out.trans (if_neg (by rw [HN.out, g2, g3, g4]; simpa using g5)))
            have g5' : inB t 0 (decades s - 1) = false := by simpa using g5
            generalize decades s = dcs at *
            clear HC HN g5
            go_enter Try.func20, Try.ntmps20
            go_upto_region 0 with fail
            go_cut [5, 8, 9] (fun s5 s8 s9 wx => s5 = .pointer (some ⟨w.heap.size, 0, none⟩) ∧ s8 = .int .i64 0 ∧ s9 = .int .i64 0 ∧ wx.cell? ⟨w.heap.size, 0, none⟩ = some (.int .i64 d) ∧ wx.cell? ⟨w.heap.size, 1, none⟩ = some (.int .i64 t) ∧ w.heap.size < wx.heap.size ∧ Below w.heap.size w wx)
            case first =>
              go_wp2_with fail
              go_meet
              refine ⟨rfl, rfl, rfl, ?_, ?_, ?_, by repeat' (first | (with_reducible exact Below.refl _ _) | (with_reducible assumption) | (with_reducible refine Below.alloc ?_ ?_ _) | (with_reducible refine Below.drew ?_) | (with_reducible refine belowDraws ?_ _) | (with_reducible refine Below.setCell ?_ ?_ _) | omega | (simp; done) | (simp; omega))⟩
              all_goals (first | omega | (simp [go_sem]; done) | (simp; omega))
            case rest =>
            obtain ⟨rfl, rfl, rfl, c0, c1, hl, B0⟩ := hcut
            obtain ⟨w0, rfl⟩ : ∃ w0 : World, w0 = wc := ⟨_, rfl⟩
            have lw0 := B0.size
            have KP := Lib.hid (show ∀ W : World, Below w0.heap.size w0 W → W.cell? ⟨w.heap.size, 0, none⟩ = some (.int .i64 d) ∧ W.cell? ⟨w.heap.size, 1, none⟩ = some (.int .i64 t) from fun W hW => ⟨(hW.cell (by first | omega | (simp; done) | (simp; omega))).trans c0, (hW.cell (by first | omega | (simp; done) | (simp; omega))).trans c1⟩)
            go_wp2_with (first
              | (go_at_call 73; (with_reducible refine (IG _).mono ?_); rintro e w1 ⟨rfl, hb1⟩; have hB1 : Below w0.heap.size w0 w1 := Below.trans (by repeat' (first | exact Below.refl _ _ | assumption | refine Below.alloc ?_ (by first | omega | (simp; done) | (simp; omega)) _ | refine Below.drew ?_ | refine Below.setCell ?_ (by first | omega | (simp; done) | (simp; omega)) _)) (hb1.mono (by first | omega | (simp; done) | (simp; omega))); have hz1 := hB1.size; obtain ⟨q1_0, q1_1⟩ := KP.out w1 hB1; clear hb1))
            go_region_held3 (fun w' => w'.cell? ⟨w.heap.size, 0, none⟩ = some (.int .i64 d) ∧ w'.cell? ⟨w.heap.size, 1, none⟩ = some (.int .i64 t)) (first | (exact KP.out _ (by repeat' (first | (with_reducible exact Below.refl _ _) | (with_reducible assumption) | (with_reducible refine Below.alloc ?_ ?_ _) | (with_reducible refine Below.drew ?_) | (with_reducible refine belowDraws ?_ _) | (with_reducible refine Below.setCell ?_ ?_ _) | omega | (simp; done) | (simp; omega)))) | (go_keep; done)) (first
              | (go_at_call 74; (with_reducible refine (iIsScale_any _ _).mono ?_); rintro e w' ⟨rfl, rfl⟩)
              | (go_at_call 63; (with_reducible refine (within_any _ _ _ _).mono ?_); rintro e w' ⟨rfl, rfl⟩)
              | (go_at_call 75; (with_reducible refine (DC _).mono ?_); rintro e w2 ⟨rfl, hb2⟩; have hB2 : Below w0.heap.size w0 w2 := Below.trans (by repeat' (first | exact Below.refl _ _ | assumption | refine Below.alloc ?_ (by first | omega | (simp; done) | (simp; omega)) _ | refine Below.drew ?_ | refine Below.setCell ?_ (by first | omega | (simp; done) | (simp; omega)) _)) (hb2.mono (by first | omega | (simp; done) | (simp; omega))); have hz2 := hB2.size; obtain ⟨q2_0, q2_1⟩ := KP.out w2 hB2; clear hb2))
            all_goals go_wp2_with fail
            all_goals go_ret2
            all_goals exact ⟨endPq HV.out, by repeat' (first | (with_reducible exact Below.refl _ _) | (with_reducible assumption) | (refine B0.trans (Below.mono ?_ B0.size); with_reducible assumption) | (with_reducible refine Below.alloc ?_ ?_ _) | (with_reducible refine Below.drew ?_) | (with_reducible refine belowDraws ?_ _) | (with_reducible refine Below.setCell ?_ ?_ _) | omega | (simp; done) | (simp; omega))⟩
        · have HV := Lib.hid (HC.out.trans (if_neg (by rw [HN.out, g2, g3]; simp [g4])))
          have g4' : inB parts 1 4 = false := by simpa using g4
          clear HC HN g4
          go_enter Try.func20, Try.ntmps20
          go_upto_region 0 with fail
          go_cut [5, 8, 9] (fun s5 s8 s9 wx => s5 = .pointer (some ⟨w.heap.size, 0, none⟩) ∧ s8 = .int .i64 0 ∧ s9 = .int .i64 0 ∧ wx.cell? ⟨w.heap.size, 0, none⟩ = some (.int .i64 d) ∧ wx.cell? ⟨w.heap.size, 1, none⟩ = some (.int .i64 t) ∧ w.heap.size < wx.heap.size ∧ Below w.heap.size w wx)
          case first =>
            go_wp2_with fail
            go_meet
            refine ⟨rfl, rfl, rfl, ?_, ?_, ?_, by repeat' (first | (with_reducible exact Below.refl _ _) | (with_reducible assumption) | (with_reducible refine Below.alloc ?_ ?_ _) | (with_reducible refine Below.drew ?_) | (with_reducible refine belowDraws ?_ _) | (with_reducible refine Below.setCell ?_ ?_ _) | omega | (simp; done) | (simp; omega))⟩
            all_goals (first | omega | (simp [go_sem]; done) | (simp; omega))
          case rest =>
          obtain ⟨rfl, rfl, rfl, c0, c1, hl, B0⟩ := hcut
          obtain ⟨w0, rfl⟩ : ∃ w0 : World, w0 = wc := ⟨_, rfl⟩
          have lw0 := B0.size
          have KP := Lib.hid (show ∀ W : World, Below w0.heap.size w0 W → W.cell? ⟨w.heap.size, 0, none⟩ = some (.int .i64 d) ∧ W.cell? ⟨w.heap.size, 1, none⟩ = some (.int .i64 t) from fun W hW => ⟨(hW.cell (by first | omega | (simp; done) | (simp; omega))).trans c0, (hW.cell (by first | omega | (simp; done) | (simp; omega))).trans c1⟩)
          go_wp2_with (first
            | (go_at_call 73; (with_reducible refine (IG _).mono ?_); rintro e w1 ⟨rfl, hb1⟩; have hB1 : Below w0.heap.size w0 w1 := Below.trans (by repeat' (first | exact Below.refl _ _ | assumption | refine Below.alloc ?_ (by first | omega | (simp; done) | (simp; omega)) _ | refine Below.drew ?_ | refine Below.setCell ?_ (by first | omega | (simp; done) | (simp; omega)) _)) (hb1.mono (by first | omega | (simp; done) | (simp; omega))); have hz1 := hB1.size; obtain ⟨q1_0, q1_1⟩ := KP.out w1 hB1; clear hb1))
          go_quiet ((first | (go_at_call 74; exact quietSame (iIsScale_any _ _)) | (go_at_call 63; exact quietSame (within_any _ _ _ _))))
          all_goals go_wp2_with fail
          all_goals go_ret2
          all_goals exact ⟨endPq HV.out, by repeat' (first | (with_reducible exact Below.refl _ _) | (with_reducible assumption) | (refine B0.trans (Below.mono ?_ B0.size); with_reducible assumption) | (with_reducible refine Below.alloc ?_ ?_ _) | (with_reducible refine Below.drew ?_) | (with_reducible refine belowDraws ?_ _) | (with_reducible refine Below.setCell ?_ ?_ _) | omega | (simp; done) | (simp; omega))⟩
      · have HV := Lib.hid (HC.out.trans (if_neg (by rw [HN.out, g2]; simp [g3])))
        have g3' : inB eye 0 200 = false := by simpa using g3
        clear HC HN g3
        go_enter Try.func20, Try.ntmps20
        go_upto_region 0 with fail
        go_cut [5, 8, 9] (fun s5 s8 s9 wx => s5 = .pointer (some ⟨w.heap.size, 0, none⟩) ∧ s8 = .int .i64 0 ∧ s9 = .int .i64 0 ∧ wx.cell? ⟨w.heap.size, 0, none⟩ = some (.int .i64 d) ∧ wx.cell? ⟨w.heap.size, 1, none⟩ = some (.int .i64 t) ∧ w.heap.size < wx.heap.size ∧ Below w.heap.size w wx)
        case first =>
          go_wp2_with fail
          go_meet
          refine ⟨rfl, rfl, rfl, ?_, ?_, ?_, by repeat' (first | (with_reducible exact Below.refl _ _) | (with_reducible assumption) | (with_reducible refine Below.alloc ?_ ?_ _) | (with_reducible refine Below.drew ?_) | (with_reducible refine belowDraws ?_ _) | (with_reducible refine Below.setCell ?_ ?_ _) | omega | (simp; done) | (simp; omega))⟩
          all_goals (first | omega | (simp [go_sem]; done) | (simp; omega))
        case rest =>
        obtain ⟨rfl, rfl, rfl, c0, c1, hl, B0⟩ := hcut
        obtain ⟨w0, rfl⟩ : ∃ w0 : World, w0 = wc := ⟨_, rfl⟩
        have lw0 := B0.size
        have KP := Lib.hid (show ∀ W : World, Below w0.heap.size w0 W → W.cell? ⟨w.heap.size, 0, none⟩ = some (.int .i64 d) ∧ W.cell? ⟨w.heap.size, 1, none⟩ = some (.int .i64 t) from fun W hW => ⟨(hW.cell (by first | omega | (simp; done) | (simp; omega))).trans c0, (hW.cell (by first | omega | (simp; done) | (simp; omega))).trans c1⟩)
        go_wp2_with (first
          | (go_at_call 73; (with_reducible refine (IG _).mono ?_); rintro e w1 ⟨rfl, hb1⟩; have hB1 : Below w0.heap.size w0 w1 := Below.trans (by repeat' (first | exact Below.refl _ _ | assumption | refine Below.alloc ?_ (by first | omega | (simp; done) | (simp; omega)) _ | refine Below.drew ?_ | refine Below.setCell ?_ (by first | omega | (simp; done) | (simp; omega)) _)) (hb1.mono (by first | omega | (simp; done) | (simp; omega))); have hz1 := hB1.size; obtain ⟨q1_0, q1_1⟩ := KP.out w1 hB1; clear hb1))
        go_quiet ((first | (go_at_call 74; exact quietSame (iIsScale_any _ _)) | (go_at_call 63; exact quietSame (within_any _ _ _ _))))
        all_goals go_wp2_with fail
        all_goals go_ret2
        all_goals exact ⟨endPq HV.out, by repeat' (first | (with_reducible exact Below.refl _ _) | (with_reducible assumption) | (refine B0.trans (Below.mono ?_ B0.size); with_reducible assumption) | (with_reducible refine Below.alloc ?_ ?_ _) | (with_reducible refine Below.drew ?_) | (with_reducible refine belowDraws ?_ _) | (with_reducible refine Below.setCell ?_ ?_ _) | omega | (simp; done) | (simp; omega))⟩
    · have HV := Lib.hid (show rNeed s d t eye parts = (0, 2) by rw [rNeed, if_pos g1, if_neg (by simp [needOk, g2])])
      have g2' : inB s 0 5 = false := by simpa using g2
      clear g1 g2
      go_enter Try.func20, Try.ntmps20
      go_upto_region 0 with fail
      go_cut [5, 8, 9] (fun s5 s8 s9 wx => s5 = .pointer (some ⟨w.heap.size, 0, none⟩) ∧ s8 = .int .i64 0 ∧ s9 = .int .i64 0 ∧ wx.cell? ⟨w.heap.size, 0, none⟩ = some (.int .i64 d) ∧ wx.cell? ⟨w.heap.size, 1, none⟩ = some (.int .i64 t) ∧ w.heap.size < wx.heap.size ∧ Below w.heap.size w wx)
      case first =>
        go_wp2_with fail
        go_meet
        refine ⟨rfl, rfl, rfl, ?_, ?_, ?_, by repeat' (first | (with_reducible exact Below.refl _ _) | (with_reducible assumption) | (with_reducible refine Below.alloc ?_ ?_ _) | (with_reducible refine Below.drew ?_) | (with_reducible refine belowDraws ?_ _) | (with_reducible refine Below.setCell ?_ ?_ _) | omega | (simp; done) | (simp; omega))⟩
        all_goals (first | omega | (simp [go_sem]; done) | (simp; omega))
      case rest =>
      obtain ⟨rfl, rfl, rfl, c0, c1, hl, B0⟩ := hcut
      obtain ⟨w0, rfl⟩ : ∃ w0 : World, w0 = wc := ⟨_, rfl⟩
      have lw0 := B0.size
      have KP := Lib.hid (show ∀ W : World, Below w0.heap.size w0 W → W.cell? ⟨w.heap.size, 0, none⟩ = some (.int .i64 d) ∧ W.cell? ⟨w.heap.size, 1, none⟩ = some (.int .i64 t) from fun W hW => ⟨(hW.cell (by first | omega | (simp; done) | (simp; omega))).trans c0, (hW.cell (by first | omega | (simp; done) | (simp; omega))).trans c1⟩)
      go_wp2_with (first
        | (go_at_call 73; (with_reducible refine (IG _).mono ?_); rintro e w1 ⟨rfl, hb1⟩; have hB1 : Below w0.heap.size w0 w1 := Below.trans (by repeat' (first | exact Below.refl _ _ | assumption | refine Below.alloc ?_ (by first | omega | (simp; done) | (simp; omega)) _ | refine Below.drew ?_ | refine Below.setCell ?_ (by first | omega | (simp; done) | (simp; omega)) _)) (hb1.mono (by first | omega | (simp; done) | (simp; omega))); have hz1 := hB1.size; obtain ⟨q1_0, q1_1⟩ := KP.out w1 hB1; clear hb1))
      go_quiet ((first | (go_at_call 74; exact quietSame (iIsScale_any _ _)) | (go_at_call 63; exact quietSame (within_any _ _ _ _))))
      all_goals go_wp2_with fail
      all_goals go_ret2
      all_goals exact ⟨endPq HV.out, by repeat' (first | (with_reducible exact Below.refl _ _) | (with_reducible assumption) | (refine B0.trans (Below.mono ?_ B0.size); with_reducible assumption) | (with_reducible refine Below.alloc ?_ ?_ _) | (with_reducible refine Below.drew ?_) | (with_reducible refine belowDraws ?_ _) | (with_reducible refine Below.setCell ?_ ?_ _) | omega | (simp; done) | (simp; omega))⟩
  · have HV := Lib.hid (show rNeed s d t eye parts = (0, 1) by rw [rNeed, if_neg g1])
    have g1' : figB d t = false := by simpa using g1
    rw [g1'] at IG
    clear g1 g1'
    go_enter Try.func20, Try.ntmps20
    go_upto_region 0 with fail
    go_cut [5, 8, 9] (fun s5 s8 s9 wx => s5 = .pointer (some ⟨w.heap.size, 0, none⟩) ∧ s8 = .int .i64 0 ∧ s9 = .int .i64 0 ∧ wx.cell? ⟨w.heap.size, 0, none⟩ = some (.int .i64 d) ∧ wx.cell? ⟨w.heap.size, 1, none⟩ = some (.int .i64 t) ∧ w.heap.size < wx.heap.size ∧ Below w.heap.size w wx)
    case first =>
      go_wp2_with fail
      go_meet
      refine ⟨rfl, rfl, rfl, ?_, ?_, ?_, by repeat' (first | (with_reducible exact Below.refl _ _) | (with_reducible assumption) | (with_reducible refine Below.alloc ?_ ?_ _) | (with_reducible refine Below.drew ?_) | (with_reducible refine belowDraws ?_ _) | (with_reducible refine Below.setCell ?_ ?_ _) | omega | (simp; done) | (simp; omega))⟩
      all_goals (first | omega | (simp [go_sem]; done) | (simp; omega))
    case rest =>
    obtain ⟨rfl, rfl, rfl, c0, c1, hl, B0⟩ := hcut
    obtain ⟨w0, rfl⟩ : ∃ w0 : World, w0 = wc := ⟨_, rfl⟩
    have lw0 := B0.size
    have KP := Lib.hid (show ∀ W : World, Below w0.heap.size w0 W → W.cell? ⟨w.heap.size, 0, none⟩ = some (.int .i64 d) ∧ W.cell? ⟨w.heap.size, 1, none⟩ = some (.int .i64 t) from fun W hW => ⟨(hW.cell (by first | omega | (simp; done) | (simp; omega))).trans c0, (hW.cell (by first | omega | (simp; done) | (simp; omega))).trans c1⟩)
    go_wp2_with (first
      | (go_at_call 73; (with_reducible refine (IG _).mono ?_); rintro e w1 ⟨rfl, hb1⟩; have hB1 : Below w0.heap.size w0 w1 := Below.trans (by repeat' (first | exact Below.refl _ _ | assumption | refine Below.alloc ?_ (by first | omega | (simp; done) | (simp; omega)) _ | refine Below.drew ?_ | refine Below.setCell ?_ (by first | omega | (simp; done) | (simp; omega)) _)) (hb1.mono (by first | omega | (simp; done) | (simp; omega))); have hz1 := hB1.size; obtain ⟨q1_0, q1_1⟩ := KP.out w1 hB1; clear hb1))
    go_ret2
    exact ⟨endPq HV.out, by repeat' (first | (with_reducible exact Below.refl _ _) | (with_reducible assumption) | (refine B0.trans (Below.mono ?_ B0.size); with_reducible assumption) | (with_reducible refine Below.alloc ?_ ?_ _) | (with_reducible refine Below.drew ?_) | (with_reducible refine belowDraws ?_ _) | (with_reducible refine Below.setCell ?_ ?_ _) | omega | (simp; done) | (simp; omega))⟩
set_option maxRecDepth 100000 in
set_option maxHeartbeats 8000000 in
theorem sNeededLength_any (s d t eye parts : Int) (w : World) :
    Calls Try.prog 18 #[.int .i64 s, .agg #[.int .i64 d, .int .i64 t], .int .i64 eye, .int .i64 parts] w fun e w' => e = .returned (.tuple #[.int .i64 (rNeed s d t eye parts).1, .int .i64 (rNeed s d t eye parts).2]) ∧ Below w.heap.size w w' := by
  have IG := fun W => oneAl (sIsFigure_any d t W)
  by_cases g1 : figB d t = true
  · rw [g1] at IG
    obtain ⟨hd, ht1, ht2⟩ := figB_iff.1 g1
    by_cases g2 : inB s 0 5 = true
    · have hs := inB_iff.1 g2
      obtain ⟨dc1, dc2⟩ := decades_bd s
      have DC := fun W => l05Decades_any s W
      have HN := Lib.hid (show needOk s t eye parts = (inB s 0 5 && (inB eye 0 200 && (inB parts 1 4 && inB t 0 (decades s - 1)))) from rfl)
      have HC := Lib.hid (show rNeed s d t eye parts = if needOk s t eye parts = true then (if cutT d t parts ≠ t ∨ 9999 < nextD d parts then (0, 2) else needAt s (cutD d parts) (nextD d parts) t eye 1000 100) else (0, 2) by rw [rNeed, if_pos g1])
      have ewd : IntKind.i64.wrap (decades s - 1) = decades s - 1 := IntWalk.i64_in _ (by omega)
      clear g1
      skip
      by_cases g3 : inB eye 0 200 = true
      · by_cases g4 : inB parts 1 4 = true
        · obtain ⟨p1, p2⟩ := inB_iff.1 g4
          by_cases g5 : inB t 0 (decades s - 1) = true
          · have HV0 := Lib.hid (HC.out.trans (if_pos (by rw [HN.out, g2, g3, g4, g5]; rfl)))
            have HT := inB_iff.1 g5
            have RF := fun W => l02Cut_any d t parts W hd (by omega) (by omega) p1 p2
            have TN := fun W => l01Ten_any (4 - parts) W (by omega) (by omega)
            have HE := inB_iff.1 g3
            have CU := cut_of (t := t) hd p1 p2
            have HX := Lib.hid (show nextD d parts = cutD d parts + p10 (4 - parts).toNat from rfl)
            generalize decades s = dcs at *
            clear HC HN
            have HY := Lib.hid (show ∃ x, x = cutD d parts from ⟨_, rfl⟩)
            obtain ⟨hcd, hct, hn1, hn2⟩ := CU
            have ew4 : IntKind.i64.wrap (4 - parts) = 4 - parts := IntWalk.i64_in _ (by omega)
            have enx : IntKind.i64.wrap (cutD d parts + p10 (4 - parts).toNat) = nextD d parts := (IntWalk.i64_in _ (by have := HX.out; omega)).trans HX.out.symm
            have HW := Lib.hid (show cutD d parts < nextD d parts by have := HX.out; have := unit_bd p1 p2; omega)
            clear HY HX
            generalize p10 (4 - parts).toNat = un at *
            generalize cutD d parts = cd at *
            generalize cutT d t parts = ct at *
            generalize nextD d parts = nd at *
            go_enter Try.func18, Try.ntmps18
            go_upto_region 0 with fail
            go_cut [5, 8, 9] (fun s5 s8 s9 wx => s5 = .pointer (some ⟨w.heap.size, 0, none⟩) ∧ s8 = .int .i64 0 ∧ s9 = .int .i64 0 ∧ wx.cell? ⟨w.heap.size, 0, none⟩ = some (.int .i64 d) ∧ wx.cell? ⟨w.heap.size, 1, none⟩ = some (.int .i64 t) ∧ w.heap.size < wx.heap.size ∧ Below w.heap.size w wx)
            case first =>
              go_wp2_with fail
              go_meet
              refine ⟨rfl, rfl, rfl, ?_, ?_, ?_, by repeat' (first | (with_reducible exact Below.refl _ _) | (with_reducible assumption) | (with_reducible refine Below.alloc ?_ ?_ _) | (with_reducible refine Below.drew ?_) | (with_reducible refine belowDraws ?_ _) | (with_reducible refine Below.setCell ?_ ?_ _) | omega | (simp; done) | (simp; omega))⟩
              all_goals (first | omega | (simp [go_sem]; done) | (simp; omega))
            case rest =>
            obtain ⟨rfl, rfl, rfl, c0, c1, hl, B0⟩ := hcut
            obtain ⟨w0, rfl⟩ : ∃ w0 : World, w0 = wc := ⟨_, rfl⟩
            have lw0 := B0.size
            have KP := Lib.hid (show ∀ W : World, Below w0.heap.size w0 W → W.cell? ⟨w.heap.size, 0, none⟩ = some (.int .i64 d) ∧ W.cell? ⟨w.heap.size, 1, none⟩ = some (.int .i64 t) from fun W hW => ⟨(hW.cell (by first | omega | (simp; done) | (simp; omega))).trans c0, (hW.cell (by first | omega | (simp; done) | (simp; omega))).trans c1⟩)
            go_upto_region 3 with (first
              | (go_at_call 68; (with_reducible refine (IG _).mono ?_); rintro e w1 ⟨rfl, hb1⟩; have hB1 : Below w0.heap.size w0 w1 := Below.trans (by repeat' (first | exact Below.refl _ _ | assumption | refine Below.alloc ?_ (by first | omega | (simp; done) | (simp; omega)) _ | refine Below.drew ?_ | refine Below.setCell ?_ (by first | omega | (simp; done) | (simp; omega)) _)) (hb1.mono (by first | omega | (simp; done) | (simp; omega))); have hz1 := hB1.size; obtain ⟨q1_0, q1_1⟩ := KP.out w1 hB1; clear hb1))
            go_cut [37] (fun s37 wx => s37 = .bool false ∧ Below w0.heap.size w0 wx)
            case first =>
              go_region_held3 (fun w' => w'.cell? ⟨w.heap.size, 0, none⟩ = some (.int .i64 d) ∧ w'.cell? ⟨w.heap.size, 1, none⟩ = some (.int .i64 t)) (first | (exact KP.out _ (by repeat' (first | (with_reducible exact Below.refl _ _) | (with_reducible assumption) | (with_reducible refine Below.alloc ?_ ?_ _) | (with_reducible refine Below.drew ?_) | (with_reducible refine belowDraws ?_ _) | (with_reducible refine Below.setCell ?_ ?_ _) | omega | (simp; done) | (simp; omega)))) | (go_keep; done)) (first
                | (go_at_call 69; (with_reducible refine (sIsScale_any _ _).mono ?_); rintro e w' ⟨rfl, rfl⟩)
                | (go_at_call 65; (with_reducible refine (l01In_any _ _ _ _).mono ?_); rintro e w' ⟨rfl, rfl⟩)
                | (go_at_call 67; (with_reducible refine (DC _).mono ?_); rintro e w' ⟨rfl, rfl⟩))
              all_goals (go_wp2_with fail; go_meet; exact ⟨rfl, by repeat' (first | (with_reducible exact Below.refl _ _) | (with_reducible assumption) | (with_reducible refine Below.alloc ?_ ?_ _) | (with_reducible refine Below.drew ?_) | (with_reducible refine belowDraws ?_ _) | (with_reducible refine Below.setCell ?_ ?_ _) | omega | (simp; done) | (simp; omega))⟩)
            case rest =>
            obtain ⟨rfl, BZ⟩ := hcut
            obtain ⟨wZ, rfl⟩ : ∃ wZ : World, wZ = wc := ⟨_, rfl⟩
            obtain ⟨e0, e1⟩ := KP.out wZ BZ
            have lwZ := BZ.size
            go_upto_region 5 with fail
            go_cut [10] (fun s10 wx => ∃ g : Nat, s10 = .pointer (some ⟨g, 0, none⟩) ∧ wx.cell? ⟨g, 0, none⟩ = some (.int .i64 cd) ∧ wx.cell? ⟨g, 1, none⟩ = some (.int .i64 ct) ∧ w.heap.size < g ∧ g < wx.heap.size ∧ Below w0.heap.size w0 wx)
            case first =>
              go_wp2_with (go_at_call 70; (with_reducible refine (RF _).mono ?_); rintro e w3 ⟨rfl, hb3⟩; have hB3 : Below w0.heap.size w0 w3 := Below.trans (by repeat' (first | exact Below.refl _ _ | assumption | refine Below.alloc ?_ (by first | omega | (simp; done) | (simp; omega)) _ | refine Below.drew ?_ | refine Below.setCell ?_ (by first | omega | (simp; done) | (simp; omega)) _)) (hb3.mono (by first | omega | (simp; done) | (simp; omega))); have hz3 := hB3.size; obtain ⟨q3_0, q3_1⟩ := KP.out w3 hB3; clear hb3)
              go_meet
              refine ⟨_, rfl, ?_, ?_, ?_, ?_, by repeat' (first | (with_reducible exact Below.refl _ _) | (with_reducible assumption) | (with_reducible refine Below.alloc ?_ ?_ _) | (with_reducible refine Below.drew ?_) | (with_reducible refine belowDraws ?_ _) | (with_reducible refine Below.setCell ?_ ?_ _) | omega | (simp; done) | (simp; omega))⟩
              all_goals (first | omega | (simp [go_sem, *]; done) | (simp; omega))
            case rest =>
            obtain ⟨ga, rfl, a0, a1, hga0, hga, BA⟩ := hcut
            obtain ⟨wA, rfl⟩ : ∃ wA : World, wA = wc := ⟨_, rfl⟩
            obtain ⟨e2, e3⟩ := KP.out wA BA
            have lwA := BA.size
            have KA := Lib.hid (show ∀ W : World, Below wA.heap.size wA W → W.cell? ⟨w.heap.size, 0, none⟩ = some (.int .i64 d) ∧ W.cell? ⟨w.heap.size, 1, none⟩ = some (.int .i64 t) ∧ W.cell? ⟨ga, 0, none⟩ = some (.int .i64 cd) ∧ W.cell? ⟨ga, 1, none⟩ = some (.int .i64 ct) from fun W hW => ⟨(hW.cell (by first | omega | (simp; done) | (simp; omega))).trans e2, (hW.cell (by first | omega | (simp; done) | (simp; omega))).trans e3, (hW.cell (by first | omega | (simp; done) | (simp; omega))).trans a0, (hW.cell (by first | omega | (simp; done) | (simp; omega))).trans a1⟩)
            have na1 : w.heap.size ≠ wA.heap.size := by omega
            have na2 : ga ≠ wA.heap.size := by omega
            go_upto_region 6 with fail
            go_cut [11] (fun s11 wx => ∃ g : Nat, s11 = .pointer (some ⟨g, 0, none⟩) ∧ wx.cell? ⟨g, 0, none⟩ = some (.int .i64 nd) ∧ wx.cell? ⟨g, 1, none⟩ = some (.int .i64 ct) ∧ g < wx.heap.size ∧ Below wA.heap.size wA wx)
            case first =>
              go_region_held3 (fun w' => w'.cell? ⟨ga, 0, none⟩ = some (.int .i64 cd) ∧ w'.cell? ⟨ga, 1, none⟩ = some (.int .i64 ct) ∧ w'.cell? ⟨w.heap.size, 1, none⟩ = some (.int .i64 t)) (first | (go_keep; done) | (refine ⟨?_, ?_, ?_⟩ <;> (simp [go_sem, *]; done))) (first
                | (go_at_call 71; (with_reducible refine (TN _).mono ?_); rintro e w' ⟨rfl, rfl⟩))
              all_goals (go_wp2_with fail; go_meet; refine ⟨_, rfl, ?_, ?_, ?_, by repeat' (first | (with_reducible exact Below.refl _ _) | (with_reducible assumption) | (with_reducible refine Below.alloc ?_ ?_ _) | (with_reducible refine Below.drew ?_) | (with_reducible refine belowDraws ?_ _) | (with_reducible refine Below.setCell ?_ ?_ _) | omega | (simp; done) | (simp; omega))⟩)
              all_goals (first | omega | (simp [go_sem, *]; done) | (simp; omega))
            case rest =>
            obtain ⟨gb, rfl, b0, b1, hgb, BB⟩ := hcut
            obtain ⟨wB, rfl⟩ : ∃ wB : World, wB = wc := ⟨_, rfl⟩
            obtain ⟨e4, e5, e6, e7⟩ := KA.out wB BB
            have lwB := BB.size
            have KB := Lib.hid (show ∀ W : World, Below wB.heap.size wB W → W.cell? ⟨w.heap.size, 0, none⟩ = some (.int .i64 d) ∧ W.cell? ⟨w.heap.size, 1, none⟩ = some (.int .i64 t) ∧ W.cell? ⟨ga, 0, none⟩ = some (.int .i64 cd) ∧ W.cell? ⟨ga, 1, none⟩ = some (.int .i64 ct) ∧ W.cell? ⟨gb, 0, none⟩ = some (.int .i64 nd) ∧ W.cell? ⟨gb, 1, none⟩ = some (.int .i64 ct) from fun W hW => ⟨(hW.cell (by first | omega | (simp; done) | (simp; omega))).trans e4, (hW.cell (by first | omega | (simp; done) | (simp; omega))).trans e5, (hW.cell (by first | omega | (simp; done) | (simp; omega))).trans e6, (hW.cell (by first | omega | (simp; done) | (simp; omega))).trans e7, (hW.cell (by first | omega | (simp; done) | (simp; omega))).trans b0, (hW.cell (by first | omega | (simp; done) | (simp; omega))).trans b1⟩)
            have BALL := B0.trans ((BA.trans (BB.mono BA.size)).mono B0.size)
            by_cases hbad : ct ≠ t ∨ 9999 < nd
            · have HV := Lib.hid (HV0.out.trans (if_pos hbad))
              have IGb := fun W => oneAl (sIsFigure_any nd ct W)
              by_cases hf : figB nd ct = true
              · have hq : ¬ ct = t := by have := (figB_iff.1 hf).1; unfold Dig at this; omega
                have t1 : (ct != t) = true := by simpa using hq
                rw [hf] at IGb
                clear hbad hq hf
                go_wp2_with (go_at_call 68; (with_reducible refine (IGb _).mono ?_); rintro e w8 ⟨rfl, hb8⟩; have hB8 : Below wB.heap.size wB w8 := Below.trans (by repeat' (first | exact Below.refl _ _ | assumption | refine Below.alloc ?_ (by first | omega | (simp; done) | (simp; omega)) _ | refine Below.drew ?_ | refine Below.setCell ?_ (by first | omega | (simp; done) | (simp; omega)) _)) (hb8.mono (by first | omega | (simp; done) | (simp; omega))); have hz8 := hB8.size; obtain ⟨q8_0, q8_1, q8_2, q8_3, q8_4, q8_5⟩ := KB.out w8 hB8; clear hb8)
                go_ret2
                exact ⟨endPq HV.out, BALL.trans (hB8.mono BALL.size)⟩
              · have hf' : figB nd ct = false := by simpa using hf
                rw [hf'] at IGb
                clear hbad hf hf'
                go_wp2_with (go_at_call 68; (with_reducible refine (IGb _).mono ?_); rintro e w8 ⟨rfl, hb8⟩; have hB8 : Below wB.heap.size wB w8 := Below.trans (by repeat' (first | exact Below.refl _ _ | assumption | refine Below.alloc ?_ (by first | omega | (simp; done) | (simp; omega)) _ | refine Below.drew ?_ | refine Below.setCell ?_ (by first | omega | (simp; done) | (simp; omega)) _)) (hb8.mono (by first | omega | (simp; done) | (simp; omega))); have hz8 := hB8.size; obtain ⟨q8_0, q8_1, q8_2, q8_3, q8_4, q8_5⟩ := KB.out w8 hB8; clear hb8)
                go_ret2
                exact ⟨endPq HV.out, BALL.trans (hB8.mono BALL.size)⟩
            · have HV := Lib.hid (HV0.out.trans (if_neg hbad))
              have hq : ct = t := by omega
              have hn3 : nd ≤ 9999 := by omega
              have hnd : Dig nd := ⟨by omega, hn3⟩
              clear hbad
              subst hq
              have t2 : decide (9999 < nd) = false := decide_eq_false (by omega)
              have t3 : (ct != ct) = false := by simp
              have IGb := fun W => oneAl (sIsFigure_any nd ct W)
              rw [figB_iff.2 ⟨hnd, by omega, by omega⟩] at IGb
              go_wp2_with (go_at_call 68; (with_reducible refine (IGb _).mono ?_); rintro e w8 ⟨rfl, hb8⟩; have hB8 : Below wB.heap.size wB w8 := Below.trans (by repeat' (first | exact Below.refl _ _ | assumption | refine Below.alloc ?_ (by first | omega | (simp; done) | (simp; omega)) _ | refine Below.drew ?_ | refine Below.setCell ?_ (by first | omega | (simp; done) | (simp; omega)) _)) (hb8.mono (by first | omega | (simp; done) | (simp; omega))); have hz8 := hB8.size; obtain ⟨q8_0, q8_1, q8_2, q8_3, q8_4, q8_5⟩ := KB.out w8 hB8; clear hb8)
              go_loopw [12] (fun v wr => ∃ (k : Int) (f : Nat), v = .int .i64 k ∧ 100 ≤ k ∧ (f : Int) * 100 + k = 100100 ∧ needAt s cd nd ct eye 1000 100 = needAt s cd nd ct eye f k ∧ Below wB.heap.size wB wr) (fun v _ => (100100 - intOf v).toNat)
              case atStart => exact ⟨100, 1000, rfl, by omega, by omega, rfl, by repeat' (first | (with_reducible exact Below.refl _ _) | (with_reducible assumption) | (with_reducible refine Below.alloc ?_ ?_ _) | (with_reducible refine Below.drew ?_) | (with_reducible refine belowDraws ?_ _) | (with_reducible refine Below.setCell ?_ ?_ _) | omega | (simp; done) | (simp; omega))⟩
              case round =>
                obtain ⟨k, f, rfl, hk, hfk, hN, hW⟩ := hrel
                have HN := Lib.hid hN
                obtain ⟨r0, r1, r2, r3, r4, r5⟩ := KB.out wr hW
                have lwr := hW.size
                clear hN
                match f with
                | 0 =>
                  have hk2 : ¬ k ≤ 100000 := by omega
                  have HE2 := Lib.hid (HV.out.trans HN.out)
                  go_wp2_with fail
                  go_ret2
                  exact ⟨endPq HE2.out, BALL.trans (hW.mono BALL.size)⟩
                | f + 1 =>
                  have hk2 : k ≤ 100000 := by omega
                  have AP := fun W => l06Apart_any s cd nd ct k eye W hcd hnd (by omega) (by omega) (by omega) (by omega) HE.1 HE.2
                  by_cases ha : apartB s cd nd ct k eye = true
                  · have HE2 := Lib.hid (HV.out.trans (HN.out.trans (needAt_yes ha)))
                    rw [ha] at AP
                    clear ha
                    go_wp2_with (go_at_call 72; (with_reducible refine (AP _).mono ?_); rintro e w7 ⟨rfl, hb7⟩; have hB7 : Below wB.heap.size wB w7 := Below.trans (by repeat' (first | exact Below.refl _ _ | assumption | refine Below.alloc ?_ (by first | omega | (simp; done) | (simp; omega)) _ | refine Below.drew ?_ | refine Below.setCell ?_ (by first | omega | (simp; done) | (simp; omega)) _)) (hb7.mono (by first | omega | (simp; done) | (simp; omega))); have hz7 := hB7.size; obtain ⟨q7_0, q7_1, q7_2, q7_3, q7_4, q7_5⟩ := KB.out w7 hB7; clear hb7)
                    go_ret2
                    exact ⟨endPq HE2.out, BALL.trans (hB7.mono BALL.size)⟩
                  · have ha' : apartB s cd nd ct k eye = false := by simpa using ha
                    have HN2 := Lib.hid (HN.out.trans (needAt_no ha'))
                    rw [ha'] at AP
                    clear ha ha'
                    go_wp2_with (go_at_call 72; (with_reducible refine (AP _).mono ?_); rintro e w7 ⟨rfl, hb7⟩; have hB7 : Below wB.heap.size wB w7 := Below.trans (by repeat' (first | exact Below.refl _ _ | assumption | refine Below.alloc ?_ (by first | omega | (simp; done) | (simp; omega)) _ | refine Below.drew ?_ | refine Below.setCell ?_ (by first | omega | (simp; done) | (simp; omega)) _)) (hb7.mono (by first | omega | (simp; done) | (simp; omega))); have hz7 := hB7.size; obtain ⟨q7_0, q7_1, q7_2, q7_3, q7_4, q7_5⟩ := KB.out w7 hB7; clear hb7)
                    go_roundw
                    case rel => exact ⟨k + 100, f, rfl, by omega, by omega, HN2.out, hB7⟩
                    case measure => simp [intOf]; omega
          · have HV := Lib.hid (HC.out.trans (if_neg (by rw [HN.out, g2, g3, g4]; simpa using g5)))
            have g5' : inB t 0 (decades s - 1) = false := by simpa using g5
            generalize decades s = dcs at *
            clear HC HN g5
            go_enter Try.func18, Try.ntmps18
            go_upto_region 0 with fail
            go_cut [5, 8, 9] (fun s5 s8 s9 wx => s5 = .pointer (some ⟨w.heap.size, 0, none⟩) ∧ s8 = .int .i64 0 ∧ s9 = .int .i64 0 ∧ wx.cell? ⟨w.heap.size, 0, none⟩ = some (.int .i64 d) ∧ wx.cell? ⟨w.heap.size, 1, none⟩ = some (.int .i64 t) ∧ w.heap.size < wx.heap.size ∧ Below w.heap.size w wx)
            case first =>
              go_wp2_with fail
              go_meet
              refine ⟨rfl, rfl, rfl, ?_, ?_, ?_, by repeat' (first | (with_reducible exact Below.refl _ _) | (with_reducible assumption) | (with_reducible refine Below.alloc ?_ ?_ _) | (with_reducible refine Below.drew ?_) | (with_reducible refine belowDraws ?_ _) | (with_reducible refine Below.setCell ?_ ?_ _) | omega | (simp; done) | (simp; omega))⟩
              all_goals (first | omega | (simp [go_sem]; done) | (simp; omega))
            case rest =>
            obtain ⟨rfl, rfl, rfl, c0, c1, hl, B0⟩ := hcut
            obtain ⟨w0, rfl⟩ : ∃ w0 : World, w0 = wc := ⟨_, rfl⟩
            have lw0 := B0.size
            have KP := Lib.hid (show ∀ W : World, Below w0.heap.size w0 W → W.cell? ⟨w.heap.size, 0, none⟩ = some (.int .i64 d) ∧ W.cell? ⟨w.heap.size, 1, none⟩ = some (.int .i64 t) from fun W hW => ⟨(hW.cell (by first | omega | (simp; done) | (simp; omega))).trans c0, (hW.cell (by first | omega | (simp; done) | (simp; omega))).trans c1⟩)
            go_wp2_with (first
              | (go_at_call 68; (with_reducible refine (IG _).mono ?_); rintro e w1 ⟨rfl, hb1⟩; have hB1 : Below w0.heap.size w0 w1 := Below.trans (by repeat' (first | exact Below.refl _ _ | assumption | refine Below.alloc ?_ (by first | omega | (simp; done) | (simp; omega)) _ | refine Below.drew ?_ | refine Below.setCell ?_ (by first | omega | (simp; done) | (simp; omega)) _)) (hb1.mono (by first | omega | (simp; done) | (simp; omega))); have hz1 := hB1.size; obtain ⟨q1_0, q1_1⟩ := KP.out w1 hB1; clear hb1))
            go_region_held3 (fun w' => w'.cell? ⟨w.heap.size, 0, none⟩ = some (.int .i64 d) ∧ w'.cell? ⟨w.heap.size, 1, none⟩ = some (.int .i64 t)) (first | (exact KP.out _ (by repeat' (first | (with_reducible exact Below.refl _ _) | (with_reducible assumption) | (with_reducible refine Below.alloc ?_ ?_ _) | (with_reducible refine Below.drew ?_) | (with_reducible refine belowDraws ?_ _) | (with_reducible refine Below.setCell ?_ ?_ _) | omega | (simp; done) | (simp; omega)))) | (go_keep; done)) (first
              | (go_at_call 69; (with_reducible refine (sIsScale_any _ _).mono ?_); rintro e w' ⟨rfl, rfl⟩)
              | (go_at_call 65; (with_reducible refine (l01In_any _ _ _ _).mono ?_); rintro e w' ⟨rfl, rfl⟩)
              | (go_at_call 67; (with_reducible refine (DC _).mono ?_); rintro e w' ⟨rfl, rfl⟩))
            all_goals go_wp2_with fail
            all_goals go_ret2
            all_goals exact ⟨endPq HV.out, by repeat' (first | (with_reducible exact Below.refl _ _) | (with_reducible assumption) | (refine B0.trans (Below.mono ?_ B0.size); with_reducible assumption) | (with_reducible refine Below.alloc ?_ ?_ _) | (with_reducible refine Below.drew ?_) | (with_reducible refine belowDraws ?_ _) | (with_reducible refine Below.setCell ?_ ?_ _) | omega | (simp; done) | (simp; omega))⟩
        · have HV := Lib.hid (HC.out.trans (if_neg (by rw [HN.out, g2, g3]; simp [g4])))
          have g4' : inB parts 1 4 = false := by simpa using g4
          clear HC HN g4
          go_enter Try.func18, Try.ntmps18
          go_upto_region 0 with fail
          go_cut [5, 8, 9] (fun s5 s8 s9 wx => s5 = .pointer (some ⟨w.heap.size, 0, none⟩) ∧ s8 = .int .i64 0 ∧ s9 = .int .i64 0 ∧ wx.cell? ⟨w.heap.size, 0, none⟩ = some (.int .i64 d) ∧ wx.cell? ⟨w.heap.size, 1, none⟩ = some (.int .i64 t) ∧ w.heap.size < wx.heap.size ∧ Below w.heap.size w wx)
          case first =>
            go_wp2_with fail
            go_meet
            refine ⟨rfl, rfl, rfl, ?_, ?_, ?_, by repeat' (first | (with_reducible exact Below.refl _ _) | (with_reducible assumption) | (with_reducible refine Below.alloc ?_ ?_ _) | (with_reducible refine Below.drew ?_) | (with_reducible refine belowDraws ?_ _) | (with_reducible refine Below.setCell ?_ ?_ _) | omega | (simp; done) | (simp; omega))⟩
            all_goals (first | omega | (simp [go_sem]; done) | (simp; omega))
          case rest =>
          obtain ⟨rfl, rfl, rfl, c0, c1, hl, B0⟩ := hcut
          obtain ⟨w0, rfl⟩ : ∃ w0 : World, w0 = wc := ⟨_, rfl⟩
          have lw0 := B0.size
          have KP := Lib.hid (show ∀ W : World, Below w0.heap.size w0 W → W.cell? ⟨w.heap.size, 0, none⟩ = some (.int .i64 d) ∧ W.cell? ⟨w.heap.size, 1, none⟩ = some (.int .i64 t) from fun W hW => ⟨(hW.cell (by first | omega | (simp; done) | (simp; omega))).trans c0, (hW.cell (by first | omega | (simp; done) | (simp; omega))).trans c1⟩)
          go_wp2_with (first
            | (go_at_call 68; (with_reducible refine (IG _).mono ?_); rintro e w1 ⟨rfl, hb1⟩; have hB1 : Below w0.heap.size w0 w1 := Below.trans (by repeat' (first | exact Below.refl _ _ | assumption | refine Below.alloc ?_ (by first | omega | (simp; done) | (simp; omega)) _ | refine Below.drew ?_ | refine Below.setCell ?_ (by first | omega | (simp; done) | (simp; omega)) _)) (hb1.mono (by first | omega | (simp; done) | (simp; omega))); have hz1 := hB1.size; obtain ⟨q1_0, q1_1⟩ := KP.out w1 hB1; clear hb1))
          go_quiet ((first | (go_at_call 69; exact quietSame (sIsScale_any _ _)) | (go_at_call 65; exact quietSame (l01In_any _ _ _ _))))
          all_goals go_wp2_with fail
          all_goals go_ret2
          all_goals exact ⟨endPq HV.out, by repeat' (first | (with_reducible exact Below.refl _ _) | (with_reducible assumption) | (refine B0.trans (Below.mono ?_ B0.size); with_reducible assumption) | (with_reducible refine Below.alloc ?_ ?_ _) | (with_reducible refine Below.drew ?_) | (with_reducible refine belowDraws ?_ _) | (with_reducible refine Below.setCell ?_ ?_ _) | omega | (simp; done) | (simp; omega))⟩
      · have HV := Lib.hid (HC.out.trans (if_neg (by rw [HN.out, g2]; simp [g3])))
        have g3' : inB eye 0 200 = false := by simpa using g3
        clear HC HN g3
        go_enter Try.func18, Try.ntmps18
        go_upto_region 0 with fail
        go_cut [5, 8, 9] (fun s5 s8 s9 wx => s5 = .pointer (some ⟨w.heap.size, 0, none⟩) ∧ s8 = .int .i64 0 ∧ s9 = .int .i64 0 ∧ wx.cell? ⟨w.heap.size, 0, none⟩ = some (.int .i64 d) ∧ wx.cell? ⟨w.heap.size, 1, none⟩ = some (.int .i64 t) ∧ w.heap.size < wx.heap.size ∧ Below w.heap.size w wx)
        case first =>
          go_wp2_with fail
          go_meet
          refine ⟨rfl, rfl, rfl, ?_, ?_, ?_, by repeat' (first | (with_reducible exact Below.refl _ _) | (with_reducible assumption) | (with_reducible refine Below.alloc ?_ ?_ _) | (with_reducible refine Below.drew ?_) | (with_reducible refine belowDraws ?_ _) | (with_reducible refine Below.setCell ?_ ?_ _) | omega | (simp; done) | (simp; omega))⟩
          all_goals (first | omega | (simp [go_sem]; done) | (simp; omega))
        case rest =>
        obtain ⟨rfl, rfl, rfl, c0, c1, hl, B0⟩ := hcut
        obtain ⟨w0, rfl⟩ : ∃ w0 : World, w0 = wc := ⟨_, rfl⟩
        have lw0 := B0.size
        have KP := Lib.hid (show ∀ W : World, Below w0.heap.size w0 W → W.cell? ⟨w.heap.size, 0, none⟩ = some (.int .i64 d) ∧ W.cell? ⟨w.heap.size, 1, none⟩ = some (.int .i64 t) from fun W hW => ⟨(hW.cell (by first | omega | (simp; done) | (simp; omega))).trans c0, (hW.cell (by first | omega | (simp; done) | (simp; omega))).trans c1⟩)
        go_wp2_with (first
          | (go_at_call 68; (with_reducible refine (IG _).mono ?_); rintro e w1 ⟨rfl, hb1⟩; have hB1 : Below w0.heap.size w0 w1 := Below.trans (by repeat' (first | exact Below.refl _ _ | assumption | refine Below.alloc ?_ (by first | omega | (simp; done) | (simp; omega)) _ | refine Below.drew ?_ | refine Below.setCell ?_ (by first | omega | (simp; done) | (simp; omega)) _)) (hb1.mono (by first | omega | (simp; done) | (simp; omega))); have hz1 := hB1.size; obtain ⟨q1_0, q1_1⟩ := KP.out w1 hB1; clear hb1))
        go_quiet ((first | (go_at_call 69; exact quietSame (sIsScale_any _ _)) | (go_at_call 65; exact quietSame (l01In_any _ _ _ _))))
        all_goals go_wp2_with fail
        all_goals go_ret2
        all_goals exact ⟨endPq HV.out, by repeat' (first | (with_reducible exact Below.refl _ _) | (with_reducible assumption) | (refine B0.trans (Below.mono ?_ B0.size); with_reducible assumption) | (with_reducible refine Below.alloc ?_ ?_ _) | (with_reducible refine Below.drew ?_) | (with_reducible refine belowDraws ?_ _) | (with_reducible refine Below.setCell ?_ ?_ _) | omega | (simp; done) | (simp; omega))⟩
    · have HV := Lib.hid (show rNeed s d t eye parts = (0, 2) by rw [rNeed, if_pos g1, if_neg (by simp [needOk, g2])])
      have g2' : inB s 0 5 = false := by simpa using g2
      clear g1 g2
      go_enter Try.func18, Try.ntmps18
      go_upto_region 0 with fail
      go_cut [5, 8, 9] (fun s5 s8 s9 wx => s5 = .pointer (some ⟨w.heap.size, 0, none⟩) ∧ s8 = .int .i64 0 ∧ s9 = .int .i64 0 ∧ wx.cell? ⟨w.heap.size, 0, none⟩ = some (.int .i64 d) ∧ wx.cell? ⟨w.heap.size, 1, none⟩ = some (.int .i64 t) ∧ w.heap.size < wx.heap.size ∧ Below w.heap.size w wx)
      case first =>
        go_wp2_with fail
        go_meet
        refine ⟨rfl, rfl, rfl, ?_, ?_, ?_, by repeat' (first | (with_reducible exact Below.refl _ _) | (with_reducible assumption) | (with_reducible refine Below.alloc ?_ ?_ _) | (with_reducible refine Below.drew ?_) | (with_reducible refine belowDraws ?_ _) | (with_reducible refine Below.setCell ?_ ?_ _) | omega | (simp; done) | (simp; omega))⟩
        all_goals (first | omega | (simp [go_sem]; done) | (simp; omega))
      case rest =>
      obtain ⟨rfl, rfl, rfl, c0, c1, hl, B0⟩ := hcut
      obtain ⟨w0, rfl⟩ : ∃ w0 : World, w0 = wc := ⟨_, rfl⟩
      have lw0 := B0.size
      have KP := Lib.hid (show ∀ W : World, Below w0.heap.size w0 W → W.cell? ⟨w.heap.size, 0, none⟩ = some (.int .i64 d) ∧ W.cell? ⟨w.heap.size, 1, none⟩ = some (.int .i64 t) from fun W hW => ⟨(hW.cell (by first | omega | (simp; done) | (simp; omega))).trans c0, (hW.cell (by first | omega | (simp; done) | (simp; omega))).trans c1⟩)
      go_wp2_with (first
        | (go_at_call 68; (with_reducible refine (IG _).mono ?_); rintro e w1 ⟨rfl, hb1⟩; have hB1 : Below w0.heap.size w0 w1 := Below.trans (by repeat' (first | exact Below.refl _ _ | assumption | refine Below.alloc ?_ (by first | omega | (simp; done) | (simp; omega)) _ | refine Below.drew ?_ | refine Below.setCell ?_ (by first | omega | (simp; done) | (simp; omega)) _)) (hb1.mono (by first | omega | (simp; done) | (simp; omega))); have hz1 := hB1.size; obtain ⟨q1_0, q1_1⟩ := KP.out w1 hB1; clear hb1))
      go_quiet ((first | (go_at_call 69; exact quietSame (sIsScale_any _ _)) | (go_at_call 65; exact quietSame (l01In_any _ _ _ _))))
      all_goals go_wp2_with fail
      all_goals go_ret2
      all_goals exact ⟨endPq HV.out, by repeat' (first | (with_reducible exact Below.refl _ _) | (with_reducible assumption) | (refine B0.trans (Below.mono ?_ B0.size); with_reducible assumption) | (with_reducible refine Below.alloc ?_ ?_ _) | (with_reducible refine Below.drew ?_) | (with_reducible refine belowDraws ?_ _) | (with_reducible refine Below.setCell ?_ ?_ _) | omega | (simp; done) | (simp; omega))⟩
  · have HV := Lib.hid (show rNeed s d t eye parts = (0, 1) by rw [rNeed, if_neg g1])
    have g1' : figB d t = false := by simpa using g1
    rw [g1'] at IG
    clear g1 g1'
    go_enter Try.func18, Try.ntmps18
    go_upto_region 0 with fail
    go_cut [5, 8, 9] (fun s5 s8 s9 wx => s5 = .pointer (some ⟨w.heap.size, 0, none⟩) ∧ s8 = .int .i64 0 ∧ s9 = .int .i64 0 ∧ wx.cell? ⟨w.heap.size, 0, none⟩ = some (.int .i64 d) ∧ wx.cell? ⟨w.heap.size, 1, none⟩ = some (.int .i64 t) ∧ w.heap.size < wx.heap.size ∧ Below w.heap.size w wx)
    case first =>
      go_wp2_with fail
      go_meet
      refine ⟨rfl, rfl, rfl, ?_, ?_, ?_, by repeat' (first | (with_reducible exact Below.refl _ _) | (with_reducible assumption) | (with_reducible refine Below.alloc ?_ ?_ _) | (with_reducible refine Below.drew ?_) | (with_reducible refine belowDraws ?_ _) | (with_reducible refine Below.setCell ?_ ?_ _) | omega | (simp; done) | (simp; omega))⟩
      all_goals (first | omega | (simp [go_sem]; done) | (simp; omega))
    case rest =>
    obtain ⟨rfl, rfl, rfl, c0, c1, hl, B0⟩ := hcut
    obtain ⟨w0, rfl⟩ : ∃ w0 : World, w0 = wc := ⟨_, rfl⟩
    have lw0 := B0.size
    have KP := Lib.hid (show ∀ W : World, Below w0.heap.size w0 W → W.cell? ⟨w.heap.size, 0, none⟩ = some (.int .i64 d) ∧ W.cell? ⟨w.heap.size, 1, none⟩ = some (.int .i64 t) from fun W hW => ⟨(hW.cell (by first | omega | (simp; done) | (simp; omega))).trans c0, (hW.cell (by first | omega | (simp; done) | (simp; omega))).trans c1⟩)
    go_wp2_with (first
      | (go_at_call 68; (with_reducible refine (IG _).mono ?_); rintro e w1 ⟨rfl, hb1⟩; have hB1 : Below w0.heap.size w0 w1 := Below.trans (by repeat' (first | exact Below.refl _ _ | assumption | refine Below.alloc ?_ (by first | omega | (simp; done) | (simp; omega)) _ | refine Below.drew ?_ | refine Below.setCell ?_ (by first | omega | (simp; done) | (simp; omega)) _)) (hb1.mono (by first | omega | (simp; done) | (simp; omega))); have hz1 := hB1.size; obtain ⟨q1_0, q1_1⟩ := KP.out w1 hB1; clear hb1))
    go_ret2
    exact ⟨endPq HV.out, by repeat' (first | (with_reducible exact Below.refl _ _) | (with_reducible assumption) | (refine B0.trans (Below.mono ?_ B0.size); with_reducible assumption) | (with_reducible refine Below.alloc ?_ ?_ _) | (with_reducible refine Below.drew ?_) | (with_reducible refine belowDraws ?_ _) | (with_reducible refine Below.setCell ?_ ?_ _) | omega | (simp; done) | (simp; omega))⟩
set_option maxRecDepth 100000 in
set_option maxHeartbeats 2000000 in
theorem fnExactNeededLength_walk (s d t eye parts : Int) (w : World) (_h1 : I64 s) (_h2 : I64 d) (_h3 : I64 t) (_h4 : I64 eye) (_h5 : I64 parts) :
    Calls Try.prog 4 #[.int .i64 s, .agg #[.int .i64 d, .int .i64 t], .int .i64 eye, .int .i64 parts] w fun e w' => e = .returned (.bool true) ∧ Below w.heap.size w w' := by
  have S := fun W => sNeededLength_any s d t eye parts W
  have I := fun W => iNeededLength_any s d t eye parts W
  obtain ⟨⟨x, y⟩, HP⟩ : ∃ p, Hid (rNeed s d t eye parts = p) := ⟨_, Lib.hid rfl⟩
  rw [HP.out] at S I
  simp only at S I
  go_enter Try.func4, Try.ntmps4
  go_wp2_with (first
    | (go_at_call 19; refine (toFigure_any _ _ _).mono ?_; rintro e w' ⟨rfl, rfl⟩)
    | (go_at_call 18; refine (S _).mono ?_; rintro e w1 ⟨rfl, hb1⟩; have hB1 : Below w.heap.size w w1 := Below.trans (by repeat' (first | exact Below.refl _ _ | assumption | refine Below.alloc ?_ (by first | omega | (simp; done) | (simp; omega)) _ | refine Below.drew ?_ | refine Below.setCell ?_ (by first | omega | (simp; done) | (simp; omega)) _)) (hb1.mono (by first | omega | (simp; done) | (simp; omega))); have hz1 := hB1.size; have hl1_0 : w.heap.size < w1.heap.size := Nat.lt_of_lt_of_le (by first | omega | (simp; done) | (simp; omega)) hb1.size; have q1_00 : w1.cell? ⟨w.heap.size, 0, none⟩ = some (.int .i64 d) := (by rw [hb1.cell (by first | omega | (simp; done) | (simp; omega))]; simp [go_sem, *]); have r1_00 : w1.frozen? ⟨w.heap.size, 0, none⟩ = false := (by rw [hb1.frozen (by first | omega | (simp; done) | (simp; omega))]; simp [go_sem, *]); have q1_01 : w1.cell? ⟨w.heap.size, 1, none⟩ = some (.int .i64 t) := (by rw [hb1.cell (by first | omega | (simp; done) | (simp; omega))]; simp [go_sem, *]); have r1_01 : w1.frozen? ⟨w.heap.size, 1, none⟩ = false := (by rw [hb1.frozen (by first | omega | (simp; done) | (simp; omega))]; simp [go_sem, *]); clear hb1)
    | (go_at_call 20; refine (I _).mono ?_; rintro e w2 ⟨rfl, hb2⟩; have hB2 : Below w.heap.size w w2 := Below.trans (by repeat' (first | exact Below.refl _ _ | assumption | refine Below.alloc ?_ (by first | omega | (simp; done) | (simp; omega)) _ | refine Below.drew ?_ | refine Below.setCell ?_ (by first | omega | (simp; done) | (simp; omega)) _)) (hb2.mono (by first | omega | (simp; done) | (simp; omega))); have hz2 := hB2.size; clear hb2))
  go_ret
  exact ⟨rfl, by repeat' (first | exact Below.refl _ _ | assumption | refine Below.alloc ?_ (by first | omega | (simp; done) | (simp; omega)) _ | refine Below.drew ?_ | refine Below.setCell ?_ (by first | omega | (simp; done) | (simp; omega)) _)⟩
end Go.Proofs.Ytdbhlichldcnfaa
