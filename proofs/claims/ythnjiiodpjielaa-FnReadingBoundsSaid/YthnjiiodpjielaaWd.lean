/- WorstDigits (layer 10). No condition. -/
import Derived.Test.YthnjiiodpjielaaPos2
namespace Go.Proofs.Ythnjiiodpjielaa
open Go.RowKit
set_option linter.unusedVariables false
set_option linter.unusedSimpArgs false

/-- the two figures compared for n digits; j = n - 1 -/
def dgA : Nat → Int | 0 => 8000 | 1 => 9800 | 2 => 9980 | _ => 9998
def dgB : Nat → Int | 0 => 9000 | 1 => 9900 | 2 => 9990 | _ => 9999
theorem dg_dig (j : Nat) : Dig (dgA j) ∧ Dig (dgB j) := by
  unfold Dig
  match j with
  | 0 => exact ⟨by decide, by decide⟩
  | 1 => exact ⟨by decide, by decide⟩
  | 2 => exact ⟨by decide, by decide⟩
  | _ + 3 => exact ⟨⟨by simp [dgA], by simp [dgA]⟩, ⟨by simp [dgB], by simp [dgB]⟩⟩
theorem dg_ten {j : Nat} (h : j < 4) : dgA j = 10000 - 2 * p10 (3 - j) ∧ dgB j = 10000 - p10 (3 - j) := by
  match j with
  | 0 => exact ⟨by decide, by decide⟩
  | 1 => exact ⟨by decide, by decide⟩
  | 2 => exact ⟨by decide, by decide⟩
  | 3 => exact ⟨by decide, by decide⟩
/-- the greatest of the first k numbers of digits that serve -/
def worstUp (u : Int) : Nat → Int
  | 0 => 0
  | k + 1 => if 2 * u ≤ dL (dgB k) - dU (dgA k) then (k : Int) + 1 else worstUp u k
def rWorst (s l a b c : Int) : Int × Int := if (rUnits s l a b c).2 = 0 then (worstUp (rUnits s l a b c).1 4, 0) else (0, (rUnits s l a b c).2)
theorem units_bd {s l a b c : Int} (h : (rUnits s l a b c).2 = 0) : 0 ≤ (rUnits s l a b c).1 ∧ (rUnits s l a b c).1 ≤ 10000000000 := by
  unfold rUnits at h ⊢
  split at h
  · rename_i h1
    rw [if_pos h1]
    split at h
    · rename_i h2
      rw [if_pos h2]
      obtain ⟨⟨x1, x2⟩, ⟨x3, x4⟩, x5, x6⟩ := areErrorsB_iff.1 h1
      have hn := errNeed_bd (s := s) x1 x2 x3 x4 x5 x6
      simp only [Bool.and_eq_true, inB_iff] at h2
      have hl : 1 ≤ l := by omega
      dsimp only
      unfold errU
      have c1 := ceilDiv_nonneg hn.1 (show 0 < l by omega)
      refine ⟨c1, ?_⟩
      have c2 := ceilDiv_bd (a := (2 * a + b + c) * 1048576 * decades s) (b := l) (by omega)
      have c3 : ceilDiv ((2 * a + b + c) * 1048576 * decades s) l ≤ l * ceilDiv ((2 * a + b + c) * 1048576 * decades s) l := by
        have := Int.mul_le_mul_of_nonneg_right hl c1
        rwa [Int.one_mul] at this
      omega
    · simp at h
  · simp at h
theorem ivLow (a b : Int) (w : World) : Sem.run Try.prog (Instr.field 53 (.agg #[.int .i64 a, .int .i64 b]) 0) w = .ok (.int .i64 a) w := by kernel_rfl
theorem ivHigh (a b : Int) (w : World) : Sem.run Try.prog (Instr.field 53 (.agg #[.int .i64 a, .int .i64 b]) 1) w = .ok (.int .i64 b) w := by kernel_rfl
attribute [local go_sem] ivLow ivHigh
def PairsAt (h : Nat) (w : World) : Prop := ∀ j, j < 4 → w.cell? ⟨h + 4, j, none⟩ = some (.slice (some ⟨h + j, 0, none⟩) 2 2) ∧ w.cell? ⟨h + j, 0, none⟩ = some (.int .i64 (dgA j)) ∧ w.cell? ⟨h + j, 1, none⟩ = some (.int .i64 (dgB j))
set_option maxRecDepth 100000 in
set_option maxHeartbeats 4000000 in
theorem iWorstDigits_any (s l a b c : Int) (w : World) :
    Calls Try.prog 48 #[.int .i64 s, .int .i64 l, .agg #[.int .i64 a, .int .i64 b, .int .i64 c]] w fun e w' => e = .returned (.tuple #[.int .i64 (rWorst s l a b c).1, .int .i64 (rWorst s l a b c).2]) ∧ Below w.heap.size w w' := by
  have U := fun W => iErrorUnits_any s l a b c W
  by_cases h : (rUnits s l a b c).2 = 0
  · have HV := Lib.hid (show rWorst s l a b c = (worstUp (rUnits s l a b c).1 4, 0) by rw [rWorst, if_pos h])
    obtain ⟨u1, u2⟩ := units_bd h
    rw [h] at U
    generalize (rUnits s l a b c).1 = u at *
    clear h
    go_enter Try.func48, Try.ntmps48
    go_wp2_with (first
      | (go_at_call 116; refine (U _).mono ?_; rintro e w1 ⟨rfl, hb1⟩; have hB1 : Below w.heap.size w w1 := Below.trans (by repeat' (first | exact Below.refl _ _ | assumption | refine Below.alloc ?_ (by first | omega | (simp; done) | (simp; omega)) _ | refine Below.drew ?_ | refine Below.setCell ?_ (by first | omega | (simp; done) | (simp; omega)) _)) (hb1.mono (by first | omega | (simp; done) | (simp; omega))); have hz1 := hB1.size; clear hb1))
    go_loopw [11] (fun i wr => ∃ (k : Nat) (wo : World), k ≤ 4 ∧ i = .int .i64 k ∧ worstUp u 4 = worstUp u k ∧ PairsAt w1.heap.size wo ∧ w1.heap.size + 5 ≤ wo.heap.size ∧ Below wo.heap.size wo wr ∧ Below w.heap.size w wr) (fun i _ => (intOf i).toNat)
    case atStart =>
      refine ⟨4, _, Nat.le_refl _, rfl, rfl, ?_, ?_, Below.refl _ _, by repeat' (first | exact Below.refl _ _ | assumption | refine Below.alloc ?_ (by first | omega | (simp; done) | (simp; omega)) _ | refine Below.drew ?_ | refine Below.setCell ?_ (by first | omega | (simp; done) | (simp; omega)) _)⟩
      · intro j hj
        match j, hj with
        | 0, _ => exact ⟨by simp [go_sem], by simp [go_sem, dgA], by simp [go_sem, dgB]⟩
        | 1, _ => exact ⟨by simp [go_sem], by simp [go_sem, dgA], by simp [go_sem, dgB]⟩
        | 2, _ => exact ⟨by simp [go_sem], by simp [go_sem, dgA], by simp [go_sem, dgB]⟩
        | 3, _ => exact ⟨by simp [go_sem], by simp [go_sem, dgA], by simp [go_sem, dgB]⟩
      · simp
    case round =>
      obtain ⟨k, wo, hk, rfl, hf, hP, hsz, hB, hBw⟩ := hrel
      have Hf := Lib.hid hf
      clear hf
      match k, hk with
      | 0, _ =>
        go_wp2
        go_ret2
        exact ⟨endTwo (by rw [HV.out, Hf.out, worstUp]), hBw⟩
      | j + 1, hk =>
        obtain ⟨c0, c1, c2⟩ := hP j (by omega)
        have q0 := (hB.cell (p := ⟨w1.heap.size + 4, j, none⟩) (by simp; omega)).trans c0
        have q1 := (hB.cell (p := ⟨w1.heap.size + j, 0, none⟩) (by simp; omega)).trans c1
        have q2 := (hB.cell (p := ⟨w1.heap.size + j, 1, none⟩) (by simp; omega)).trans c2
        have hz := hB.size
        have hzw := hBw.size
        obtain ⟨dx, dy⟩ := dg_dig j
        have HS := Lib.hid (show worstUp u 4 = if 2 * u ≤ dL (dgB j) - dU (dgA j) then (j : Int) + 1 else worstUp u j by rw [Hf.out, worstUp])
        generalize dgA j = x at *
        generalize dgB j = y at *
        have L : ∀ d, (d = x ∨ d = y) → ∀ W, Calls Try.prog 107 #[.agg #[.int .i64 d, .int .i64 0]] W (IvIs (dL d) (dU d) W) := by
          intro d hd W
          have := figureLog_any d 0 W (by rcases hd with rfl | rfl <;> assumption) (by omega) (by omega)
          rwa [show fL d 0 = dL d by simp [fL], show fU d 0 = dU d by simp [fU]] at this
        have bx := dU_bd dx
        have bd := dL_bd dy
        have e1 : IntKind.i64.wrap (2 * u) = 2 * u := IntWalk.i64_in _ (by omega)
        have e2 : IntKind.i64.wrap (dL y - dU x) = dL y - dU x := IntWalk.i64_in _ (by omega)
        clear c0 c1 c2
        by_cases hd : 2 * u ≤ dL y - dU x
        · have HS2 := Lib.hid (HS.out.trans (if_pos hd))
          have hd' : decide (2 * u ≤ dL y - dU x) = true := by simpa using hd
          go_wp2_with fail
          go_region_held3 (fun w' => w'.cell? ⟨w1.heap.size + j, 0, none⟩ = some (.int .i64 x) ∧ w'.cell? ⟨w1.heap.size + j, 1, none⟩ = some (.int .i64 y)) (go_keep) (first
            | (go_at_call 107; refine (L _ ?_ _).mono ?_; (first | exact Or.inl rfl | exact Or.inr rfl); rintro e w2 ⟨rfl, hb2⟩; have hB2 : Below w.heap.size w w2 := Below.trans (by repeat' (first | exact Below.refl _ _ | assumption | refine Below.alloc ?_ (by first | omega | (simp; done) | (simp; omega)) _ | refine Below.drew ?_ | refine Below.setCell ?_ (by first | omega | (simp; done) | (simp; omega)) _)) (hb2.mono (by first | omega | (simp; done) | (simp; omega))); have hz2 := hB2.size; have hl2_0 : (w1.heap.size + j) < w2.heap.size := Nat.lt_of_lt_of_le (by first | omega | (simp; done) | (simp; omega)) hb2.size; have q2_00 : w2.cell? ⟨(w1.heap.size + j), 0, none⟩ = some (.int .i64 x) := (by rw [hb2.cell (by first | omega | (simp; done) | (simp; omega))]; simp [go_sem, *]); have q2_01 : w2.cell? ⟨(w1.heap.size + j), 1, none⟩ = some (.int .i64 y) := (by rw [hb2.cell (by first | omega | (simp; done) | (simp; omega))]; simp [go_sem, *]); have hC2 : Below wo.heap.size wo w2 := Below.trans (by repeat' (first | exact Below.refl _ _ | assumption | refine Below.alloc ?_ (by first | omega | (simp; done) | (simp; omega)) _ | refine Below.drew ?_ | refine Below.setCell ?_ (by first | omega | (simp; done) | (simp; omega)) _)) (hb2.mono (by first | omega | (simp; done) | (simp; omega))); have hy2 := hC2.size; clear hb2))
          all_goals go_wp2_with fail
          all_goals go_ret2
          all_goals exact ⟨endTwo (by rw [HV.out, HS2.out]), by repeat' (first | exact Below.refl _ _ | assumption | refine Below.alloc ?_ (by first | omega | (simp; done) | (simp; omega)) _ | refine Below.drew ?_ | refine Below.setCell ?_ (by first | omega | (simp; done) | (simp; omega)) _)⟩
        · have HS2 := Lib.hid (HS.out.trans (if_neg hd))
          have hd' : decide (2 * u ≤ dL y - dU x) = false := by simpa using hd
          go_wp2_with fail
          go_region_held3 (fun w' => w'.cell? ⟨w1.heap.size + j, 0, none⟩ = some (.int .i64 x) ∧ w'.cell? ⟨w1.heap.size + j, 1, none⟩ = some (.int .i64 y)) (go_keep) (first
            | (go_at_call 107; refine (L _ ?_ _).mono ?_; (first | exact Or.inl rfl | exact Or.inr rfl); rintro e w2 ⟨rfl, hb2⟩; have hB2 : Below w.heap.size w w2 := Below.trans (by repeat' (first | exact Below.refl _ _ | assumption | refine Below.alloc ?_ (by first | omega | (simp; done) | (simp; omega)) _ | refine Below.drew ?_ | refine Below.setCell ?_ (by first | omega | (simp; done) | (simp; omega)) _)) (hb2.mono (by first | omega | (simp; done) | (simp; omega))); have hz2 := hB2.size; have hl2_0 : (w1.heap.size + j) < w2.heap.size := Nat.lt_of_lt_of_le (by first | omega | (simp; done) | (simp; omega)) hb2.size; have q2_00 : w2.cell? ⟨(w1.heap.size + j), 0, none⟩ = some (.int .i64 x) := (by rw [hb2.cell (by first | omega | (simp; done) | (simp; omega))]; simp [go_sem, *]); have q2_01 : w2.cell? ⟨(w1.heap.size + j), 1, none⟩ = some (.int .i64 y) := (by rw [hb2.cell (by first | omega | (simp; done) | (simp; omega))]; simp [go_sem, *]); have hC2 : Below wo.heap.size wo w2 := Below.trans (by repeat' (first | exact Below.refl _ _ | assumption | refine Below.alloc ?_ (by first | omega | (simp; done) | (simp; omega)) _ | refine Below.drew ?_ | refine Below.setCell ?_ (by first | omega | (simp; done) | (simp; omega)) _)) (hb2.mono (by first | omega | (simp; done) | (simp; omega))); have hy2 := hC2.size; clear hb2))
          all_goals go_wp2_with fail
          all_goals go_roundw
          case rel => exact ⟨j, wo, by omega, by go_num, HS2.out, hP, hsz, by repeat' (first | exact Below.refl _ _ | assumption | refine Below.alloc ?_ (by first | omega | (simp; done) | (simp; omega)) _ | refine Below.drew ?_ | refine Below.setCell ?_ (by first | omega | (simp; done) | (simp; omega)) _), by repeat' (first | exact Below.refl _ _ | assumption | refine Below.alloc ?_ (by first | omega | (simp; done) | (simp; omega)) _ | refine Below.drew ?_ | refine Below.setCell ?_ (by first | omega | (simp; done) | (simp; omega)) _)⟩
          case measure => simp [intOf]
  · have HV := Lib.hid (show rWorst s l a b c = (0, (rUnits s l a b c).2) by rw [rWorst, if_neg h])
    generalize (rUnits s l a b c).1 = u at *
    generalize (rUnits s l a b c).2 = k at *
    go_enter Try.func48, Try.ntmps48
    go_wp2_with (first
      | (go_at_call 116; refine (U _).mono ?_; rintro e w1 ⟨rfl, hb1⟩; have hB1 : Below w.heap.size w w1 := Below.trans (by repeat' (first | exact Below.refl _ _ | assumption | refine Below.alloc ?_ (by first | omega | (simp; done) | (simp; omega)) _ | refine Below.drew ?_ | refine Below.setCell ?_ (by first | omega | (simp; done) | (simp; omega)) _)) (hb1.mono (by first | omega | (simp; done) | (simp; omega))); have hz1 := hB1.size; clear hb1))
    go_ret2
    exact ⟨endTwo HV.out, by repeat' (first | exact Below.refl _ _ | assumption | refine Below.alloc ?_ (by first | omega | (simp; done) | (simp; omega)) _ | refine Below.drew ?_ | refine Below.setCell ?_ (by first | omega | (simp; done) | (simp; omega)) _)⟩
set_option maxRecDepth 100000 in
set_option maxHeartbeats 4000000 in
theorem sWorstDigits_any (s l a b c : Int) (w : World) :
    Calls Try.prog 49 #[.int .i64 s, .int .i64 l, .agg #[.int .i64 a, .int .i64 b, .int .i64 c]] w fun e w' => e = .returned (.tuple #[.int .i64 (rWorst s l a b c).1, .int .i64 (rWorst s l a b c).2]) ∧ Below w.heap.size w w' := by
  have U := fun W => sErrorUnits_any s l a b c W
  by_cases h : (rUnits s l a b c).2 = 0
  · have HV := Lib.hid (show rWorst s l a b c = (worstUp (rUnits s l a b c).1 4, 0) by rw [rWorst, if_pos h])
    obtain ⟨u1, u2⟩ := units_bd h
    rw [h] at U
    generalize (rUnits s l a b c).1 = u at *
    clear h
    go_enter Try.func49, Try.ntmps49
    go_wp2_with (first
      | (go_at_call 114; refine (U _).mono ?_; rintro e w1 ⟨rfl, hb1⟩; have hB1 : Below w.heap.size w w1 := Below.trans (by repeat' (first | exact Below.refl _ _ | assumption | refine Below.alloc ?_ (by first | omega | (simp; done) | (simp; omega)) _ | refine Below.drew ?_ | refine Below.setCell ?_ (by first | omega | (simp; done) | (simp; omega)) _)) (hb1.mono (by first | omega | (simp; done) | (simp; omega))); have hz1 := hB1.size; clear hb1))
    go_loopw [10] (fun i wr => ∃ k : Nat, k ≤ 4 ∧ i = .int .i64 k ∧ worstUp u 4 = worstUp u k ∧ Below w.heap.size w wr) (fun i _ => (intOf i).toNat)
    case atStart => exact ⟨4, Nat.le_refl _, rfl, rfl, by repeat' (first | exact Below.refl _ _ | assumption | refine Below.alloc ?_ (by first | omega | (simp; done) | (simp; omega)) _ | refine Below.drew ?_ | refine Below.setCell ?_ (by first | omega | (simp; done) | (simp; omega)) _)⟩
    case round =>
      obtain ⟨k, hk, rfl, hf, hBw⟩ := hrel
      have Hf := Lib.hid hf
      clear hf
      match k, hk with
      | 0, _ =>
        go_wp2
        go_ret2
        exact ⟨endTwo (by rw [HV.out, Hf.out, worstUp]), hBw⟩
      | j + 1, hk =>
        have hzw := hBw.size
        obtain ⟨dx, dy⟩ := dg_dig j
        obtain ⟨tx, ty⟩ := dg_ten (show j < 4 by omega)
        have HS := Lib.hid (show worstUp u 4 = if 2 * u ≤ dL (dgB j) - dU (dgA j) then (j : Int) + 1 else worstUp u j by rw [Hf.out, worstUp])
        have T := fun W => l01Ten_any ((3 - j : Nat) : Int) W (by omega) (by omega)
        rw [show (((3 - j : Nat) : Int)).toNat = 3 - j by omega] at T
        have ej : (4 : Int) - ((j : Int) + 1) = ((3 - j : Nat) : Int) := by omega
        have pb := p10_pos (3 - j)
        have pb2 := p10_le (k := 3 - j) (by omega)
        generalize p10 (3 - j) = st at *
        rw [← ej] at T
        clear ej
        unfold Dig at dx dy
        have HS2 := Lib.hid (show worstUp u 4 = if 2 * u ≤ logL ((10000 - st) * 100000) - logU ((10000 - 2 * st) * 100000) then (j : Int) + 1 else worstUp u j by
          rw [HS.out, dL, dU, tx, ty])
        have bx := logU_bd (x := (10000 - 2 * st) * 100000) (by omega) (by omega)
        have bd := logL_bd (x := (10000 - st) * 100000) (by omega) (by omega)
        have L : ∀ d, (d = (10000 - 2 * st) * 100000 ∨ d = (10000 - st) * 100000) → ∀ W, Calls Try.prog 118 #[.int .i64 d] W (IvIs (logL d) (logU d) W) := by
          intro d hd W
          exact l03Log_any d W (by omega) (by omega)
        clear tx ty HS
        generalize logL = LL at *
        generalize logU = UU at *
        by_cases hd : 2 * u ≤ LL ((10000 - st) * 100000) - UU ((10000 - 2 * st) * 100000)
        · have HS3 := Lib.hid (HS2.out.trans (if_pos hd))
          go_wp2_with (first
            | (go_at_call 117; refine (T _).mono ?_; rintro e w' ⟨rfl, rfl⟩)
            | (go_at_call 118; refine (L _ ?_ _).mono ?_; (first | exact Or.inl rfl | exact Or.inr rfl); rintro e w2 ⟨rfl, hb2⟩; have hB2 : Below w.heap.size w w2 := Below.trans (by repeat' (first | exact Below.refl _ _ | assumption | refine Below.alloc ?_ (by first | omega | (simp; done) | (simp; omega)) _ | refine Below.drew ?_ | refine Below.setCell ?_ (by first | omega | (simp; done) | (simp; omega)) _)) (hb2.mono (by first | omega | (simp; done) | (simp; omega))); have hz2 := hB2.size; clear hb2))
          go_ret2
          exact ⟨endTwo (by rw [HV.out, HS3.out]), by repeat' (first | exact Below.refl _ _ | assumption | refine Below.alloc ?_ (by first | omega | (simp; done) | (simp; omega)) _ | refine Below.drew ?_ | refine Below.setCell ?_ (by first | omega | (simp; done) | (simp; omega)) _)⟩
        · have HS3 := Lib.hid (HS2.out.trans (if_neg hd))
          go_wp2_with (first
            | (go_at_call 117; refine (T _).mono ?_; rintro e w' ⟨rfl, rfl⟩)
            | (go_at_call 118; refine (L _ ?_ _).mono ?_; (first | exact Or.inl rfl | exact Or.inr rfl); rintro e w2 ⟨rfl, hb2⟩; have hB2 : Below w.heap.size w w2 := Below.trans (by repeat' (first | exact Below.refl _ _ | assumption | refine Below.alloc ?_ (by first | omega | (simp; done) | (simp; omega)) _ | refine Below.drew ?_ | refine Below.setCell ?_ (by first | omega | (simp; done) | (simp; omega)) _)) (hb2.mono (by first | omega | (simp; done) | (simp; omega))); have hz2 := hB2.size; clear hb2))
          go_roundw
          case rel => exact ⟨j, by omega, by go_num, HS3.out, by repeat' (first | exact Below.refl _ _ | assumption | refine Below.alloc ?_ (by first | omega | (simp; done) | (simp; omega)) _ | refine Below.drew ?_ | refine Below.setCell ?_ (by first | omega | (simp; done) | (simp; omega)) _)⟩
          case measure => simp [intOf]
  · have HV := Lib.hid (show rWorst s l a b c = (0, (rUnits s l a b c).2) by rw [rWorst, if_neg h])
    generalize (rUnits s l a b c).1 = u at *
    generalize (rUnits s l a b c).2 = k at *
    go_enter Try.func49, Try.ntmps49
    go_wp2_with (first
      | (go_at_call 114; refine (U _).mono ?_; rintro e w1 ⟨rfl, hb1⟩; have hB1 : Below w.heap.size w w1 := Below.trans (by repeat' (first | exact Below.refl _ _ | assumption | refine Below.alloc ?_ (by first | omega | (simp; done) | (simp; omega)) _ | refine Below.drew ?_ | refine Below.setCell ?_ (by first | omega | (simp; done) | (simp; omega)) _)) (hb1.mono (by first | omega | (simp; done) | (simp; omega))); have hz1 := hB1.size; clear hb1))
    go_ret2
    exact ⟨endTwo HV.out, by repeat' (first | exact Below.refl _ _ | assumption | refine Below.alloc ?_ (by first | omega | (simp; done) | (simp; omega)) _ | refine Below.drew ?_ | refine Below.setCell ?_ (by first | omega | (simp; done) | (simp; omega)) _)⟩
end Go.Proofs.Ythnjiiodpjielaa
