/- Proofs of labels in plain Lean, continued: indices in range, counting, insertion, what a proof is (layer 9). No program. -/
import Derived.Test.YtpbhncgjnmaojaaGreatDoorPrf
import Derived.Test.YtpbhncgjnmaojaaGreatDoorLp
namespace Go.Proofs.YtpbhncgjnmaojaaGreatDoor
set_option linter.unusedVariables false
set_option linter.unusedSimpArgs false

/-- the indices below n -/
def fins (n : Nat) : List (Fin n) := List.ofFn fun i => i
theorem fins_length (n : Nat) : (fins n).length = n := by simp [fins]
theorem fins_at {n k : Nat} (h : k < n) : (fins n)[k]? = some ⟨k, h⟩ := by simp [fins, h]
theorem fins_val (n : Nat) : (fins n).map (fun i => i.1) = List.range n := by
  apply List.ext_getElem?
  intro k
  rw [List.getElem?_map]
  by_cases h : k < n
  · rw [fins_at h, List.getElem?_range h]; rfl
  · rw [List.getElem?_eq_none (by rw [fins_length]; omega), List.getElem?_eq_none (by rw [List.length_range]; omega)]; rfl
theorem stabSort_map {α β : Type} (f : α → β) (key : β → Int) (l : List α) : (stabSort (fun x => key (f x)) l).map f = stabSort key (l.map f) := by
  obtain ⟨⟨hp, hf⟩, hs⟩ := stabSort_ok (key := fun x => key (f x)) l
  refine stabSort_eq ⟨hp.map f, fun c => ?_⟩ ?_
  · rw [List.filter_map, List.filter_map]
    exact congrArg (List.map f) (hf c)
  · intro p q x y h1 h2 h3 hx hy
    rw [List.getElem?_map] at hx hy
    rw [List.length_map] at h3
    cases hx' : (stabSort (fun x => key (f x)) l)[p]? with
    | none => rw [hx'] at hx; cases hx
    | some x' =>
      cases hy' : (stabSort (fun x => key (f x)) l)[q]? with
      | none => rw [hy'] at hy; cases hy
      | some y' =>
        rw [hx'] at hx
        rw [hy'] at hy
        injection hx with hx
        injection hy with hy
        subst hx hy
        exact hs p q x' y' h1 h2 h3 hx' hy'
theorem ordP_fins (R : Nat → Int) (n : Nat) : (stabSort (fun x : Fin n => R x.1) (fins n)).map (fun x => x.1) = ordP R n := by
  rw [stabSort_map (fun x : Fin n => x.1) R (fins n), fins_val]; rfl
section
variable {R Lf Wt : Nat → Int} {n : Nat}
/-- how many of the first q end at most at the left end of i -/
def cntP (R Lf : Nat → Int) (L : List Nat) (i q : Nat) : Nat := ((L.take q).filter fun k => decide (R k ≤ Lf i)).length
theorem cntP_zero (L : List Nat) (i : Nat) : cntP R Lf L i 0 = 0 := rfl
theorem cntP_yes {L : List Nat} {i q x : Nat} (h : L[q]? = some x) (hr : R x ≤ Lf i) : cntP R Lf L i (q + 1) = cntP R Lf L i q + 1 := by
  unfold cntP
  rw [List.take_add_one, h, List.filter_append, List.length_append]
  simp [hr]
theorem cntP_no {L : List Nat} {i q x : Nat} (h : L[q]? = some x) (hr : ¬ R x ≤ Lf i) : cntP R Lf L i (q + 1) = cntP R Lf L i q := by
  unfold cntP
  rw [List.take_add_one, h, List.filter_append, List.length_append]
  simp [hr]
theorem cntP_le (L : List Nat) (i q : Nat) : cntP R Lf L i q ≤ q := by
  unfold cntP
  refine Nat.le_trans (List.length_filter_le _ _) ?_
  rw [List.length_take]
  omega
theorem cntP_ord (i : Nat) : cntP R Lf (ordP R n) i n = freeP R Lf n i := by
  rw [freeP_ord, cntP, List.take_of_length_le (by rw [ordP_length]; omega)]
theorem cntP_range (i : Nat) : cntP R Lf (List.range n) i n = freeP R Lf n i := by
  rw [freeP, cntP, List.take_of_length_le (by rw [List.length_range]; omega)]
theorem posU_eq {L : List Nat} {t p : Nat} (hS : Srt R L 0 L.length) (hp : p ≤ L.length) (h1 : p = 0 ∨ ∃ j y, p = j + 1 ∧ L[j]? = some y ∧ R y ≤ R t) (h2 : ∀ q y, p ≤ q → L[q]? = some y → R t < R y) : p = posU R t L := by
  rcases Nat.lt_trichotomy p (posU R t L) with h | h | h
  · have hl := posU_le (key := R) t L
    have hx : L[p]? = some L[p] := List.getElem?_eq_getElem (by omega)
    have a := posU_low (key := R) t L p _ h hx
    have b := h2 p _ (Nat.le_refl _) hx
    omega
  · exact h
  · rcases h1 with h1 | ⟨j, y, h1, hy, hle⟩
    · omega
    · have := posU_high (key := R) t L hS j y (by omega) hy
      omega
theorem ordP_zero : ordP R 0 = [] := rfl
theorem ordP_next (k : Nat) : ordP R (k + 1) = insAt (ordP R k) k (posU R k (ordP R k)) := by
  unfold ordP stabSort
  rw [List.range_succ, List.foldl_append]
  rfl
theorem dpP_next {k : Nat} {i : Nat} (hw : ∀ i, Lf i < R i) (h : (ordP R n)[k]? = some i) : dpP R Lf Wt n (k + 1) = dpP R Lf Wt n k ++ [dpV R Lf Wt n (k + 1)] := by
  have e : (ordP R n).getD k 0 = i := by rw [List.getD_eq_getElem?_getD, h]; rfl
  rw [dpV_next hw h, dpP, e, dpP_upto (freeP_pos hw h)]
  rfl
theorem dpP_at {j k : Nat} (h : j ≤ k) : (dpP R Lf Wt n k)[j]? = some (dpV R Lf Wt n j) := by
  obtain ⟨x, hx⟩ : ∃ x, (dpP R Lf Wt n k)[j]? = some x := ⟨_, List.getElem?_eq_getElem (show j < (dpP R Lf Wt n k).length by rw [dpP_length]; omega)⟩
  have := dpP_upto (R := R) (Lf := Lf) (Wt := Wt) (n := n) h
  rw [List.getD_eq_getElem?_getD, hx] at this
  rw [hx, dpV, ← this]
  rfl
/-- the numbers of a list -/
def vA (v : List Int) (i : Nat) : Int := v.getD i 0
theorem vA_at {v : List Int} {i : Nat} {x : Int} (h : v[i]? = some x) : vA v i = x := by simp [vA, List.getD, h]
theorem vA_dp {k j : Nat} (h : j ≤ k) : vA (dpP R Lf Wt n k) j = dpV R Lf Wt n j := vA_at (dpP_at h)
/-- whether place i of a list holds -/
def prC (R Lf Wt : Nat → Int) (n : Nat) (v : List Int) (i : Nat) : Bool := decide (vA v i ≤ vA v (i + 1)) && decide (Wt ((ordP R n).getD i 0) + vA v (freeP R Lf n ((ordP R n).getD i 0)) ≤ vA v (i + 1))
def prTo (R Lf Wt : Nat → Int) (n : Nat) (v : List Int) (k : Nat) : Bool := (List.range k).all fun i => prC R Lf Wt n v i
theorem prTo_next {v : List Int} (k : Nat) : prTo R Lf Wt n v (k + 1) = (prTo R Lf Wt n v k && prC R Lf Wt n v k) := by
  simp [prTo, List.range_succ, List.all_append]
theorem prTo_at {v : List Int} {m i : Nat} (h : prTo R Lf Wt n v m = true) (hi : i < m) : prC R Lf Wt n v i = true := List.all_eq_true.1 h i (List.mem_range.2 hi)
theorem prTo_false {v : List Int} {m i : Nat} (hi : i < m) (h : prC R Lf Wt n v i = false) : prTo R Lf Wt n v m = false := List.all_eq_false.2 ⟨i, List.mem_range.2 hi, by simp [h]⟩
theorem prC_iff {v : List Int} {i o : Nat} (ho : (ordP R n)[i]? = some o) : prC R Lf Wt n v i = true ↔ vA v i ≤ vA v (i + 1) ∧ Wt o + vA v (freeP R Lf n o) ≤ vA v (i + 1) := by
  have e : (ordP R n).getD i 0 = o := by rw [List.getD_eq_getElem?_getD, ho]; rfl
  unfold prC
  rw [e, Bool.and_eq_true, decide_eq_true_eq, decide_eq_true_eq]
theorem prTo_pos {v : List Int} {m : Nat} (h0 : vA v 0 = 0) (h : prTo R Lf Wt n v m = true) : ∀ i, i ≤ m → 0 ≤ vA v i
  | 0, _ => by omega
  | i + 1, hi => by
    have a := prTo_pos h0 h i (by omega)
    have b := prTo_at h (show i < m by omega)
    unfold prC at b
    rw [Bool.and_eq_true, decide_eq_true_eq] at b
    omega
/-- a proof is nowhere less than the least one -/
theorem prTo_least {v : List Int} (hw : ∀ i, Lf i < R i) (h0 : vA v 0 = 0) (h : prTo R Lf Wt n v n = true) : ∀ i, i ≤ n → dpV R Lf Wt n i ≤ vA v i := by
  intro i
  induction i using Nat.strongRecOn with
  | _ i ih =>
    intro hi
    match i, ih, hi with
    | 0, _, _ => rw [dpV_zero]; omega
    | i + 1, ih, hi =>
      obtain ⟨o, ho, _⟩ := ordP_at (R := R) (n := n) (show i < n by omega)
      have hp := freeP_pos hw ho
      obtain ⟨a, b⟩ := (prC_iff ho).1 (prTo_at h (show i < n by omega))
      have c := ih i (by omega) (by omega)
      have d := ih (freeP R Lf n o) (by omega) (by omega)
      rw [dpV_next hw ho]
      omega
/-- the least proof is one -/
theorem dp_proof (hw : ∀ i, Lf i < R i) : prTo R Lf Wt n (dpP R Lf Wt n n) n = true := by
  apply List.all_eq_true.2
  intro i hi
  have hi := List.mem_range.1 hi
  obtain ⟨o, ho, _⟩ := ordP_at (R := R) (n := n) hi
  have hp := freeP_pos hw ho
  have hn := dpV_next (Wt := Wt) hw ho
  rw [prC_iff ho, vA_dp (by omega), vA_dp (by omega), vA_dp (by omega)]
  omega
end
/-- what IsProof says -/
def prB (l : List (Int × Int × Int)) (v : List Int) : Bool := decide (v.length = l.length + 1) && (decide (vA v 0 = 0) && ((v.all fun x => decide (x ≤ 1000000000000)) && prTo (RL l) (LL l) (WL l) l.length v l.length))
def rIsProof (l : List (Int × Int × Int)) (v : List Int) : Bool × Int := if ckL l = 0 then (prB l v, 0) else (false, ckL l)
def rProof (l : List (Int × Int × Int)) : List Int × Int := if ckL l = 0 then (dpP (RL l) (LL l) (WL l) l.length l.length, 0) else ([], ckL l)
def bestK (l : List (Int × Int × Int)) : List Nat := backP (RL l) (LL l) (WL l) l.length l.length l.length
end Go.Proofs.YtpbhncgjnmaojaaGreatDoor
