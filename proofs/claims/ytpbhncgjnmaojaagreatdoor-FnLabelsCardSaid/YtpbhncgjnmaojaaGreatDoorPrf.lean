/- Proofs of labels in plain Lean: the order by right ends, how many end before, the least proof (layer 9). No program. -/
import Derived.Test.YtpbhncgjnmaojaaGreatDoorStab
namespace Go.Proofs.YtpbhncgjnmaojaaGreatDoor
set_option linter.unusedVariables false
set_option linter.unusedSimpArgs false

section
variable {R Lf Wt : Nat → Int} {n : Nat}
/-- the indices in the order of a proof -/
def ordP (R : Nat → Int) (n : Nat) : List Nat := stabSort R (List.range n)
theorem ordP_length (R : Nat → Int) (n : Nat) : (ordP R n).length = n := by rw [ordP, stabSort_length, List.length_range]
theorem ordP_perm (R : Nat → Int) (n : Nat) : (List.range n).Perm (ordP R n) := (stabSort_ok (key := R) (List.range n)).1.1
theorem ordP_srt (R : Nat → Int) (n : Nat) : Srt R (ordP R n) 0 (ordP R n).length := (stabSort_ok (key := R) (List.range n)).2
theorem ordP_lt {k i : Nat} (h : (ordP R n)[k]? = some i) : i < n := List.mem_range.1 ((ordP_perm R n).mem_iff.2 (List.mem_of_getElem? h))
theorem ordP_at {k : Nat} (h : k < n) : ∃ i, (ordP R n)[k]? = some i ∧ i < n := by
  have hk : k < (ordP R n).length := by rw [ordP_length]; exact h
  exact ⟨_, List.getElem?_eq_getElem hk, ordP_lt (R := R) (k := k) (List.getElem?_eq_getElem hk)⟩
/-- how many right ends are at most the left end of i -/
def freeP (R Lf : Nat → Int) (n i : Nat) : Nat := ((List.range n).filter fun k => decide (R k ≤ Lf i)).length
theorem freeP_ord (i : Nat) : freeP R Lf n i = ((ordP R n).filter fun k => decide (R k ≤ Lf i)).length := ((ordP_perm R n).filter _).length_eq
theorem freeP_le (i : Nat) : freeP R Lf n i ≤ n := by
  have := List.length_filter_le (fun k => decide (R k ≤ Lf i)) (List.range n)
  rwa [List.length_range] at this
/-- they all stand before i in the order -/
theorem freeP_pos (hw : ∀ i, Lf i < R i) {k i : Nat} (h : (ordP R n)[k]? = some i) : freeP R Lf n i ≤ k := by
  rw [freeP_ord]
  have hk : k < (ordP R n).length := (List.getElem?_eq_some_iff.1 h).1
  have e : (ordP R n).filter (fun j => decide (R j ≤ Lf i)) = ((ordP R n).take k).filter fun j => decide (R j ≤ Lf i) := by
    conv => lhs; rw [← List.take_append_drop k (ordP R n)]
    rw [List.filter_append]
    have : ((ordP R n).drop k).filter (fun j => decide (R j ≤ Lf i)) = [] := by
      apply filter_none_of
      intro x hx
      obtain ⟨q, hq⟩ := List.getElem?_of_mem hx
      rw [List.getElem?_drop] at hq
      have := (ordP_srt R n).le (p := k) (q := k + q) (by omega) (by omega) (List.getElem?_eq_some_iff.1 hq).1 h hq
      have := hw i
      exact decide_eq_false (by omega)
    rw [this, List.append_nil]
  rw [e]
  have := List.length_filter_le (fun j => decide (R j ≤ Lf i)) ((ordP R n).take k)
  rw [List.length_take] at this
  omega
/-- the least proof, its first k + 1 numbers -/
def dpP (R Lf Wt : Nat → Int) (n : Nat) : Nat → List Int
  | 0 => [0]
  | k + 1 => dpP R Lf Wt n k ++ [max ((dpP R Lf Wt n k).getD k 0) (Wt ((ordP R n).getD k 0) + (dpP R Lf Wt n k).getD (freeP R Lf n ((ordP R n).getD k 0)) 0)]
theorem dpP_length : ∀ k, (dpP R Lf Wt n k).length = k + 1
  | 0 => rfl
  | k + 1 => by rw [dpP, List.length_append, dpP_length k]; rfl
theorem dpP_old {k j : Nat} (h : j ≤ k) : (dpP R Lf Wt n (k + 1)).getD j 0 = (dpP R Lf Wt n k).getD j 0 := by
  rw [dpP, List.getD_eq_getElem?_getD, List.getElem?_append_left (by rw [dpP_length]; omega), ← List.getD_eq_getElem?_getD]
theorem dpP_upto {j : Nat} : ∀ {k : Nat}, j ≤ k → (dpP R Lf Wt n k).getD j 0 = (dpP R Lf Wt n j).getD j 0
  | 0, h => by
    obtain rfl : j = 0 := by omega
    rfl
  | k + 1, h => by
    by_cases e : j = k + 1
    · rw [e]
    · rw [dpP_old (by omega), dpP_upto (by omega)]
/-- the number at a place -/
def dpV (R Lf Wt : Nat → Int) (n k : Nat) : Int := (dpP R Lf Wt n k).getD k 0
theorem dpV_zero : dpV R Lf Wt n 0 = 0 := rfl
theorem dpV_next (hw : ∀ i, Lf i < R i) {k i : Nat} (h : (ordP R n)[k]? = some i) : dpV R Lf Wt n (k + 1) = max (dpV R Lf Wt n k) (Wt i + dpV R Lf Wt n (freeP R Lf n i)) := by
  have e : (ordP R n).getD k 0 = i := by rw [List.getD_eq_getElem?_getD, h]; rfl
  have hp := freeP_pos hw h
  rw [dpV, dpP, List.getD_eq_getElem?_getD, List.getElem?_append_right (by rw [dpP_length]; omega), dpP_length, e]
  simp only [Nat.sub_self, List.getElem?_cons_zero, Option.getD_some]
  rw [dpP_upto hp]
  rfl
theorem dpV_mono (hw : ∀ i, Lf i < R i) {k : Nat} (h : k < n) : dpV R Lf Wt n k ≤ dpV R Lf Wt n (k + 1) := by
  obtain ⟨i, hi, _⟩ := ordP_at (R := R) h
  rw [dpV_next hw hi]
  omega
theorem dpV_bd (hw : ∀ i, Lf i < R i) {W : Int} (h0 : 0 ≤ W) (h1 : ∀ i, 0 ≤ Wt i ∧ Wt i ≤ W) : ∀ k, k ≤ n → 0 ≤ dpV R Lf Wt n k ∧ dpV R Lf Wt n k ≤ W * (k : Int) := by
  intro k
  induction k using Nat.strongRecOn with
  | _ k ih =>
    intro hk
    match k, ih, hk with
    | 0, _, _ => simp [dpV_zero]
    | k + 1, ih, hk =>
      obtain ⟨i, hi, _⟩ := ordP_at (R := R) (n := n) (show k < n by omega)
      have a := ih k (by omega) (by omega)
      have hp := freeP_pos hw hi
      have b := ih (freeP R Lf n i) (by omega) (by omega)
      have c := h1 i
      have m1 : W * ((freeP R Lf n i : Nat) : Int) ≤ W * (k : Int) := Int.mul_le_mul_of_nonneg_left (by omega) h0
      have m2 : W * ((k + 1 : Nat) : Int) = W * (k : Int) + W := by push_cast; rw [Int.mul_add, Int.mul_one]
      rw [dpV_next hw hi, m2]
      omega
/-- the way back: which are taken, from place i on -/
def backP (R Lf Wt : Nat → Int) (n : Nat) : Nat → Nat → List Nat
  | 0, _ => []
  | _, 0 => []
  | f + 1, i + 1 => if dpV R Lf Wt n (i + 1) = dpV R Lf Wt n i then backP R Lf Wt n f i else (ordP R n).getD i 0 :: backP R Lf Wt n f (freeP R Lf n ((ordP R n).getD i 0))
/-- of an ordered list those whose keys are at most c stand at the head -/
theorem filt_take {c : Int} : ∀ {L : List Nat}, Srt R L 0 L.length → L.filter (fun j => decide (R j ≤ c)) = L.take (L.filter fun j => decide (R j ≤ c)).length
  | [], _ => rfl
  | x :: L, h => by
    by_cases hx : R x ≤ c
    · have e := filt_take (c := c) (Srt.tail h)
      have f : (x :: L).filter (fun j => decide (R j ≤ c)) = x :: L.filter (fun j => decide (R j ≤ c)) := by rw [List.filter_cons, if_pos (by simpa using hx)]
      rw [f, List.length_cons, List.take_succ_cons, ← e]
    · have : (x :: L).filter (fun j => decide (R j ≤ c)) = [] := by
        apply filter_none_of
        intro y hy
        obtain ⟨q, hq⟩ := List.getElem?_of_mem hy
        have := h.le (p := 0) (q := q) (x := x) (y := y) (Nat.le_refl _) (Nat.zero_le _) (List.getElem?_eq_some_iff.1 hq).1 rfl hq
        exact decide_eq_false (by omega)
      rw [this]
      rfl
theorem free_take (i : Nat) : (ordP R n).filter (fun j => decide (R j ≤ Lf i)) = (ordP R n).take (freeP R Lf n i) := by
  rw [freeP_ord]
  exact filt_take (ordP_srt R n)
theorem free_mem {i a : Nat} : a ∈ (ordP R n).take (freeP R Lf n i) ↔ a < n ∧ R a ≤ Lf i := by
  rw [← free_take, List.mem_filter, ← (ordP_perm R n).mem_iff, List.mem_range, decide_eq_true_eq]
/-- what a list of indices is worth -/
def wsum (Wt : Nat → Int) : List Nat → Int
  | [] => 0
  | x :: L => Wt x + wsum Wt L
theorem wsum_perm {L M : List Nat} (h : L.Perm M) : wsum Wt L = wsum Wt M := by
  induction h with
  | nil => rfl
  | cons x _ ih => simp only [wsum, ih]
  | swap x y l => simp only [wsum]; omega
  | trans _ _ ih1 ih2 => exact ih1.trans ih2
/-- no two of them collide -/
def Free (R Lf : Nat → Int) (C : List Nat) : Prop := ∀ a b : Nat, a ∈ C → b ∈ C → a ≠ b → ¬ (Lf a < R b ∧ Lf b < R a)
/-- no choice is worth more than the least proof says -/
theorem free_most (hw : ∀ i, Lf i < R i) : ∀ (k : Nat), k ≤ n → ∀ C : List Nat, C.Nodup → (∀ a ∈ C, a ∈ (ordP R n).take k) → Free R Lf C → wsum Wt C ≤ dpV R Lf Wt n k := by
  intro k
  induction k using Nat.strongRecOn with
  | _ k ih =>
    intro hk C hC hin hF
    match k, ih, hk, hin with
    | 0, _, _, hin =>
      have : C = [] := by
        apply List.eq_nil_iff_forall_not_mem.2
        intro a ha
        have := hin a ha
        simp at this
      rw [this]
      exact Int.le_refl _
    | k + 1, ih, hk, hin =>
      obtain ⟨i, hi, _⟩ := ordP_at (R := R) (n := n) (show k < n by omega)
      have hp := freeP_pos hw hi
      rw [dpV_next hw hi]
      by_cases hm : i ∈ C
      · have hperm := List.perm_cons_erase hm
        have hN := hperm.nodup_iff.1 hC
        rw [List.nodup_cons] at hN
        have key := ih (freeP R Lf n i) (by omega) (by omega) (C.erase i) hN.2 (fun a ha => by
          have hac := List.mem_of_mem_erase ha
          have hne : a ≠ i := fun e => hN.1 (e ▸ ha)
          obtain ⟨q, hq⟩ := List.getElem?_of_mem (hin a hac)
          rw [List.getElem?_take] at hq
          split at hq
          · rename_i hqk
            have := (ordP_srt R n).le (p := q) (q := k) (Nat.zero_le _) (by omega) (List.getElem?_eq_some_iff.1 hi).1 hq hi
            have := hF a i hac hm hne
            have := hw a
            exact free_mem.2 ⟨ordP_lt hq, by omega⟩
          · cases hq) (fun a b ha hb => hF a b (List.mem_of_mem_erase ha) (List.mem_of_mem_erase hb))
        rw [wsum_perm hperm]
        simp only [wsum]
        omega
      · have key := ih k (by omega) (by omega) C hC (fun a ha => by
          have h := hin a ha
          rw [List.take_add_one, hi] at h
          rcases List.mem_append.1 h with h | h
          · exact h
          · have : a = i := by simpa using h
            exact absurd (this ▸ ha) hm) hF
        omega
/-- the way back gives a choice of that worth -/
theorem back_ok (hw : ∀ i, Lf i < R i) : ∀ (f i : Nat), i ≤ f → i ≤ n → wsum Wt (backP R Lf Wt n f i) = dpV R Lf Wt n i ∧ (∀ a ∈ backP R Lf Wt n f i, a ∈ (ordP R n).take i) ∧ Free R Lf (backP R Lf Wt n f i) ∧ (backP R Lf Wt n f i).Nodup
  | 0, i, h1, h2 => by
    obtain rfl : i = 0 := by omega
    exact ⟨rfl, fun a ha => by simp [backP] at ha, fun a b ha => by simp [backP] at ha, by simp [backP]⟩
  | f + 1, 0, _, _ => ⟨rfl, fun a ha => by simp [backP] at ha, fun a b ha => by simp [backP] at ha, by simp [backP]⟩
  | f + 1, i + 1, h1, h2 => by
    obtain ⟨o, ho, hon⟩ := ordP_at (R := R) (n := n) (show i < n by omega)
    have hp := freeP_pos hw ho
    have e : (ordP R n).getD i 0 = o := by rw [List.getD_eq_getElem?_getD, ho]; rfl
    rw [backP]
    split
    · rename_i hv
      obtain ⟨a1, a2, a3, a4⟩ := back_ok hw f i (by omega) (by omega)
      refine ⟨a1.trans hv.symm, fun a ha => ?_, a3, a4⟩
      rw [List.take_add_one]
      exact List.mem_append_left _ (a2 a ha)
    · rename_i hv
      rw [e]
      obtain ⟨a1, a2, a3, a4⟩ := back_ok hw f (freeP R Lf n o) (by omega) (by omega)
      have hx := dpV_next (Wt := Wt) hw ho
      have low : ∀ a ∈ backP R Lf Wt n f (freeP R Lf n o), R a ≤ Lf o := fun a ha => (free_mem.1 (a2 a ha)).2
      have hno : ¬ o ∈ backP R Lf Wt n f (freeP R Lf n o) := fun h => by
        have := low o h
        have := hw o
        omega
      refine ⟨?_, fun a ha => ?_, fun a b ha hb hab => ?_, List.nodup_cons.2 ⟨hno, a4⟩⟩
      · simp only [wsum]
        omega
      · rcases List.mem_cons.1 ha with rfl | ha
        · rw [List.take_add_one, ho]
          exact List.mem_append_right _ (by simp)
        · have := a2 a ha
          exact List.take_subset_take_left _ (by omega) this
      · rcases List.mem_cons.1 ha with rfl | ha <;> rcases List.mem_cons.1 hb with rfl | hb
        · exact absurd rfl hab
        · have := low b hb; omega
        · have := low a ha; omega
        · exact a3 a b ha hb hab
end
end Go.Proofs.YtpbhncgjnmaojaaGreatDoor
