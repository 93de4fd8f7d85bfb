/- The plain law of keeping by heights: rows of equal height from 4 to 0, each index kept that is near to none that was kept. No program in sight. -/
import Derived.WalkKit
namespace Go.Proofs.YtpbhncgjnmaojaaGreatDoor
set_option linter.unusedVariables false
set_option linter.unusedSimpArgs false

def gStep (ht : Nat → Int) (R : Nat → Nat → Bool) (h : Int) (K : List Nat) (i : Nat) : List Nat := if ht i = h ∧ (K.any fun k => R k i) = false then K ++ [i] else K
/-- the indices before i of one row -/
def gRow (ht : Nat → Int) (R : Nat → Nat → Bool) (h : Int) (K : List Nat) : Nat → List Nat
  | 0 => K
  | i + 1 => gStep ht R h (gRow ht R h K i) i
/-- the rows 4, 3, .. : m of them -/
def gAll (ht : Nat → Int) (R : Nat → Nat → Bool) (n : Nat) : Nat → List Nat
  | 0 => []
  | m + 1 => gRow ht R (4 - (m : Int)) (gAll ht R n m) n
section
variable {ht : Nat → Int} {R : Nat → Nat → Bool} {n : Nat}
theorem gStep_yes {h : Int} {K : List Nat} {i : Nat} (h1 : ht i = h) (h2 : (K.any fun k => R k i) = false) : gStep ht R h K i = K ++ [i] := if_pos ⟨h1, h2⟩
theorem gStep_no {h : Int} {K : List Nat} {i : Nat} (h1 : ¬ (ht i = h ∧ (K.any fun k => R k i) = false)) : gStep ht R h K i = K := if_neg h1
/-- what holds ahead of index i of row h -/
def GInv (ht : Nat → Int) (R : Nat → Nat → Bool) (n : Nat) (h : Int) (i : Nat) (K : List Nat) : Prop :=
  K.Nodup ∧ (∀ k ∈ K, k < n ∧ (h < ht k ∨ (ht k = h ∧ k < i))) ∧ (∀ a b : Nat, a ∈ K → b ∈ K → a ≠ b → R a b = false) ∧ (∀ k, k < n → (h < ht k ∨ (ht k = h ∧ k < i)) → ht k ≤ 4 → k ∉ K → ∃ a ∈ K, R a k = true)
theorem gStep_inv (hR : ∀ a b, R a b = R b a) {h : Int} {i : Nat} {K : List Nat} (hi : i < n) (H : GInv ht R n h i K) : GInv ht R n h (i + 1) (gStep ht R h K i) := by
  obtain ⟨h1, h2, h3, h4⟩ := H
  by_cases c : ht i = h ∧ (K.any fun k => R k i) = false
  · rw [gStep_yes c.1 c.2]
    have hni : i ∉ K := fun hk => by have := (h2 i hk).2; omega
    have hR2 : ∀ k ∈ K, R k i = false := fun k hk => by
      have := c.2
      rw [List.any_eq_false] at this
      simpa using this k hk
    refine ⟨?_, ?_, ?_, ?_⟩
    · rw [List.nodup_append]
      exact ⟨h1, by simp, fun a ha b hb => by rw [List.mem_singleton] at hb; subst hb; intro e; subst e; exact hni ha⟩
    · intro k hk
      rcases List.mem_append.1 hk with hk | hk
      · have := h2 k hk; exact ⟨this.1, by omega⟩
      · rw [List.mem_singleton] at hk; subst hk; exact ⟨hi, .inr ⟨c.1, by omega⟩⟩
    · intro a b ha hb hab
      rcases List.mem_append.1 ha with ha' | ha
      · rcases List.mem_append.1 hb with hb | hb
        · exact h3 a b ha' hb hab
        · rw [List.mem_singleton] at hb; subst hb; exact hR2 a ha'
      · rw [List.mem_singleton] at ha
        subst ha
        rcases List.mem_append.1 hb with hb | hb
        · rw [hR]; exact hR2 b hb
        · rw [List.mem_singleton] at hb; exact absurd hb.symm hab
    · intro k hk hkh h44 hkn
      have hki : k ≠ i := fun e => hkn (List.mem_append.2 (.inr (by simp [e])))
      obtain ⟨a, ha, hr⟩ := h4 k hk (by omega) h44 (fun hh => hkn (List.mem_append.2 (.inl hh)))
      exact ⟨a, List.mem_append.2 (.inl ha), hr⟩
  · rw [gStep_no c]
    refine ⟨h1, fun k hk => ⟨(h2 k hk).1, by have := (h2 k hk).2; omega⟩, h3, fun k hk hkh h44 hkn => ?_⟩
    by_cases e : k = i
    · subst e
      by_cases hh : ht k = h
      · have : (K.any fun a => R a k) = true := by
          cases hc : (K.any fun a => R a k) with
          | true => rfl
          | false => exact absurd ⟨hh, hc⟩ c
        rw [List.any_eq_true] at this
        exact this
      · exact h4 k hk (by omega) h44 hkn
    · exact h4 k hk (by omega) h44 hkn
theorem gRow_inv (hR : ∀ a b, R a b = R b a) {h : Int} {K : List Nat} (H : GInv ht R n h 0 K) : ∀ i, i ≤ n → GInv ht R n h i (gRow ht R h K i)
  | 0, _ => H
  | i + 1, hi => gStep_inv hR (by omega) (gRow_inv hR H i (by omega))
theorem gInv_down {h : Int} {K : List Nat} (H : GInv ht R n h n K) : GInv ht R n (h - 1) 0 K := by
  obtain ⟨h1, h2, h3, h4⟩ := H
  refine ⟨h1, fun k hk => ⟨(h2 k hk).1, by have := (h2 k hk).2; omega⟩, h3, fun k hk hkh h44 hkn => h4 k hk (by omega) h44 hkn⟩
theorem gAll_inv (hR : ∀ a b, R a b = R b a) : ∀ m : Nat, GInv ht R n (4 - (m : Int)) 0 (gAll ht R n m)
  | 0 => ⟨by simp [gAll], (fun k hk => by simp [gAll] at hk), (fun a b ha => by simp [gAll] at ha), fun k hk hkh h44 => by omega⟩
  | m + 1 => by
    have := gInv_down (gRow_inv hR (gAll_inv hR m) n (Nat.le_refl _))
    rw [show (4 : Int) - ((m + 1 : Nat) : Int) = 4 - (m : Int) - 1 by omega]
    exact this
/-- the kept ones in order -/
def kept (K : List Nat) (n : Nat) : List Int := ((List.range n).filter fun k => decide (k ∈ K)).map fun (k : Nat) => (k : Int)
theorem kept_length (K : List Nat) (n : Nat) : (kept K n).length ≤ n := by
  rw [kept, List.length_map]
  exact Nat.le_trans (List.length_filter_le _ _) (by simp)
theorem kept_perm {K : List Nat} (h1 : K.Nodup) (h2 : ∀ k ∈ K, k < n) : (K.map fun (k : Nat) => (k : Int)).Perm (kept K n) := by
  rw [kept]
  apply List.Perm.map
  rw [List.perm_ext_iff_of_nodup h1 (List.Nodup.sublist List.filter_sublist List.nodup_range)]
  intro a
  rw [List.mem_filter, List.mem_range, decide_eq_true_eq]
  exact ⟨fun h => ⟨h2 a h, h⟩, fun h => h.2⟩
theorem kept_rise (K : List Nat) (n : Nat) : (kept K n).Pairwise (· < ·) := by
  rw [kept, List.pairwise_map]
  have : (List.range n).Pairwise (· < ·) := List.pairwise_lt_range
  exact (this.filter _).imp (fun h => by omega)
theorem kept_mem {K : List Nat} {n : Nat} {x : Int} : x ∈ kept K n ↔ ∃ k : Nat, x = (k : Int) ∧ k < n ∧ k ∈ K := by
  rw [kept, List.mem_map]
  constructor
  · rintro ⟨k, hk, rfl⟩
    rw [List.mem_filter, List.mem_range, decide_eq_true_eq] at hk
    exact ⟨k, rfl, hk.1, hk.2⟩
  · rintro ⟨k, rfl, h1, h2⟩
    exact ⟨k, by rw [List.mem_filter, List.mem_range, decide_eq_true_eq]; exact ⟨h1, h2⟩, rfl⟩
theorem kept_next {K : List Nat} {k : Nat} : kept K (k + 1) = if k ∈ K then kept K k ++ [(k : Int)] else kept K k := by
  rw [kept, kept, List.range_succ, List.filter_append, List.map_append]
  by_cases h : k ∈ K
  · rw [if_pos h]; simp [h]
  · rw [if_neg h]; simp [h]
/-- sorted: the same numbers in order -/
theorem sorted_kept {K : List Nat} (h1 : K.Nodup) (h2 : ∀ k ∈ K, k < n) : ((K.map fun (k : Nat) => (k : Int)).mergeSort fun a b => decide (a ≤ b)) = kept K n := by
  have p1 := List.mergeSort_perm (K.map fun (k : Nat) => (k : Int)) (fun a b => decide (a ≤ b))
  have s1 : ((K.map fun (k : Nat) => (k : Int)).mergeSort fun a b => decide (a ≤ b)).Pairwise (fun a b : Int => a ≤ b) :=
    (List.pairwise_mergeSort (le := fun a b : Int => decide (a ≤ b)) (fun a b c h1 h2 => by simp at *; omega) (fun a b => by simp; omega) _).imp (by simp)
  exact List.Perm.eq_of_pairwise (le := fun a b : Int => a ≤ b) (fun a b _ _ h1 h2 => by omega) s1 ((kept_rise K n).imp (fun h => by omega)) (p1.trans (kept_perm h1 h2))
end
end Go.Proofs.YtpbhncgjnmaojaaGreatDoor
