/- Texts of graduations in plain Lean (layer 7): what reading and writing give; both ways of reading agree; each turns the other back. No condition. -/
import Derived.Test.YtibcbhphkafgjaaDoorTx
import Derived.Test.YtibcbhphkafgjaaDoorGrad
namespace Go.Proofs.YtibcbhphkafgjaaDoor
open Go.RowKit
set_option linter.unusedVariables false
set_option linter.unusedSimpArgs false

def rRead (f : List UInt8 → Int × Bool) (l : List UInt8) : List (Int × Int × Int) × Int :=
  match gradA f [] (splF 32 [] l) with
  | some G => if gradB G = true then (G, 0) else ([], 6)
  | none => ([], 6)
def rGText (G : List (Int × Int × Int)) : List UInt8 × Int := if gradB G = true then (gradT G, 0) else ([], 1)
def InTen (p : Int × Int × Int) : Prop := (1000 ≤ p.1 ∧ p.1 ≤ 10000) ∧ (1000 ≤ p.2.1 ∧ p.2.1 ≤ 10000) ∧ 1 ≤ p.2.2 ∧ p.2.2 ≤ 10000
theorem partOk_ten {at_ : Int} {p : Int × Int × Int} (h0 : 1000 ≤ at_) (h : partOk at_ p) : InTen p := by
  obtain ⟨h1, h2, h3, h4, h5⟩ := h
  have h6 : p.2.2 ≤ p.2.1 - p.1 := by
    by_cases h6 : p.2.2 ≤ p.2.1 - p.1
    · exact h6
    · rw [Int.emod_eq_of_lt (by omega) (by omega)] at h5
      omega
  exact ⟨by omega, by omega, by omega, by omega⟩
theorem gradRun_ten : ∀ (l : List (Int × Int × Int)) (at_ e : Int), 1000 ≤ at_ → gradRun at_ l = some e → ∀ p ∈ l, InTen p
  | [], _, _, _, _, p, hp => by cases hp
  | q :: l, at_, e, h0, h, p, hp => by
    rw [gradRun] at h
    split at h
    · rename_i hq
      have ht := partOk_ten h0 hq
      rcases List.mem_cons.1 hp with rfl | hp
      · exact ht
      · exact gradRun_ten l q.2.1 e ht.2.1.1 h p hp
    · cases h
theorem gradB_iff {l : List (Int × Int × Int)} : gradB l = true ↔ (1 ≤ l.length ∧ l.length ≤ 12) ∧ gradRun 1000 l = some 10000 := by
  simp [gradB, and_assoc]
theorem gradB_ten {l : List (Int × Int × Int)} (h : gradB l = true) : ∀ p ∈ l, InTen p := gradRun_ten l 1000 10000 (by omega) (gradB_iff.1 h).2
theorem InTen.i64 {p : Int × Int × Int} (h : InTen p) : I64p p := by
  obtain ⟨h1, h2, h3⟩ := h
  unfold I64p
  omega
theorem InTen.mid {p : Int × Int × Int} (h : InTen p) : Mid p.1 ∧ Mid p.2.1 ∧ Mid p.2.2 := by
  obtain ⟨h1, h2, h3⟩ := h
  unfold Mid
  omega
theorem rRead_same (l : List UInt8) : rRead numR l = rRead sgnR l := by
  unfold rRead
  cases hs : gradA sgnR [] (splF 32 [] l) with
  | some G => rw [gradA_sgn _ _ _ hs]
  | none =>
    cases hn : gradA numR [] (splF 32 [] l) with
    | none => rfl
    | some G =>
      by_cases hg : gradB G = true
      · have := gradA_num _ _ _ hn (fun p hp => (gradB_ten hg p hp).mid)
        rw [hs] at this
        cases this
      · simp [hg]
theorem rRead_len (f : List UInt8 → Int × Bool) (l : List UInt8) : (rRead f l).1.length ≤ 12 := by
  unfold rRead
  split
  · rename_i G _
    by_cases hg : gradB G = true
    · rw [if_pos hg]; exact (gradB_iff.1 hg).1.2
    · rw [if_neg hg]; simp
  · simp
theorem rRead_i64 (f : List UInt8 → Int × Bool) (l : List UInt8) : ∀ p ∈ (rRead f l).1, I64p p := by
  unfold rRead
  split
  · rename_i G _
    by_cases hg : gradB G = true
    · rw [if_pos hg]; exact fun p hp => (gradB_ten hg p hp).i64
    · rw [if_neg hg]; intro p hp; cases hp
  · intro p hp; cases hp
theorem rRead_code (f : List UInt8 → Int × Bool) (l : List UInt8) : (rRead f l).2 = 0 ∨ (rRead f l).2 = 6 := by
  unfold rRead
  split
  · rename_i G _
    by_cases hg : gradB G = true
    · rw [if_pos hg]; exact .inl rfl
    · rw [if_neg hg]; exact .inr rfl
  · exact .inr rfl
/-- what was read and found good is written as it was -/
theorem text_back {l : List UInt8} (h : (rRead numR l).2 = 0) : rGText (rRead numR l).1 = (l, 0) := by
  unfold rRead at h ⊢
  cases hn : gradA numR [] (splF 32 [] l) with
  | none => rw [hn] at h; cases h
  | some G =>
    rw [hn] at h
    by_cases hg : gradB G = true
    · simp only [hg, if_true]
      rw [rGText, if_pos hg, text_read hn]
    · simp [hg] at h
/-- what was written is read as it was -/
theorem read_back {G : List (Int × Int × Int)} (h : gradB G = true) : rRead numR (gradT G) = (G, 0) := by
  have hne : G ≠ [] := by
    have := (gradB_iff.1 h).1.1
    intro e
    subst e
    simp at this
  unfold rRead
  rw [read_text hne (fun p hp => (gradB_ten h p hp).i64)]
  simp [h]
theorem rGText_len (G : List (Int × Int × Int)) : (rGText G).1.length ≤ 792 := by
  unfold rGText
  by_cases h : gradB G = true
  · rw [if_pos h]
    have h1 := gradT_len (fun p hp => (gradB_ten h p hp).i64)
    have h2 := (gradB_iff.1 h).1.2
    show (gradT G).length ≤ 792
    omega
  · rw [if_neg h]; simp
end Go.Proofs.YtibcbhphkafgjaaDoor
