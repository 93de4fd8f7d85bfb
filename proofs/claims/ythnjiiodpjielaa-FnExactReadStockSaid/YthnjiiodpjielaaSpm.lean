/- Figures by number, and the edge of a rising test: the plain laws (layer 4). No condition. -/
import Derived.Test.YthnjiiodpjielaaMath2
namespace Go.Proofs.Ythnjiiodpjielaa
set_option linter.unusedVariables false

/-- figure number n, nine thousand for each power of ten -/
def nD (n : Int) : Int := 1000 + n % 9000
def nT (n : Int) : Int := n / 9000
def hiN (n : Int) : Int := fU (nD n) (nT n)
def loN (n : Int) : Int := fL (nD n) (nT n)
theorem nD_dig (n : Int) : Dig (nD n) := by unfold nD Dig; omega
theorem n_of {t i : Int} (h0 : 0 ≤ i) (h1 : i < 9000) : nD (9000 * t + i) = 1000 + i ∧ nT (9000 * t + i) = t := by unfold nD nT; omega
theorem hiN_bd (n : Int) : nT n * 1048576 + 1 ≤ hiN n ∧ hiN n ≤ (nT n + 1) * 1048576 := by
  have := dU_bd (nD_dig n)
  unfold hiN fU
  omega
theorem loN_bd (n : Int) : nT n * 1048576 ≤ loN n ∧ loN n < (nT n + 1) * 1048576 := by
  have := dL_bd (nD_dig n)
  unfold loN fL
  omega
theorem loN_lt_hiN (n : Int) : loN n < hiN n := by
  have := dL_lt_dU (nD_dig n)
  unfold loN hiN fL fU
  omega
theorem hiN_mono {n m : Int} (h : n ≤ m) : hiN n ≤ hiN m := by
  rcases Int.lt_or_eq_of_le (show nT n ≤ nT m by unfold nT; omega) with ht | ht
  · have h1 := hiN_bd n
    have h2 := hiN_bd m
    omega
  · have hd : nD n ≤ nD m := by unfold nD nT at *; omega
    have := dU_mono (nD_dig n).1 (nD_dig m).2 hd
    unfold hiN fU
    rw [ht]
    omega
theorem loN_mono {n m : Int} (h : n ≤ m) : loN n ≤ loN m := by
  rcases Int.lt_or_eq_of_le (show nT n ≤ nT m by unfold nT; omega) with ht | ht
  · have h1 := loN_bd n
    have h2 := loN_bd m
    omega
  · have hd : nD n ≤ nD m := by unfold nD nT at *; omega
    have := dL_mono (nD_dig n).1 (nD_dig m).2 hd
    unfold loN fL
    rw [ht]
    omega
def hiP (u n : Int) : Bool := decide (u < hiN n)
def loP (u n : Int) : Bool := decide (u ≤ loN n)
def Edge (p : Int → Bool) (n : Int) : Prop := p n = true ∧ p (n - 1) = false
def Rises (p : Int → Bool) : Prop := ∀ n m, n ≤ m → p n = true → p m = true
theorem hiP_rises (u : Int) : Rises (hiP u) := by
  intro n m h hn
  have := hiN_mono h
  simp only [hiP, decide_eq_true_eq] at *
  omega
theorem loP_rises (u : Int) : Rises (loP u) := by
  intro n m h hn
  have := loN_mono h
  simp only [loP, decide_eq_true_eq] at *
  omega
theorem edge_one {p : Int → Bool} (hp : Rises p) {n m : Int} (h1 : Edge p n) (h2 : Edge p m) : n = m := by
  rcases Int.lt_trichotomy n m with h | h | h
  · have := hp n (m - 1) (by omega) h1.1
    rw [h2.2] at this
    cases this
  · exact h
  · have := hp m (n - 1) (by omega) h2.1
    rw [h1.2] at this
    cases this
/-- the search by halves -/
def srch (p : Int → Bool) : Nat → Int → Int → Int
  | 0, _, top => top
  | k + 1, lo, top => if top - lo ≤ 1 then top else if p ((lo + top) / 2) = true then srch p k lo ((lo + top) / 2) else srch p k ((lo + top) / 2) top
theorem srch_edge {p : Int → Bool} : ∀ (k : Nat) (lo top : Int), lo < top → top - lo ≤ 2 ^ k → p lo = false → p top = true → Edge p (srch p k lo top) ∧ lo < srch p k lo top ∧ srch p k lo top ≤ top
  | 0, lo, top, h, hk, h1, h2 => by
    have e : top - 1 = lo := by simp at hk; omega
    exact ⟨⟨h2, by rw [srch, e]; exact h1⟩, h, Int.le_refl _⟩
  | k + 1, lo, top, h, hk, h1, h2 => by
    rw [srch]
    by_cases hc : top - lo ≤ 1
    · rw [if_pos hc]
      exact ⟨⟨h2, by rw [show top - 1 = lo by omega]; exact h1⟩, h, Int.le_refl _⟩
    · rw [if_neg hc]
      have hk' : top - lo ≤ 2 * 2 ^ k := by rw [Int.pow_succ] at hk; omega
      by_cases hm : p ((lo + top) / 2) = true
      · rw [if_pos hm]
        obtain ⟨a, b, c⟩ := srch_edge k lo ((lo + top) / 2) (by omega) (by omega) h1 hm
        exact ⟨a, b, by omega⟩
      · rw [if_neg hm]
        obtain ⟨a, b, c⟩ := srch_edge k ((lo + top) / 2) top (by omega) (by omega) (by simpa using hm) h2
        exact ⟨a, by omega, c⟩
def bel (u : Int) : Int := srch (hiP u) 20 (-270001) 279000
def abv (u : Int) : Int := srch (loP u) 20 (-270001) 279000
theorem bel_edge {u : Int} (h1 : -31457280 ≤ u) (h2 : u ≤ 31457280) : Edge (hiP u) (bel u) ∧ -270001 < bel u ∧ bel u ≤ 279000 := by
  refine srch_edge 20 _ _ (by omega) (by decide) ?_ ?_
  · have := hiN_bd (-270001)
    rw [show nT (-270001) = -31 by decide] at this
    simp only [hiP, decide_eq_false_iff_not]
    omega
  · have := hiN_bd 279000
    rw [show nT 279000 = 31 by decide] at this
    simp only [hiP, decide_eq_true_eq]
    omega
theorem abv_edge {u : Int} (h1 : -31457280 ≤ u) (h2 : u ≤ 31457280) : Edge (loP u) (abv u) ∧ -270001 < abv u ∧ abv u ≤ 279000 := by
  refine srch_edge 20 _ _ (by omega) (by decide) ?_ ?_
  · have := loN_bd (-270001)
    rw [show nT (-270001) = -31 by decide] at this
    simp only [loP, decide_eq_false_iff_not]
    omega
  · have := loN_bd 279000
    rw [show nT 279000 = 31 by decide] at this
    simp only [loP, decide_eq_true_eq]
    omega
theorem dU_1000 : dU 1000 = 1 := by decide +kernel
/-- what a search in one power of ten finds -/
def SFound (p : Int → Bool) (n i : Int) : Prop := 0 ≤ i ∧ i ≤ n ∧ (i = 0 ∨ p (i - 1) = false) ∧ (i = n ∨ p i = true)
theorem below_found {u i : Int} (h1 : -31457280 ≤ u) (h2 : u ≤ 31457280) (h : SFound (fun j => decide (u < fU (1000 + j) ((u - 1) / 1048576))) 9000 i) : bel u = 9000 * ((u - 1) / 1048576) + i ∧ 1 ≤ i ∧ (u - 1) / 1048576 ≤ 29 ∧ -31 ≤ (u - 1) / 1048576 := by
  obtain ⟨a, b, c, d⟩ := h
  generalize ht : (u - 1) / 1048576 = t at *
  have hi1 : 1 ≤ i := by
    rcases Int.lt_or_le i 1 with hi | hi
    · have e : i = 0 := by omega
      subst e
      rcases d with d | d
      · omega
      · simp only [decide_eq_true_eq] at d
        unfold fU at d
        rw [show (1000 : Int) + 0 = 1000 by omega, dU_1000] at d
        omega
    · exact hi
  refine ⟨edge_one (hiP_rises u) (bel_edge h1 h2).1 ⟨?_, ?_⟩, hi1, by omega, by omega⟩
  · rcases d with rfl | d
    · have := hiN_bd (9000 * t + 9000)
      rw [show nT (9000 * t + 9000) = t + 1 by unfold nT; omega] at this
      simp only [hiP, decide_eq_true_eq]
      omega
    · simp only [decide_eq_true_eq] at d
      by_cases hi9 : i = 9000
      · subst hi9
        have := hiN_bd (9000 * t + 9000)
        rw [show nT (9000 * t + 9000) = t + 1 by unfold nT; omega] at this
        simp only [hiP, decide_eq_true_eq]
        omega
      · obtain ⟨e1, e2⟩ := n_of (t := t) a (by omega : i < 9000)
        simp only [hiP, hiN, e1, e2, decide_eq_true_eq]
        exact d
  · rcases c with rfl | c
    · omega
    · simp only [decide_eq_false_iff_not] at c
      obtain ⟨e1, e2⟩ := n_of (t := t) (i := i - 1) (by omega) (by omega)
      rw [show 9000 * t + i - 1 = 9000 * t + (i - 1) by omega]
      simp only [hiP, hiN, e1, e2, decide_eq_false_iff_not]
      exact c
theorem above_found {u i : Int} (h1 : -31457280 ≤ u) (h2 : u ≤ 31457280) (h : SFound (fun j => decide (u ≤ fL (1000 + j) (u / 1048576))) 9000 i) : abv u = 9000 * (u / 1048576) + i ∧ u / 1048576 ≤ 30 ∧ -30 ≤ u / 1048576 := by
  obtain ⟨a, b, c, d⟩ := h
  generalize ht : u / 1048576 = t at *
  refine ⟨edge_one (loP_rises u) (abv_edge h1 h2).1 ⟨?_, ?_⟩, by omega, by omega⟩
  · by_cases hi9 : i = 9000
    · subst hi9
      have := loN_bd (9000 * t + 9000)
      rw [show nT (9000 * t + 9000) = t + 1 by unfold nT; omega] at this
      simp only [loP, decide_eq_true_eq]
      omega
    · rcases d with d | d
      · omega
      · simp only [decide_eq_true_eq] at d
        obtain ⟨e1, e2⟩ := n_of (t := t) a (by omega : i < 9000)
        simp only [loP, loN, e1, e2, decide_eq_true_eq]
        exact d
  · rcases c with rfl | c
    · have := loN_bd (9000 * t + 0 - 1)
      rw [show nT (9000 * t + 0 - 1) = t - 1 by unfold nT; omega] at this
      simp only [loP, decide_eq_false_iff_not]
      omega
    · simp only [decide_eq_false_iff_not] at c
      by_cases hi0 : i = 0
      · subst hi0
        have := loN_bd (9000 * t + 0 - 1)
        rw [show nT (9000 * t + 0 - 1) = t - 1 by unfold nT; omega] at this
        simp only [loP, decide_eq_false_iff_not]
        omega
      · obtain ⟨e1, e2⟩ := n_of (t := t) (i := i - 1) (by omega) (by omega)
        rw [show 9000 * t + i - 1 = 9000 * t + (i - 1) by omega]
        simp only [loP, loN, e1, e2, decide_eq_false_iff_not]
        exact c
/-- the span of an interval: the number of the figure below, of the one above -/
theorem span_le {u v : Int} (h1 : -31457280 ≤ u) (h2 : u ≤ 31457280) (h3 : -31457280 ≤ v) (h4 : v ≤ 31457280) (h : u ≤ v) : bel u - 1 ≤ abv v := by
  have a := (bel_edge h1 h2).1.2
  have b := (abv_edge h3 h4).1.1
  simp only [hiP, loP, decide_eq_false_iff_not, decide_eq_true_eq] at a b
  rcases Int.lt_or_le (abv v) (bel u - 1) with hc | hc
  · have c := loN_mono (show abv v ≤ bel u - 1 by omega)
    have d := loN_lt_hiN (bel u - 1)
    omega
  · exact hc
end Go.Proofs.Ythnjiiodpjielaa
