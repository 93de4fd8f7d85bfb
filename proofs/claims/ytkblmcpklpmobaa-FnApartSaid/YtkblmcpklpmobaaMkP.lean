/- Plain law of marks: they rise, the nearest one, all of them in 1000..9999. No program in sight. -/
import Derived.Test.YtkblmcpklpmobaaMo
import Derived.Test.YtkblmcpklpmobaaNm
namespace Go.Proofs.Ytkblmcpklpmobaa
set_option linter.unusedVariables false
set_option linter.unusedSimpArgs false

theorem upTo_sorted {to step : Int} (hs : 1 ≤ step) : ∀ (f : Nat) (n : Int), (to - n).toNat ≤ f → (upTo to step n).Pairwise (· < ·)
  | 0, n, h => by
    rw [upTo_end (by omega)]
    exact List.Pairwise.nil
  | f + 1, n, h => by
    by_cases hlt : n < to
    · rw [upTo_step hs hlt, List.pairwise_cons]
      refine ⟨fun y hy => ?_, upTo_sorted hs f (n + step) (by omega)⟩
      have := ((upTo_mem hs y f (n + step) (by omega)).1 hy).1
      omega
    · rw [upTo_end (by omega)]
      exact List.Pairwise.nil
theorem marksP_mem {p : Int × Int × Int} (h : partIn p) {x : Int} (hx : x ∈ marksP p) : p.1 ≤ x ∧ x < p.2.1 := by
  obtain ⟨_, _, _, a4, _⟩ := h
  have := (upTo_mem a4 x _ p.1 (Nat.le_refl _)).1 hx
  exact ⟨this.1, this.2.1⟩
theorem marks_sorted : ∀ (l : List (Int × Int × Int)) (a b : Int), 1000 ≤ a → gradRun a l = some b → (marks l).Pairwise (· < ·) ∧ ∀ y ∈ marks l, a ≤ y
  | [], _, _, _, _ => ⟨List.Pairwise.nil, fun y hy => by cases hy⟩
  | p :: r, a, b, ha, h => by
    have hall := gradRun_in (p :: r) a b ha h
    rw [gradRun] at h
    split at h
    · rename_i hk
      obtain ⟨h1, h2, h3, h4, h5⟩ := hk
      obtain ⟨s1, s2⟩ := marks_sorted r p.2.1 b (by omega) h
      have hp : partIn p := hall p (List.mem_cons_self ..)
      refine ⟨?_, fun y hy => ?_⟩
      · rw [marks, List.flatMap_cons, List.pairwise_append]
        refine ⟨upTo_sorted h4 _ _ (Nat.le_refl _), s1, fun x hx y hy => ?_⟩
        have := (marksP_mem hp hx).2
        have := s2 y hy
        omega
      · rw [marks, List.flatMap_cons, List.mem_append] at hy
        rcases hy with hy | hy
        · have := (marksP_mem hp hy).1
          omega
        · have := s2 y hy
          omega
    · cases h
theorem marks_rise {l : List (Int × Int × Int)} (h : gradB l = true) : (marks l).Pairwise (· < ·) := by
  simp only [gradB, Bool.and_eq_true, decide_eq_true_eq] at h
  exact (marks_sorted l 1000 10000 (by omega) h.2).1
theorem rise_at {m : List Int} (h : m.Pairwise (· < ·)) {k : Nat} {x y : Int} (hx : m[k]? = some x) (hy : m[k + 1]? = some y) : x < y := by
  obtain ⟨h1, rfl⟩ := List.getElem?_eq_some_iff.1 hx
  obtain ⟨h2, rfl⟩ := List.getElem?_eq_some_iff.1 hy
  exact List.pairwise_iff_getElem.1 h k (k + 1) h1 h2 (by omega)
theorem keepL_rise {lo hi : Int} {m : List Int} (h : m.Pairwise (· < ·)) : (keepL lo hi m).Pairwise (· < ·) := h.filter _
theorem keepL_mem {lo hi : Int} {m : List Int} {x : Int} (h : x ∈ keepL lo hi m) : x ∈ m ∧ lo ≤ x ∧ x ≤ hi := by
  rw [keepL, List.mem_filter] at h
  refine ⟨h.1, ?_⟩
  have := h.2
  simp [outB] at this
  omega
theorem marks_full {l : List (Int × Int × Int)} (h : gradB l = true) : keepL 1000 9999 (marks l) = marks l := by
  rw [keepL, List.filter_eq_self]
  intro x hx
  obtain ⟨hg, _⟩ := gradB_in h
  obtain ⟨p, hp, i1, i2, _⟩ := (marks_mem hg x).1 hx
  obtain ⟨a1, a2, a3, a4, a5⟩ := hg p hp
  simp [outB]
  omega
theorem rMarks_full {l : List (Int × Int × Int)} (h : gradB l = true) (hc : countOf l ≤ 200) : rMarks l 1000 9999 = (marks l, 0) ∧ ((marks l).length : Int) = countOf l := by
  have hm := marks_count (gradB_in h).1
  refine ⟨?_, hm⟩
  rw [rMarks, if_pos h, if_pos (by decide), marks_full h, if_pos (by omega)]
theorem nearV_own (x : Int) : ∀ (l : List Int), nearV x l x = x
  | [] => rfl
  | y :: r => by
    rw [nearV, if_neg (by unfold dist; omega)]
    exact nearV_own x r
theorem nearV_hit {x : Int} : ∀ {l : List Int} (b : Int), x ∈ l → nearV x l b = x
  | y :: r, b, h => by
    rw [nearV]
    by_cases e : b = x
    · subst e
      rw [if_neg (by unfold dist; omega)]
      exact nearV_own _ r
    · rcases List.mem_cons.1 h with rfl | h
      · rw [if_pos (by unfold dist; omega)]
        exact nearV_own _ r
      · exact nearV_hit _ h
theorem nearV_in (x : Int) : ∀ (l : List Int) (b : Int), nearV x l b = b ∨ nearV x l b ∈ l
  | [], b => .inl rfl
  | y :: r, b => by
    rw [nearV]
    rcases nearV_in x r (if dist y x < dist b x then y else b) with h | h
    · rw [h]
      split
      · exact .inr (List.mem_cons_self ..)
      · exact .inl rfl
    · exact .inr (List.mem_cons_of_mem _ h)
/-- the nearest mark is a mark, and it is the number itself exactly if that is one -/
theorem near_mark {l : List (Int × Int × Int)} {x m : Int} (h : rNearM l x = (m, 0)) : gradB l = true ∧ rMark l m = (true, 0) ∧ rMark l x = (decide (m = x), 0) := by
  rw [rNearM] at h
  split at h
  · rename_i hg
    split at h
    · simp only [Prod.mk.injEq, and_true] at h
      have h1 : m ∈ marks l := by
        rcases nearV_in x (marks l) 1000 with e | e
        · rw [← h, e]
          exact List.mem_of_getElem? (marks_first hg)
        · rw [← h]; exact e
      refine ⟨hg, by rw [rMark, if_pos hg, decide_eq_true h1], ?_⟩
      rw [rMark, if_pos hg]
      by_cases hx : x ∈ marks l
      · rw [decide_eq_true hx, decide_eq_true]
        rw [← h]
        exact nearV_hit _ hx
      · rw [decide_eq_false hx, decide_eq_false]
        intro e
        exact hx (e ▸ h1)
    · simp at h
  · simp at h
/-- what the marks in a range are -/
theorem marks_in {l : List (Int × Int × Int)} {lo hi : Int} {L : List Int} (h : rMarks l lo hi = (L, 0)) : (∀ x ∈ L, rMark l x = (true, 0) ∧ lo ≤ x ∧ x ≤ hi) ∧ L.Pairwise (· < ·) ∧ L.length ≤ 200 := by
  rw [rMarks] at h
  split at h
  · rename_i hg
    split at h
    · split at h
      · rename_i hle
        simp only [Prod.mk.injEq, and_true] at h
        subst h
        refine ⟨fun x hx => ?_, keepL_rise (marks_rise hg), hle⟩
        obtain ⟨h1, h2⟩ := keepL_mem hx
        exact ⟨by rw [rMark, if_pos hg, decide_eq_true h1], h2⟩
      · simp at h
    · simp at h
  · simp at h
end Go.Proofs.Ytkblmcpklpmobaa
