/- Reading a stock: the figure whose point is nearest to a number (layer 11), in plain words. -/
import Derived.Test.YthnjiiodpjielaaGap
import Derived.Test.YthnjiiodpjielaaPt
import Derived.Test.YthnjiiodpjielaaSpm
namespace Go.Proofs.Ythnjiiodpjielaa
set_option linter.unusedVariables false
set_option linter.unusedSimpArgs false

/-- the point of the figure with a number -/
def sp (s n : Int) : Int := ptOf s (nD n) (nT n)
/-- the same, so that it rises -/
def rp (s n : Int) : Int := if s = 3 then -(sp s n) else sp s n
/-- a range of numbers in which points rise (or, for CI, fall) -/
def Seg (s a b : Int) : Prop := 0 ≤ s ∧ s ≤ 4 ∧ 0 ≤ a ∧ b ≤ 9000 * decades s ∧ (s = 4 → b ≤ 2143 ∨ 2143 ≤ a)
theorem rp_next {s a b n : Int} (h : Seg s a b) (h1 : a ≤ n) (h2 : n + 1 < b) : rp s n < rp s (n + 1) := by
  obtain ⟨s0, s4, ha, hb, hcf⟩ := h
  have hd : Dig (nD n) := nD_dig n
  have L := dL_lt_dU hd
  by_cases hc : n % 9000 = 8999
  · -- from one decade into the next
    have e1 : nD n = 9999 := by unfold nD; omega
    have e2 : nD (n + 1) = 1000 := by unfold nD; omega
    have e3 : nT (n + 1) = nT n + 1 := by unfold nT; omega
    obtain ⟨k1, k2, k3, k4⟩ := d_last
    have bd := dL_bd (d := 9999) ⟨by omega, by omega⟩
    have bu := dU_bd (d := 9999) ⟨by omega, by omega⟩
    obtain rfl | rfl | rfl | rfl | rfl : s = 0 ∨ s = 1 ∨ s = 2 ∨ s = 3 ∨ s = 4 := by omega
    · rw [show decades 0 = 1 from rfl] at hb; omega
    · rw [show decades 1 = 2 from rfl] at hb
      have t0 : nT n = 0 := by unfold nT; omega
      simp only [rp, sp, ptOf, e1, e2, e3, t0]
      rw [if_neg (by decide), if_neg (by decide)]
      simp only [pL, pU, ceilDiv, k3, k4]
      rw [if_neg (by decide), if_pos (by decide), if_neg (by decide), if_pos (by decide), if_neg (by decide), if_pos (by decide), if_neg (by decide), if_pos (by decide)]
      omega
    · rw [show decades 2 = 3 from rfl] at hb
      have t0 : nT n = 0 ∨ nT n = 1 := by unfold nT; omega
      simp only [rp, sp, ptOf, e1, e2, e3]
      rw [if_neg (by decide), if_neg (by decide)]
      simp only [pL, pU, ceilDiv, k3, k4]
      rw [if_neg (by decide), if_neg (by decide), if_pos (by decide), if_neg (by decide), if_neg (by decide), if_pos (by decide), if_neg (by decide), if_neg (by decide), if_pos (by decide), if_neg (by decide), if_neg (by decide), if_pos (by decide)]
      rcases t0 with t0 | t0 <;> rw [t0] <;> omega
    · rw [show decades 3 = 1 from rfl] at hb; omega
    · rw [show decades 4 = 1 from rfl] at hb; omega
  · have e2 : nD (n + 1) = nD n + 1 := by unfold nD; omega
    have e3 : nT (n + 1) = nT n := by unfold nT; omega
    have hd9 : nD n < 9999 := by unfold nD; omega
    obtain ⟨g1, g2⟩ := d_gap hd.1 hd9
    have L2 := dL_lt_dU (d := nD n + 1) ⟨by have := hd.1; omega, by omega⟩
    obtain rfl | rfl | rfl | rfl | rfl : s = 0 ∨ s = 1 ∨ s = 2 ∨ s = 3 ∨ s = 4 := by omega
    · simp only [rp, sp, ptOf, e2, e3]
      rw [if_neg (by decide), if_neg (by decide)]
      simp only [pL, pU]
      simp only [show ¬ (0 : Int) = 5 by decide, show ¬ (0 : Int) = 1 by decide, show ¬ (0 : Int) = 2 by decide, show ¬ (0 : Int) = 3 by decide, show ¬ (0 : Int) = 4 by decide, if_false]
      omega
    · simp only [rp, sp, ptOf, e2, e3]
      rw [if_neg (by decide), if_neg (by decide)]
      simp only [pL, pU, ceilDiv]
      simp only [show ¬ (1 : Int) = 5 by decide, if_false, if_true]
      generalize nT n % 2 = t
      omega
    · simp only [rp, sp, ptOf, e2, e3]
      rw [if_neg (by decide), if_neg (by decide)]
      simp only [pL, pU, ceilDiv]
      simp only [show ¬ (2 : Int) = 5 by decide, show ¬ (2 : Int) = 1 by decide, if_false, if_true]
      generalize nT n % 3 = t
      omega
    · simp only [rp, sp, ptOf, e2, e3]
      simp only [if_true]
      simp only [pL, pU, ceilDiv]
      simp only [show ¬ (3 : Int) = 5 by decide, show ¬ (3 : Int) = 1 by decide, show ¬ (3 : Int) = 2 by decide, if_false, if_true]
      omega
    · rw [show decades 4 = 1 from rfl] at hb
      simp only [rp, sp, ptOf, e2, e3]
      rw [if_neg (by decide), if_neg (by decide)]
      simp only [pL, pU, ceilDiv]
      simp only [show ¬ (4 : Int) = 5 by decide, show ¬ (4 : Int) = 1 by decide, show ¬ (4 : Int) = 2 by decide, show ¬ (4 : Int) = 3 by decide, if_false, if_true]
      obtain ⟨k1, k2⟩ := d_3142
      rcases hcf rfl with hc | hc
      · have m1 := dL_mono (d := nD n) (e := 3142) hd.1 (by omega) (by unfold nD; omega)
        have m2 := dL_mono (d := nD n + 1) (e := 3142) (by have := hd.1; omega) (by omega) (by unfold nD; omega)
        rw [if_pos (by omega), if_pos (by omega), if_pos (by omega), if_pos (by omega)]
        omega
      · have m1 := dL_mono (d := 3143) (e := nD n) (by omega) (by omega) (by unfold nD; omega)
        have m2 := dL_mono (d := 3143) (e := nD n + 1) (by omega) (by omega) (by unfold nD; omega)
        rw [if_neg (by omega), if_neg (by omega), if_neg (by omega), if_neg (by omega)]
        omega
theorem rp_lt {s a b : Int} (h : Seg s a b) : ∀ (k : Nat) (n : Int), a ≤ n → n + 1 + (k : Int) < b → rp s n < rp s (n + 1 + k)
  | 0, n, h1, h2 => by simpa using rp_next h h1 (by simpa using h2)
  | k + 1, n, h1, h2 => by
    have i := rp_lt h k n h1 (by push_cast at h2; omega)
    have j := rp_next h (n := n + 1 + k) (by omega) (by push_cast at h2; omega)
    have e : n + 1 + ((k + 1 : Nat) : Int) = n + 1 + k + 1 := by push_cast; omega
    rw [e]
    omega
theorem rp_rise {s a b n m : Int} (h : Seg s a b) (h1 : a ≤ n) (h2 : n < m) (h3 : m < b) : rp s n < rp s m := by
  have := rp_lt h (m - n - 1).toNat n h1 (by omega)
  rwa [show n + 1 + ((m - n - 1).toNat : Int) = m by omega] at this

/-- the first number of least worth in a range -/
def FB (g : Int → Int) (a b m : Int) : Prop := a ≤ m ∧ m < b ∧ (∀ n, a ≤ n → n < b → g m ≤ g n) ∧ (∀ n, a ≤ n → n < m → g m < g n)
theorem FB.one {g : Int → Int} {a b m k : Int} (h : FB g a b m) (h' : FB g a b k) : m = k := by
  obtain ⟨p1, p2, p3, p4⟩ := h
  obtain ⟨q1, q2, q3, q4⟩ := h'
  rcases Int.lt_trichotomy m k with hc | hc | hc
  · have := q4 m p1 hc
    have := p3 k q1 q2
    omega
  · exact hc
  · have := p4 k q1 hc
    have := q3 m p1 p2
    omega
theorem FB.join {g : Int → Int} {a c b m k : Int} (h : FB g a c m) (h' : FB g c b k) : FB g a b (if g k < g m then k else m) := by
  obtain ⟨p1, p2, p3, p4⟩ := h
  obtain ⟨q1, q2, q3, q4⟩ := h'
  split
  · rename_i hc
    refine ⟨by omega, q2, fun n n1 n2 => ?_, fun n n1 n2 => ?_⟩
    · by_cases e : n < c
      · have := p3 n n1 e; omega
      · exact q3 n (by omega) n2
    · by_cases e : n < c
      · have := p3 n n1 e; omega
      · exact q4 n (by omega) n2
  · rename_i hc
    refine ⟨p1, by omega, fun n n1 n2 => ?_, p4⟩
    by_cases e : n < c
    · exact p3 n n1 e
    · have := q3 n (by omega) n2; omega
/-- how far the point of a figure (by its number) lies from a number -/
def off (s tg n : Int) : Int := max (sp s n - tg) (-(sp s n - tg))
theorem off_nn (s tg n : Int) : 0 ≤ off s tg n := by unfold off; omega
def tq (s tg : Int) : Int := if s = 3 then -tg else tg
theorem off_rp (s tg n : Int) : off s tg n = max (rp s n - tq s tg) (-(rp s n - tq s tg)) := by
  unfold off rp tq
  split <;> omega
/-- a number (or its point) is not ahead of another, in the direction of the scale -/
def reach (s tg n : Int) : Bool := if s = 3 then decide (sp s n ≤ tg) else decide (tg ≤ sp s n)
theorem reach_iff {s tg n : Int} : reach s tg n = true ↔ tq s tg ≤ rp s n := by
  unfold reach rp tq
  split <;> simp only [decide_eq_true_eq] <;> omega
theorem reach_no {s tg n : Int} : reach s tg n = false ↔ rp s n < tq s tg := by
  unfold reach rp tq
  split <;> simp only [decide_eq_false_iff_not] <;> omega
/-- where a range is first reached: below it everything lies before, from there on behind -/
def Cut (s tg a b i : Int) : Prop := a ≤ i ∧ i ≤ b ∧ (i = a ∨ reach s tg (i - 1) = false) ∧ (i = b ∨ reach s tg i = true)
theorem Cut.up {s tg a b i n : Int} (hS : Seg s a b) (h : Cut s tg a b i) (h1 : i ≤ n) (h2 : n < b) : off s tg i ≤ off s tg n ∧ (i < n → off s tg i < off s tg n) := by
  obtain ⟨c1, c2, c3, c4⟩ := h
  have r := reach_iff.1 (c4.resolve_left (by omega))
  rw [off_rp, off_rp]
  by_cases e : i = n
  · subst e
    exact ⟨Int.le_refl _, fun h => by omega⟩
  · have := rp_rise hS c1 (show i < n by omega) h2
    omega
theorem Cut.down {s tg a b i n : Int} (hS : Seg s a b) (h : Cut s tg a b i) (h1 : a ≤ n) (h2 : n < i) : off s tg (i - 1) ≤ off s tg n ∧ (n < i - 1 → off s tg (i - 1) < off s tg n) := by
  obtain ⟨c1, c2, c3, c4⟩ := h
  have r := reach_no.1 (c3.resolve_left (by omega))
  rw [off_rp, off_rp]
  by_cases e : n = i - 1
  · subst e
    exact ⟨Int.le_refl _, fun h => by omega⟩
  · have := rp_rise hS h1 (show n < i - 1 by omega) (by omega)
    omega
/-- in a range that is searched, the first best one stands at the cut or before it -/
theorem Cut.first {s tg a b i : Int} (hS : Seg s a b) (h : Cut s tg a b i) (hab : a < b) : FB (off s tg) a b (if i < b ∧ (a < i → off s tg i < off s tg (i - 1)) then i else i - 1) := by
  have h1 := h.1
  have h2 := h.2.1
  split
  · rename_i hc
    refine ⟨h1, hc.1, fun n n1 n2 => ?_, fun n n1 n2 => ?_⟩
    · by_cases e : n < i
      · have := (h.down hS n1 e).1
        have := hc.2 (by omega)
        omega
      · exact (h.up hS (by omega) n2).1
    · have := (h.down hS n1 n2).1
      have := hc.2 (by omega)
      omega
  · rename_i hc
    by_cases hib : i < b
    · have hai : a < i := by
        rcases Int.lt_or_le a i with h | h
        · exact h
        · exact absurd ⟨hib, fun h' => by omega⟩ hc
      have hx : ¬ off s tg i < off s tg (i - 1) := fun hx => hc ⟨hib, fun _ => hx⟩
      refine ⟨by omega, by omega, fun n n1 n2 => ?_, fun n n1 n2 => (h.down hS n1 (by omega)).2 n2⟩
      by_cases e : n < i
      · exact (h.down hS n1 e).1
      · have := (h.up hS (n := n) (by omega) n2).1
        omega
    · refine ⟨by omega, by omega, fun n n1 n2 => (h.down hS n1 (by omega)).1, fun n n1 n2 => (h.down hS n1 (by omega)).2 n2⟩
/-- the cut for the point that stands before the cut is that point's own -/
theorem Cut.back {s tg a b i k : Int} (hS : Seg s a b) (h : Cut s tg a b i) (hi : a < i) (hk : Cut s (sp s (i - 1)) a b k) : k = i - 1 := by
  obtain ⟨c1, c2, c3, c4⟩ := hk
  have h2 := h.2.1
  have e : tq s (sp s (i - 1)) = rp s (i - 1) := by unfold tq rp; split <;> rfl
  rcases Int.lt_trichotomy k (i - 1) with hc | hc | hc
  · have r := reach_iff.1 (c4.resolve_left (by omega))
    have := rp_rise hS c1 hc (by omega)
    omega
  · exact hc
  · have r := reach_no.1 (c3.resolve_left (by omega))
    rw [e] at r
    by_cases e2 : k - 1 = i - 1
    · rw [e2] at r; omega
    · have := rp_rise hS (show a ≤ i - 1 by omega) (show i - 1 < k - 1 by omega) (by omega)
      omega

/-- a try of the program's: a number against the best one so far (worth -1: none) -/
def tr (g : Int → Int) (n : Int) (p : Int × Int) : Int × Int := if p.2 < 0 ∨ g n < p.2 ∨ (g n = p.2 ∧ n < p.1) then (n, g n) else p
/-- what the program holds behind all numbers below a -/
def Sofar (g : Int → Int) (a : Int) (p : Int × Int) : Prop := (a = 0 ∧ p.2 = -1) ∨ (0 < a ∧ FB g 0 a p.1 ∧ p.2 = g p.1)
theorem Sofar.seg {s tg a b i : Int} {p : Int × Int} (hS : Seg s a b) (hab : a < b) (h : Cut s tg a b i) (hp : Sofar (off s tg) a p) :
    Sofar (off s tg) b (if a < i then tr (off s tg) (i - 1) (if i < b then tr (off s tg) i p else p) else (if i < b then tr (off s tg) i p else p)) := by
  have hF := h.first hS hab
  have h0 := hS.2.2.1
  have h1 := h.1
  have h2 := h.2.1
  have hnn := off_nn s tg
  generalize off s tg = g at *
  have hq : (p.2 < 0 ∧ a = 0) ∨ (0 ≤ p.2 ∧ p.1 < a) := by
    rcases hp with ⟨h1, h2⟩ | ⟨h1, h2, h3⟩
    · exact Or.inl ⟨by omega, h1⟩
    · exact Or.inr ⟨by have := hnn p.1; omega, h2.2.1⟩
  have key : ∀ m, FB g a b m → Sofar g b (if p.2 < 0 ∨ g m < p.2 then (m, g m) else p) := by
    intro m hm
    refine Or.inr ⟨by omega, ?_⟩
    rcases hp with ⟨rfl, hp⟩ | ⟨ha, hp1, hp2⟩
    · rw [if_pos (Or.inl (by omega))]
      exact ⟨hm, rfl⟩
    · have := hp1.join hm
      by_cases hc : g m < g p.1
      · rw [if_pos hc] at this
        rw [if_pos (Or.inr (by omega))]
        exact ⟨this, rfl⟩
      · rw [if_neg hc] at this
        rw [if_neg (by have := hnn p.1; omega)]
        exact ⟨this, hp2⟩
  have gi := hnn i
  have gj := hnn (i - 1)
  by_cases hib : i < b
  · rw [if_pos hib]
    by_cases hai : a < i
    · rw [if_pos hai]
      by_cases hx : g i < g (i - 1)
      · rw [if_pos ⟨hib, fun _ => hx⟩] at hF
        have k := key i hF
        by_cases c : p.2 < 0 ∨ g i < p.2
        · rw [if_pos c] at k
          have e : tr g i p = (i, g i) := by rw [tr, if_pos (by omega)]
          rw [e, tr, if_neg (by simp only; omega)]
          exact k
        · rw [if_neg c] at k
          have e : tr g i p = p := by rw [tr, if_neg (by omega)]
          rw [e, tr, if_neg (by omega)]
          exact k
      · rw [if_neg (fun h => hx (h.2 hai))] at hF
        have k := key (i - 1) hF
        by_cases c : p.2 < 0 ∨ g i < p.2
        · have e : tr g i p = (i, g i) := by rw [tr, if_pos (by omega)]
          rw [if_pos (by omega)] at k
          rw [e, tr, if_pos (by simp only; omega)]
          exact k
        · have e : tr g i p = p := by rw [tr, if_neg (by omega)]
          rw [e, tr]
          by_cases c2 : p.2 < 0 ∨ g (i - 1) < p.2
          · rw [if_pos c2] at k
            rw [if_pos (by omega)]
            exact k
          · rw [if_neg c2] at k
            rw [if_neg (by omega)]
            exact k
    · rw [if_neg hai]
      rw [if_pos ⟨hib, fun h => absurd h hai⟩] at hF
      have k := key i hF
      rw [tr]
      by_cases c : p.2 < 0 ∨ g i < p.2
      · rw [if_pos c] at k
        rw [if_pos (by omega)]
        exact k
      · rw [if_neg c] at k
        rw [if_neg (by omega)]
        exact k
  · rw [if_neg hib, if_pos (by omega)]
    rw [if_neg (fun h => hib h.1)] at hF
    have k := key (i - 1) hF
    rw [tr]
    by_cases c : p.2 < 0 ∨ g (i - 1) < p.2
    · rw [if_pos c] at k
      rw [if_pos (by omega)]
      exact k
    · rw [if_neg c] at k
      rw [if_neg (by omega)]
      exact k
/-- a window around the cut holds the first best one -/
theorem Cut.window {s tg a b i x y m : Int} (hS : Seg s a b) (h : Cut s tg a b i) (h1 : a ≤ x) (h2 : y ≤ b) (h3 : x = a ∨ x < i) (h4 : y = b ∨ i < y) (hm : FB (off s tg) x y m) : FB (off s tg) a b m := by
  obtain ⟨p1, p2, p3, p4⟩ := hm
  have hi1 := h.1
  have hi2 := h.2.1
  have low : ∀ n, a ≤ n → n < x → off s tg m < off s tg n := by
    intro n n1 n2
    have d := h.down hS n1 (by omega)
    by_cases e : n < i - 1
    · have := d.2 e
      have := p3 (i - 1) (by omega) (by omega)
      omega
    · omega
  refine ⟨by omega, by omega, fun n n1 n2 => ?_, fun n n1 n2 => ?_⟩
  · by_cases e : n < x
    · have := low n n1 e; omega
    · by_cases e2 : n < y
      · exact p3 n (by omega) e2
      · have := (h.up hS (n := n) (by omega) n2).1
        have := p3 i (by omega) (by omega)
        omega
  · by_cases e : n < x
    · exact low n n1 e
    · exact p4 n (by omega) n2
end Go.Proofs.Ythnjiiodpjielaa
