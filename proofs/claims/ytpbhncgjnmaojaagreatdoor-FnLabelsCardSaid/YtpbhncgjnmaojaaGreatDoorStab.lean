/- The plain law of stable sorting: exchanges, rotations, merges, and that the order is fixed by them. No program in sight. -/
import Derived.WalkKit
namespace Go.Proofs.YtpbhncgjnmaojaaGreatDoor
set_option linter.unusedVariables false
set_option linter.unusedSimpArgs false

section
variable {α : Type} {key : α → Int}

/-- the same elements, those of one key in the same order -/
def Stab (key : α → Int) (l r : List α) : Prop := l.Perm r ∧ ∀ c : Int, l.filter (fun x => key x == c) = r.filter (fun x => key x == c)
theorem Stab.refl (l : List α) : Stab key l l := ⟨List.Perm.refl _, fun _ => rfl⟩
theorem Stab.trans {l r s : List α} (h : Stab key l r) (k : Stab key r s) : Stab key l s := ⟨h.1.trans k.1, fun c => (h.2 c).trans (k.2 c)⟩
theorem Stab.app {l r s t : List α} (h : Stab key l r) (k : Stab key s t) : Stab key (l ++ s) (r ++ t) :=
  ⟨h.1.append k.1, fun c => by rw [List.filter_append, List.filter_append, h.2 c, k.2 c]⟩
theorem Stab.length {l r : List α} (h : Stab key l r) : l.length = r.length := h.1.length_eq
theorem filter_none_of {l : List α} {f : α → Bool} (h : ∀ x ∈ l, f x = false) : l.filter f = [] := by
  rw [List.filter_eq_nil_iff]
  intro x hx
  rw [h x hx]
  simp
theorem Stab.blocks (U V : List α) (h : ∀ u ∈ U, ∀ v ∈ V, key u ≠ key v) : Stab key (U ++ V) (V ++ U) := by
  refine ⟨List.perm_append_comm, fun c => ?_⟩
  rw [List.filter_append, List.filter_append]
  by_cases hu : ∃ u ∈ U, key u = c
  · obtain ⟨u, hu, rfl⟩ := hu
    rw [filter_none_of (l := V) (f := fun x => key x == key u) (fun v hv => by simpa using fun e => h u hu v hv e.symm)]
    simp
  · rw [filter_none_of (l := U) (f := fun x => key x == c) (fun u hu2 => by simpa using fun e => hu ⟨u, hu2, e⟩)]
    simp
/-- the elements i and j exchanged: what stands where -/
theorem swap_at {l : List α} {i j : Nat} {x y : α} (hx : l[i]? = some x) (hy : l[j]? = some y) (t : Nat) :
    ((l.set i y).set j x)[t]? = if t = j then l[i]? else if t = i then l[j]? else l[t]? := by
  have hi := (List.getElem?_eq_some_iff.1 hx).1
  have hj := (List.getElem?_eq_some_iff.1 hy).1
  rw [List.getElem?_set, List.getElem?_set, List.length_set]
  by_cases e1 : j = t
  · rw [if_pos e1, if_pos (e1 ▸ hj), if_pos e1.symm, hx]
  · rw [if_neg e1, if_neg (show ¬ t = j from fun e => e1 e.symm)]
    by_cases e2 : i = t
    · rw [if_pos e2, if_pos (e2 ▸ hi), if_pos e2.symm, hy]
    · rw [if_neg e2, if_neg (show ¬ t = i from fun e => e2 e.symm)]
theorem split2 : ∀ {l : List α} {j : Nat} {x y : α}, l[j]? = some x → l[j + 1]? = some y → ∃ A B, l = A ++ x :: y :: B ∧ A.length = j
  | [], j, x, y, hx, _ => by simp at hx
  | [a], j, x, y, hx, hy => by simp at hy
  | a :: b :: r, 0, x, y, hx, hy => by
    simp at hx hy
    subst hx hy
    exact ⟨[], r, rfl, rfl⟩
  | a :: b :: r, j + 1, x, y, hx, hy => by
    obtain ⟨A, B, h1, h2⟩ := split2 (l := b :: r) (j := j) (by simpa using hx) (by simpa using hy)
    exact ⟨a :: A, B, by rw [h1]; rfl, by simp [h2]⟩
/-- two neighbours of different keys exchanged -/
theorem Stab.adj {l : List α} {j : Nat} {x y : α} (hx : l[j]? = some x) (hy : l[j + 1]? = some y) (hne : key x ≠ key y) : Stab key l ((l.set j y).set (j + 1) x) := by
  obtain ⟨A, B, rfl, rfl⟩ := split2 hx hy
  have e : ((A ++ x :: y :: B).set A.length y).set (A.length + 1) x = A ++ (y :: x :: B) := by
    rw [List.set_append_right _ _ (Nat.le_refl _), Nat.sub_self, List.set_cons_zero, List.set_append_right _ _ (by omega), show A.length + 1 - A.length = 1 by omega]
    rfl
  rw [e]
  refine (Stab.refl A).app ?_
  have := (Stab.blocks (key := key) [x] [y] (by simpa using hne)).app (Stab.refl (key := key) B)
  simpa using this
theorem set_comm2 {l : List α} {i j : Nat} (h : i ≠ j) (x y : α) : (l.set i x).set j y = (l.set j y).set i x := List.set_comm _ _ h
theorem Stab.adj' {l : List α} {j : Nat} {x y : α} (hx : l[j]? = some x) (hy : l[j + 1]? = some y) (hne : key x ≠ key y) : Stab key l ((l.set (j + 1) x).set j y) := by
  rw [set_comm2 (by omega)]
  exact Stab.adj hx hy hne

/-- the places from a to b - 1 are in order -/
def Srt (key : α → Int) (l : List α) (a b : Nat) : Prop := ∀ p q x y, a ≤ p → p < q → q < b → l[p]? = some x → l[q]? = some y → key x ≤ key y
/-- all else is as it was -/
def Out (l r : List α) (a b : Nat) : Prop := ∀ p, (p < a ∨ b ≤ p) → r[p]? = l[p]?
theorem Out.refl (l : List α) (a b : Nat) : Out l l a b := fun _ _ => rfl
theorem Out.trans {l r s : List α} {a b : Nat} (h : Out l r a b) (k : Out r s a b) : Out l s a b := fun p hp => (k p hp).trans (h p hp)
theorem Out.wide {l r : List α} {a b c d : Nat} (h : Out l r a b) (h1 : c ≤ a) (h2 : b ≤ d) : Out l r c d := fun p hp => h p (by omega)
theorem Out.swap {l : List α} {i j a b : Nat} {x y : α} (hx : l[i]? = some x) (hy : l[j]? = some y) (h1 : a ≤ i) (h2 : i < b) (h3 : a ≤ j) (h4 : j < b) : Out l ((l.set i y).set j x) a b := by
  intro p hp
  rw [swap_at hx hy, if_neg (by omega), if_neg (by omega)]
theorem Srt.out {l r : List α} {a b c d : Nat} (h : Srt key l a b) (k : Out l r c d) (hd : b ≤ c ∨ d ≤ a) : Srt key r a b := by
  intro p q x y h1 h2 h3 hx hy
  rw [k p (by omega)] at hx
  rw [k q (by omega)] at hy
  exact h p q x y h1 h2 h3 hx hy
theorem Srt.sub {l : List α} {a b c d : Nat} (h : Srt key l a b) (h1 : a ≤ c) (h2 : d ≤ b) : Srt key l c d := fun p q x y e1 e2 e3 => h p q x y (by omega) e2 (by omega)
theorem Srt.small {l : List α} {a b : Nat} (h : b ≤ a + 1) : Srt key l a b := fun p q x y e1 e2 e3 => by omega
theorem Srt.le {l : List α} {a b p q : Nat} {x y : α} (h : Srt key l a b) (h1 : a ≤ p) (h2 : p ≤ q) (h3 : q < b) (hx : l[p]? = some x) (hy : l[q]? = some y) : key x ≤ key y := by
  by_cases e : p = q
  · subst e
    rw [hx] at hy
    injection hy with hy
    rw [hy]
    exact Int.le_refl _
  · exact h p q x y h1 (by omega) h3 hx hy
/-- the elements of a piece that alone was moved are the elements of that piece -/
theorem seg_mem {l r : List α} {a b p : Nat} {x : α} (h : Out l r a b) (hp : l.Perm r) (h1 : a ≤ p) (h2 : p < b) (hx : r[p]? = some x) : ∃ q, a ≤ q ∧ q < b ∧ l[q]? = some x := by
  have hlen := hp.length_eq
  have e1 : r.take a = l.take a := by
    apply List.ext_getElem?
    intro t
    rw [List.getElem?_take, List.getElem?_take]
    split
    · exact h t (by omega)
    · rfl
  have e2 : r.drop b = l.drop b := by
    apply List.ext_getElem?
    intro t
    rw [List.getElem?_drop, List.getElem?_drop]
    exact h (b + t) (by omega)
  have s1 : ∀ (u : List α), u = u.take a ++ ((u.drop a).take (b - a) ++ u.drop b) := by
    intro u
    have := List.take_append_drop (b - a) (u.drop a)
    rw [List.drop_drop, show a + (b - a) = b by omega] at this
    rw [this, List.take_append_drop]
  have hp2 : ((l.drop a).take (b - a)).Perm ((r.drop a).take (b - a)) := by
    have h3 := hp
    rw [s1 l, s1 r, e1, e2] at h3
    exact (List.perm_append_right_iff _).1 ((List.perm_append_left_iff _).1 h3)
  have hm : x ∈ (r.drop a).take (b - a) := by
    rw [List.mem_iff_getElem?]
    exact ⟨p - a, by rw [List.getElem?_take, if_pos (by omega), List.getElem?_drop, show a + (p - a) = p by omega]; exact hx⟩
  have hm2 := hp2.mem_iff.2 hm
  rw [List.mem_iff_getElem?] at hm2
  obtain ⟨t, ht⟩ := hm2
  rw [List.getElem?_take] at ht
  split at ht
  · rw [List.getElem?_drop] at ht
    exact ⟨a + t, by omega, by omega, ht⟩
  · cases ht

/-- the inner loop of an insertion: place j alone may stand wrong -/
def InsInv (key : α → Int) (l : List α) (a j i : Nat) : Prop := ∀ p q x y, a ≤ p → p < q → q ≤ i → q ≠ j → l[p]? = some x → l[q]? = some y → key x ≤ key y
theorem ins_start {l : List α} {a i : Nat} (h : Srt key l a i) : InsInv key l a i i := fun p q x y h1 h2 h3 h4 => h p q x y h1 h2 (by omega)
theorem ins_step {l : List α} {a j i : Nat} {x y : α} (h : InsInv key l a (j + 1) i) (h1 : a ≤ j) (h2 : j + 1 ≤ i) (hx : l[j]? = some x) (hy : l[j + 1]? = some y) (hlt : key y < key x) :
    InsInv key ((l.set (j + 1) x).set j y) a j i := by
  intro p q u v e1 e2 e3 e4 hu hv
  rw [swap_at hy hx] at hu hv
  rw [if_neg e4] at hv
  by_cases c1 : q = j + 1
  · rw [if_pos c1, hx] at hv
    injection hv with hv
    subst hv
    by_cases c2 : p = j
    · rw [if_pos c2, hy] at hu
      injection hu with hu
      subst hu
      omega
    · rw [if_neg c2, if_neg (by omega)] at hu
      exact h p j u x e1 (by omega) (by omega) (by omega) hu hx
  · rw [if_neg c1] at hv
    by_cases c2 : p = j
    · rw [if_pos c2, hy] at hu
      injection hu with hu
      subst hu
      exact h (j + 1) q y v (by omega) (by omega) e3 c1 hy hv
    · rw [if_neg c2] at hu
      by_cases c3 : p = j + 1
      · rw [if_pos c3, hx] at hu
        injection hu with hu
        subst hu
        exact h j q x v h1 (by omega) e3 c1 hx hv
      · rw [if_neg c3] at hu
        exact h p q u v e1 e2 e3 c1 hu hv
theorem ins_end {l : List α} {a j i : Nat} (h : InsInv key l a j i) (h1 : a ≤ j) (h2 : j ≤ i) (he : j = a ∨ ∃ k x y, j = k + 1 ∧ l[k]? = some x ∧ l[k + 1]? = some y ∧ key x ≤ key y) : Srt key l a (i + 1) := by
  intro p q u v e1 e2 e3 hu hv
  by_cases c : q = j
  · subst c
    rcases he with he | ⟨k, x, y, rfl, hx, hy, hle⟩
    · omega
    · rw [hy] at hv
      injection hv with hv
      subst hv
      by_cases c2 : p = k
      · subst c2
        rw [hx] at hu
        injection hu with hu
        subst hu
        exact hle
      · exact Int.le_trans (h p k u x e1 (by omega) (by omega) (by omega) hu hx) hle
  · exact h p q u v e1 e2 (by omega) c hu hv

/-- two pieces of one length exchanged -/
def Exch (l r : List α) (p q n : Nat) : Prop := r.length = l.length ∧ ∀ t, r[t]? = if p ≤ t ∧ t < p + n then l[t - p + q]? else if q ≤ t ∧ t < q + n then l[t - q + p]? else l[t]?
theorem exch_zero (l : List α) (p q : Nat) : Exch l l p q 0 := ⟨rfl, fun t => by rw [if_neg (by omega), if_neg (by omega)]⟩
theorem exch_step {l r : List α} {p q k : Nat} {x y : α} (h : Exch l r p q k) (hpq : p + k < q) (hx : r[p + k]? = some x) (hy : r[q + k]? = some y) : Exch l ((r.set (p + k) y).set (q + k) x) p q (k + 1) := by
  refine ⟨by rw [List.length_set, List.length_set]; exact h.1, fun t => ?_⟩
  rw [swap_at hx hy]
  by_cases c1 : t = q + k
  · rw [if_pos c1, if_neg (by omega), if_pos (by omega), h.2, if_neg (by omega), if_neg (by omega), show t - q + p = p + k by omega]
  · rw [if_neg c1]
    by_cases c2 : t = p + k
    · rw [if_pos c2, if_pos (by omega), h.2, if_neg (by omega), if_neg (by omega), show t - p + q = q + k by omega]
    · rw [if_neg c2, h.2]
      by_cases c3 : p ≤ t ∧ t < p + k
      · rw [if_pos c3, if_pos (by omega)]
      · rw [if_neg c3]
        by_cases c4 : q ≤ t ∧ t < q + k
        · rw [if_pos c4, if_neg (by omega), if_pos (by omega)]
        · rw [if_neg c4, if_neg (by omega), if_neg (by omega)]
/-- the piece from m to e - 1 ahead of the piece from s to m - 1 -/
def rot (l : List α) (s m e : Nat) : List α := l.take s ++ ((l.drop m).take (e - m) ++ ((l.drop s).take (m - s) ++ l.drop e))
theorem rot_at {l : List α} {s m e : Nat} (h1 : s ≤ m) (h2 : m ≤ e) (h3 : e ≤ l.length) (t : Nat) :
    (rot l s m e)[t]? = if t < s then l[t]? else if t < s + (e - m) then l[t - s + m]? else if t < e then l[t - (e - m)]? else l[t]? := by
  have l1 : (l.take s).length = s := by rw [List.length_take]; omega
  have l2 : ((l.drop m).take (e - m)).length = e - m := by rw [List.length_take, List.length_drop]; omega
  have l3 : ((l.drop s).take (m - s)).length = m - s := by rw [List.length_take, List.length_drop]; omega
  rw [rot, List.getElem?_append, l1]
  by_cases c1 : t < s
  · rw [if_pos c1, if_pos c1, List.getElem?_take, if_pos c1]
  · rw [if_neg c1, if_neg c1, List.getElem?_append, l2]
    by_cases c2 : t < s + (e - m)
    · rw [if_pos (by omega), if_pos c2, List.getElem?_take, if_pos (by omega), List.getElem?_drop, show m + (t - s) = t - s + m by omega]
    · rw [if_neg (by omega), if_neg c2, List.getElem?_append, l3]
      by_cases c3 : t < e
      · rw [if_pos (by omega), if_pos c3, List.getElem?_take, if_pos (by omega), List.getElem?_drop, show s + (t - s - (e - m)) = t - (e - m) by omega]
      · rw [if_neg (by omega), if_neg c3, List.getElem?_drop, show e + (t - s - (e - m) - (m - s)) = t by omega]
theorem rot_length {l : List α} {s m e : Nat} (h1 : s ≤ m) (h2 : m ≤ e) (h3 : e ≤ l.length) : (rot l s m e).length = l.length := by
  rw [rot, List.length_append, List.length_append, List.length_append, List.length_take, List.length_take, List.length_take, List.length_drop, List.length_drop, List.length_drop]
  omega
theorem cut4 {l : List α} {s m e : Nat} (h1 : s ≤ m) (h2 : m ≤ e) : l = l.take s ++ ((l.drop s).take (m - s) ++ ((l.drop m).take (e - m) ++ l.drop e)) := by
  have a1 := List.take_append_drop (e - m) (l.drop m)
  rw [List.drop_drop, show m + (e - m) = e by omega] at a1
  have a2 := List.take_append_drop (m - s) (l.drop s)
  rw [List.drop_drop, show s + (m - s) = m by omega] at a2
  rw [a1, a2, List.take_append_drop]
theorem mem_piece {l : List α} {s m : Nat} {x : α} (h : x ∈ (l.drop s).take (m - s)) : ∃ t, s ≤ t ∧ t < m ∧ l[t]? = some x := by
  rw [List.mem_iff_getElem?] at h
  obtain ⟨t, ht⟩ := h
  rw [List.getElem?_take] at ht
  split at ht
  · rw [List.getElem?_drop] at ht
    exact ⟨s + t, by omega, by omega, ht⟩
  · cases ht
theorem Stab.rot {l : List α} {s m e : Nat} (h1 : s ≤ m) (h2 : m ≤ e) (h : ∀ p q x y, s ≤ p → p < m → m ≤ q → q < e → l[p]? = some x → l[q]? = some y → key x ≠ key y) : Stab key l (rot l s m e) := by
  have hb := Stab.blocks (key := key) ((l.drop s).take (m - s)) ((l.drop m).take (e - m)) (fun u hu v hv => by
    obtain ⟨p, p1, p2, p3⟩ := mem_piece hu
    obtain ⟨q, q1, q2, q3⟩ := mem_piece hv
    exact h p q u v p1 p2 q1 q2 p3 q3)
  have := (Stab.refl (key := key) (l.take s)).app (hb.app (Stab.refl (key := key) (l.drop e)))
  rw [List.append_assoc, List.append_assoc, ← cut4 h1 h2] at this
  exact this
theorem rot_nil {l : List α} {s m e : Nat} (h1 : s ≤ m) (h2 : m ≤ e) (h3 : e ≤ l.length) (h : s = m ∨ m = e) : rot l s m e = l := by
  apply List.ext_getElem?
  intro t
  rw [rot_at h1 h2 h3]
  rcases h with rfl | rfl
  · by_cases c1 : t < s
    · rw [if_pos c1]
    · rw [if_neg c1]
      by_cases c2 : t < s + (e - s)
      · rw [if_pos c2, show t - s + s = t by omega]
      · rw [if_neg c2, if_neg (by omega)]
  · by_cases c1 : t < s
    · rw [if_pos c1]
    · rw [if_neg c1, if_neg (by omega)]
      by_cases c2 : t < m
      · rw [if_pos c2, show t - (m - m) = t by omega]
      · rw [if_neg c2]
/-- the steps of a rotation -/
theorem rot_left {l r : List α} {m i j : Nat} (hi : i ≤ m) (hj : m + j ≤ l.length) (hlt : j < i) (h : Exch l r (m - i) m j) : rot r (m - (i - j)) m (m + j) = rot l (m - i) m (m + j) := by
  apply List.ext_getElem?
  intro t
  rw [rot_at (by omega) (by omega) (by rw [h.1]; exact hj), rot_at (by omega) (by omega) hj]
  by_cases c1 : t < m - i
  · rw [if_pos (by omega), if_pos c1, h.2, if_neg (by omega), if_neg (by omega)]
  · rw [if_neg c1]
    by_cases c2 : t < m - i + (m + j - m)
    · rw [if_pos (by omega), if_pos c2, h.2, if_pos (by omega), show t - (m - i) + m = t - (m - i) + m from rfl]
    · rw [if_neg c2, if_neg (by omega)]
      by_cases c3 : t < m - (i - j) + (m + j - m)
      · rw [if_pos c3, if_pos (by omega), h.2, if_neg (by omega), if_pos (by omega), show t - (m - (i - j)) + m - m + (m - i) = t - (m + j - m) by omega]
      · rw [if_neg c3]
        by_cases c4 : t < m + j
        · rw [if_pos c4, if_pos c4, h.2, if_neg (by omega), if_neg (by omega)]
        · rw [if_neg c4, if_neg c4, h.2, if_neg (by omega), if_neg (by omega)]
theorem rot_right {l r : List α} {m i j : Nat} (hi : i ≤ m) (hj : m + j ≤ l.length) (hlt : i < j) (h : Exch l r (m - i) (m + j - i) i) : rot r (m - i) m (m + (j - i)) = rot l (m - i) m (m + j) := by
  apply List.ext_getElem?
  intro t
  rw [rot_at (by omega) (by omega) (by rw [h.1]; omega), rot_at (by omega) (by omega) hj]
  by_cases c1 : t < m - i
  · rw [if_pos c1, if_pos c1, h.2, if_neg (by omega), if_neg (by omega)]
  · rw [if_neg c1, if_neg c1]
    by_cases c2 : t < m - i + (m + (j - i) - m)
    · rw [if_pos c2, if_pos (by omega), h.2, if_neg (by omega), if_neg (by omega)]
    · rw [if_neg c2]
      by_cases c3 : t < m + (j - i)
      · rw [if_pos c3, if_pos (by omega), h.2, if_pos (by omega), show t - (m + (j - i) - m) - (m - i) + (m + j - i) = t - (m - i) + m by omega]
      · rw [if_neg c3]
        by_cases c4 : t < m + j
        · rw [if_neg (by omega), if_pos c4, h.2, if_neg (by omega), if_pos (by omega), show t - (m + j - i) + (m - i) = t - (m + j - m) by omega]
        · rw [if_neg (by omega), if_neg c4, h.2, if_neg (by omega), if_neg (by omega)]
theorem rot_last {l r : List α} {m i : Nat} (hi : i ≤ m) (hj : m + i ≤ l.length) (h : Exch l r (m - i) m i) : r = rot l (m - i) m (m + i) := by
  apply List.ext_getElem?
  intro t
  rw [rot_at (by omega) (by omega) hj, h.2]
  by_cases c1 : t < m - i
  · rw [if_pos c1, if_neg (by omega), if_neg (by omega)]
  · rw [if_neg c1]
    by_cases c2 : t < m - i + (m + i - m)
    · rw [if_pos c2, if_pos (by omega)]
    · rw [if_neg c2, if_neg (by omega)]
      by_cases c3 : t < m + i
      · rw [if_pos c3, if_pos (by omega), show t - m + (m - i) = t - (m + i - m) by omega]
      · rw [if_neg c3, if_neg (by omega)]

/-- what a merge says of its outcome -/
def Mrg (key : α → Int) (l r : List α) (a b : Nat) : Prop := Stab key l r ∧ Srt key r a b ∧ Out l r a b
/-- a merge by rotation: behind the rotation both halves are two ordered pieces, and no element of the left half is greater than one of the right half -/
def Halves (key : α → Int) (r : List α) (a s mid e b : Nat) : Prop :=
  Srt key r a s ∧ Srt key r s mid ∧ Srt key r mid e ∧ Srt key r e b ∧ ∀ p q x y, a ≤ p → p < mid → mid ≤ q → q < b → r[p]? = some x → r[q]? = some y → key x ≤ key y
theorem halves_of {l : List α} {a s m e b mid : Nat} (h1 : a ≤ s) (h2 : s ≤ m) (h3 : m ≤ e) (h4 : e ≤ b) (hb : b ≤ l.length) (hm : s + e = mid + m) (S1 : Srt key l a m) (S2 : Srt key l m b)
    (c1 : s = a ∨ e = b ∨ ∃ k x y, s = k + 1 ∧ l[k]? = some x ∧ l[e]? = some y ∧ key x ≤ key y)
    (c2 : s = m ∨ e = m ∨ ∃ k x y, e = k + 1 ∧ l[s]? = some x ∧ l[k]? = some y ∧ key y < key x) :
    Stab key l (rot l s m e) ∧ Out l (rot l s m e) a b ∧ Halves key (rot l s m e) a s mid e b := by
  have UV : ∀ p q x y, s ≤ p → p < m → m ≤ q → q < e → l[p]? = some x → l[q]? = some y → key y < key x := by
    intro p q x y e1 e2 e3 e4 hx hy
    rcases c2 with c2 | c2 | ⟨k, u, v, rfl, hu, hv, hlt⟩
    · omega
    · omega
    · have t1 := S1.le (p := s) (q := p) h1 e1 e2 hu hx
      have t2 := S2.le (p := q) (q := k) e3 (by omega) (by omega) hy hv
      omega
  have XY : ∀ p q x y, a ≤ p → p < s → e ≤ q → q < b → l[p]? = some x → l[q]? = some y → key x ≤ key y := by
    intro p q x y e1 e2 e3 e4 hx hy
    rcases c1 with c1 | c1 | ⟨k, u, v, rfl, hu, hv, hle⟩
    · omega
    · omega
    · have t1 := S1.le (p := p) (q := k) e1 (by omega) (by omega) hx hu
      have t2 := S2.le (p := e) (q := q) h3 e3 e4 hv hy
      omega
  have at_ := rot_at (l := l) h2 h3 (by omega : e ≤ l.length)
  have A1 : ∀ t, t < s → (rot l s m e)[t]? = l[t]? := fun t ht => by rw [at_, if_pos ht]
  have A2 : ∀ t, s ≤ t → t < mid → (rot l s m e)[t]? = l[t - s + m]? := fun t h5 h6 => by rw [at_, if_neg (by omega), if_pos (by omega)]
  have A3 : ∀ t, mid ≤ t → t < e → (rot l s m e)[t]? = l[t - (e - m)]? := fun t h5 h6 => by rw [at_, if_neg (by omega), if_neg (by omega), if_pos h6]
  have A4 : ∀ t, e ≤ t → (rot l s m e)[t]? = l[t]? := fun t h5 => by rw [at_, if_neg (by omega), if_neg (by omega), if_neg (by omega)]
  refine ⟨Stab.rot h2 h3 (fun p q x y e1 e2 e3 e4 hx hy => by have := UV p q x y e1 e2 e3 e4 hx hy; omega), ?_, ?_, ?_, ?_, ?_, ?_⟩
  · intro p hp
    rcases hp with hp | hp
    · exact A1 p (by omega)
    · exact A4 p (by omega)
  · intro p q x y e1 e2 e3 hx hy
    rw [A1 p (by omega)] at hx
    rw [A1 q (by omega)] at hy
    exact S1 p q x y e1 e2 (by omega) hx hy
  · intro p q x y e1 e2 e3 hx hy
    rw [A2 p (by omega) (by omega)] at hx
    rw [A2 q (by omega) (by omega)] at hy
    exact S2 _ _ x y (by omega) (by omega) (by omega) hx hy
  · intro p q x y e1 e2 e3 hx hy
    rw [A3 p (by omega) (by omega)] at hx
    rw [A3 q (by omega) (by omega)] at hy
    exact S1 _ _ x y (by omega) (by omega) (by omega) hx hy
  · intro p q x y e1 e2 e3 hx hy
    rw [A4 p (by omega)] at hx
    rw [A4 q (by omega)] at hy
    exact S2 p q x y (by omega) e2 e3 hx hy
  · intro p q x y e1 e2 e3 e4 hx hy
    by_cases p1 : p < s
    · rw [A1 p p1] at hx
      by_cases q1 : q < e
      · rw [A3 q e3 q1] at hy
        exact S1.le (by omega) (by omega) (by omega) hx hy
      · rw [A4 q (by omega)] at hy
        exact XY p q x y e1 p1 (by omega) e4 hx hy
    · rw [A2 p (by omega) e2] at hx
      by_cases q1 : q < e
      · rw [A3 q e3 q1] at hy
        have := UV _ _ y x (by omega) (by omega) (by omega) (by omega) hy hx
        omega
      · rw [A4 q (by omega)] at hy
        exact S2.le (by omega) (by omega) (by omega) hx hy
/-- both halves merged -/
theorem mrg_join {l r s t : List α} {a b c d mid e' : Nat} (hab : a ≤ mid) (hmb : mid ≤ b) (h0 : Stab key l r) (o0 : Out l r a b) (H : Halves key r a c mid d b) (h1 : Mrg key r s a mid) (h2 : Mrg key s t mid b) : Mrg key l t a b := by
  refine ⟨h0.trans (h1.1.trans h2.1), ?_, o0.trans ((h1.2.2.wide (Nat.le_refl _) hmb).trans (h2.2.2.wide hab (Nat.le_refl _)))⟩
  intro p q x y e1 e2 e3 hx hy
  by_cases q1 : q < mid
  · rw [h2.2.2 p (by omega)] at hx
    rw [h2.2.2 q (by omega)] at hy
    exact h1.2.1 p q x y e1 e2 q1 hx hy
  · by_cases p1 : mid ≤ p
    · exact h2.2.1 p q x y p1 e2 e3 hx hy
    · rw [h2.2.2 p (by omega)] at hx
      obtain ⟨p', g1, g2, g3⟩ := seg_mem h1.2.2 h1.1.1 e1 (by omega) hx
      obtain ⟨q', k1, k2, k3⟩ := seg_mem h2.2.2 h2.1.1 (by omega) e3 hy
      rw [h1.2.2 q' (by omega)] at k3
      exact H.2.2.2.2 p' q' x y g1 g2 k1 k2 g3 k3
theorem mrg_refl {l : List α} {a b : Nat} (h : Srt key l a b) : Mrg key l l a b := ⟨Stab.refl _, h, Out.refl _ _ _⟩

/-- one element that is moved to the right, past lesser ones -/
def MoveR (l r : List α) (a k : Nat) : Prop := r.length = l.length ∧ ∀ t, r[t]? = if a ≤ t ∧ t < k then l[t + 1]? else if t = k then l[a]? else l[t]?
theorem moveR_zero (l : List α) (a : Nat) : MoveR l l a a := ⟨rfl, fun t => by
  rw [if_neg (by omega)]
  split
  · rename_i h; rw [h]
  · rfl⟩
theorem moveR_step {l r : List α} {a k : Nat} {x y : α} (h : MoveR l r a k) (hk : a ≤ k) (hx : r[k]? = some x) (hy : r[k + 1]? = some y) : MoveR l ((r.set k y).set (k + 1) x) a (k + 1) := by
  refine ⟨by rw [List.length_set, List.length_set]; exact h.1, fun t => ?_⟩
  rw [swap_at hx hy]
  by_cases c1 : t = k + 1
  · rw [if_pos c1, if_neg (by omega), if_pos c1, h.2, if_neg (by omega), if_pos rfl]
  · rw [if_neg c1]
    by_cases c2 : t = k
    · rw [if_pos c2, if_pos (by omega), h.2, if_neg (by omega), if_neg (by omega), c2]
    · rw [if_neg c2, h.2]
      by_cases c3 : a ≤ t ∧ t < k
      · rw [if_pos c3, if_pos (by omega)]
      · rw [if_neg c3, if_neg c2, if_neg (by omega), if_neg c1]
theorem moveR_mrg {l r : List α} {a i b : Nat} {x : α} (h : MoveR l r a i) (hi : a ≤ i) (hib : i < b) (hx : l[a]? = some x) (S : Srt key l (a + 1) b) (hst : Stab key l r)
    (h1 : i = a ∨ ∃ y, l[i]? = some y ∧ key y < key x) (h2 : i + 1 = b ∨ ∃ y, l[i + 1]? = some y ∧ key x ≤ key y) : Mrg key l r a b := by
  refine ⟨hst, ?_, ?_⟩
  · intro p q u v e1 e2 e3 hu hv
    rw [h.2] at hu hv
    by_cases q1 : q < i
    · rw [if_pos (by omega)] at hu hv
      exact S _ _ u v (by omega) (by omega) (by omega) hu hv
    · rw [if_neg (by omega)] at hv
      by_cases q2 : q = i
      · rw [if_pos q2, hx] at hv
        injection hv with hv
        subst hv
        rw [if_pos (by omega)] at hu
        rcases h1 with h1 | ⟨y, hy, hlt⟩
        · omega
        · have := S.le (p := p + 1) (q := i) (by omega) (by omega) (by omega) hu hy
          omega
      · rw [if_neg q2] at hv
        by_cases p1 : p < i
        · rw [if_pos (by omega)] at hu
          exact S _ _ u v (by omega) (by omega) (by omega) hu hv
        · rw [if_neg (by omega)] at hu
          by_cases p2 : p = i
          · rw [if_pos p2, hx] at hu
            injection hu with hu
            subst hu
            rcases h2 with h2 | ⟨y, hy, hle⟩
            · omega
            · have := S.le (p := i + 1) (q := q) (by omega) (by omega) e3 hy hv
              omega
          · rw [if_neg p2] at hu
            exact S _ _ u v (by omega) (by omega) (by omega) hu hv
  · intro p hp
    rw [h.2, if_neg (by omega), if_neg (by omega)]
/-- one element that is moved to the left, past greater ones -/
def MoveL (l r : List α) (k m : Nat) : Prop := r.length = l.length ∧ ∀ t, r[t]? = if k < t ∧ t ≤ m then l[t - 1]? else if t = k then l[m]? else l[t]?
theorem moveL_zero (l : List α) (m : Nat) : MoveL l l m m := ⟨rfl, fun t => by
  rw [if_neg (by omega)]
  split
  · rename_i h; rw [h]
  · rfl⟩
theorem moveL_step {l r : List α} {k m : Nat} {x y : α} (h : MoveL l r (k + 1) m) (hk : k + 1 ≤ m) (hx : r[k]? = some x) (hy : r[k + 1]? = some y) : MoveL l ((r.set (k + 1) x).set k y) k m := by
  refine ⟨by rw [List.length_set, List.length_set]; exact h.1, fun t => ?_⟩
  rw [swap_at hy hx]
  by_cases c1 : t = k
  · rw [if_pos c1, if_neg (by omega), if_pos c1, h.2, if_neg (by omega), if_pos rfl]
  · rw [if_neg c1]
    by_cases c2 : t = k + 1
    · rw [if_pos c2, if_pos (by omega), h.2, if_neg (by omega), if_neg (by omega), show t - 1 = k by omega]
    · rw [if_neg c2, h.2]
      by_cases c3 : k + 1 < t ∧ t ≤ m
      · rw [if_pos c3, if_pos (by omega)]
      · rw [if_neg c3, if_neg c2, if_neg (by omega), if_neg c1]
theorem moveL_mrg {l r : List α} {a i m : Nat} {x : α} (h : MoveL l r i m) (hi : a ≤ i) (him : i ≤ m) (hx : l[m]? = some x) (S : Srt key l a m) (hst : Stab key l r)
    (h1 : i = a ∨ ∃ k y, i = k + 1 ∧ l[k]? = some y ∧ key y ≤ key x) (h2 : i = m ∨ ∃ y, l[i]? = some y ∧ key x < key y) : Mrg key l r a (m + 1) := by
  refine ⟨hst, ?_, ?_⟩
  · intro p q u v e1 e2 e3 hu hv
    rw [h.2] at hu hv
    by_cases p1 : i < p
    · rw [if_pos (by omega)] at hu hv
      exact S _ _ u v (by omega) (by omega) (by omega) hu hv
    · rw [if_neg (by omega)] at hu
      by_cases p2 : p = i
      · rw [if_pos p2, hx] at hu
        injection hu with hu
        subst hu
        rw [if_pos (by omega)] at hv
        rcases h2 with h2 | ⟨y, hy, hlt⟩
        · omega
        · have := S.le (p := i) (q := q - 1) (by omega) (by omega) (by omega) hy hv
          omega
      · rw [if_neg p2] at hu
        by_cases q1 : i < q
        · rw [if_pos (by omega)] at hv
          exact S _ _ u v (by omega) (by omega) (by omega) hu hv
        · rw [if_neg (by omega)] at hv
          by_cases q2 : q = i
          · rw [if_pos q2, hx] at hv
            injection hv with hv
            subst hv
            rcases h1 with h1 | ⟨k, y, rfl, hy, hle⟩
            · omega
            · have := S.le (p := p) (q := k) e1 (by omega) (by omega) hu hy
              omega
          · rw [if_neg q2] at hv
            exact S _ _ u v (by omega) (by omega) (by omega) hu hv
  · intro p hp
    rw [h.2, if_neg (by omega), if_neg (by omega)]

/-- an ordered list with the elements of one key in a given order: there is one alone -/
theorem stab_unique : ∀ {l r : List α}, Stab key l r → Srt key l 0 l.length → Srt key r 0 r.length → l = r
  | [], r, h, _, _ => (List.Perm.nil_eq h.1.symm.symm)
  | x :: l, [], h, _, _ => by have := h.length; simp at this
  | x :: l, y :: r, h, hl, hr => by
    have k1 : key x ≤ key y := by
      have hm : y ∈ x :: l := h.1.mem_iff.2 (List.mem_cons_self ..)
      rw [List.mem_iff_getElem?] at hm
      obtain ⟨t, ht⟩ := hm
      exact hl.le (p := 0) (q := t) (Nat.le_refl _) (Nat.zero_le _) (List.getElem?_eq_some_iff.1 ht).1 rfl ht
    have k2 : key y ≤ key x := by
      have hm : x ∈ y :: r := h.1.mem_iff.1 (List.mem_cons_self ..)
      rw [List.mem_iff_getElem?] at hm
      obtain ⟨t, ht⟩ := hm
      exact hr.le (p := 0) (q := t) (Nat.le_refl _) (Nat.zero_le _) (List.getElem?_eq_some_iff.1 ht).1 rfl ht
    have e : key x = key y := by omega
    have hf := h.2 (key x)
    rw [List.filter_cons, List.filter_cons, if_pos (by simp), if_pos (by simp [e])] at hf
    injection hf with hxy _
    subst hxy
    have ht : Stab key l r := by
      refine ⟨(List.perm_cons x).1 h.1, fun c => ?_⟩
      have hc := h.2 c
      rw [List.filter_cons, List.filter_cons] at hc
      split at hc
      · injection hc
      · exact hc
    have tail : ∀ {u : List α}, Srt key (x :: u) 0 (x :: u).length → Srt key u 0 u.length := fun hu p q a b e1 e2 e3 ha hb =>
      hu (p + 1) (q + 1) a b (Nat.zero_le _) (by omega) (by rw [List.length_cons]; omega) (by rw [List.getElem?_cons_succ]; exact ha) (by rw [List.getElem?_cons_succ]; exact hb)
    rw [stab_unique ht (tail hl) (tail hr)]
/-- an element put into an ordered list, behind all that are not greater -/
def insAt (L : List α) (t : α) (k : Nat) : List α := L.take k ++ t :: L.drop k
theorem insAt_stab {L : List α} {t : α} {k : Nat} (h : ∀ q y, k ≤ q → L[q]? = some y → key t < key y) : Stab key (L ++ [t]) (insAt L t k) := by
  have hb := Stab.blocks (key := key) (L.drop k) [t] (fun u hu v hv => by
    rw [List.mem_singleton] at hv
    subst hv
    rw [List.mem_iff_getElem?] at hu
    obtain ⟨q, hq⟩ := hu
    rw [List.getElem?_drop] at hq
    have := h (k + q) u (by omega) hq
    omega)
  have := (Stab.refl (key := key) (L.take k)).app hb
  rw [← List.append_assoc, List.take_append_drop] at this
  simpa [insAt] using this
theorem insAt_srt {L : List α} {t : α} {k : Nat} (hk : k ≤ L.length) (hL : Srt key L 0 L.length) (h1 : k = 0 ∨ ∃ j y, k = j + 1 ∧ L[j]? = some y ∧ key y ≤ key t) (h2 : ∀ q y, k ≤ q → L[q]? = some y → key t < key y) : Srt key (insAt L t k) 0 (insAt L t k).length := by
  have at_ : ∀ p, (insAt L t k)[p]? = if p < k then L[p]? else if p = k then some t else L[p - 1]? := by
    intro p
    rw [insAt, List.getElem?_append, List.length_take, Nat.min_eq_left hk]
    by_cases c1 : p < k
    · rw [if_pos c1, if_pos c1, List.getElem?_take, if_pos c1]
    · rw [if_neg c1, if_neg c1]
      by_cases c2 : p = k
      · rw [if_pos c2, c2, Nat.sub_self]; rfl
      · rw [if_neg c2, show p - k = (p - k - 1) + 1 by omega, List.getElem?_cons_succ, List.getElem?_drop, show k + (p - k - 1) = p - 1 by omega]
  have hlen : (insAt L t k).length = L.length + 1 := by rw [insAt, List.length_append, List.length_take, List.length_cons, List.length_drop]; omega
  intro p q x y e1 e2 e3 hx hy
  rw [hlen] at e3
  rw [at_] at hx hy
  by_cases q1 : q < k
  · rw [if_pos q1] at hy
    rw [if_pos (by omega)] at hx
    exact hL p q x y e1 e2 (by omega) hx hy
  · rw [if_neg q1] at hy
    by_cases q2 : q = k
    · rw [if_pos q2] at hy
      injection hy with hy
      subst hy
      rw [if_pos (by omega)] at hx
      rcases h1 with h1 | ⟨j, z, rfl, hz, hle⟩
      · omega
      · have := hL.le (p := p) (q := j) (by omega) (by omega) (by omega) hx hz
        omega
    · rw [if_neg q2] at hy
      by_cases p1 : p < k
      · rw [if_pos p1] at hx
        exact hL.le (by omega) (by omega) (by omega) hx hy
      · rw [if_neg p1] at hx
        by_cases p2 : p = k
        · rw [if_pos p2] at hx
          injection hx with hx
          subst hx
          have := h2 (q - 1) y (by omega) hy
          omega
        · rw [if_neg p2] at hx
          exact hL.le (by omega) (by omega) (by omega) hx hy
theorem Stab.symm {l r : List α} (h : Stab key l r) : Stab key r l := ⟨h.1.symm, fun c => (h.2 c).symm⟩
def posU (key : α → Int) (t : α) : List α → Nat
  | [] => 0
  | y :: r => if key y ≤ key t then posU key t r + 1 else 0
theorem posU_le (t : α) : ∀ L : List α, posU key t L ≤ L.length
  | [] => Nat.le_refl _
  | y :: r => by
    have := posU_le t r
    rw [posU, List.length_cons]
    split <;> omega
theorem posU_low (t : α) : ∀ (L : List α) (j : Nat) (y : α), j < posU key t L → L[j]? = some y → key y ≤ key t
  | [], j, y, h, _ => by simp [posU] at h
  | z :: r, 0, y, h, hy => by
    rw [posU] at h
    split at h
    · simp at hy; subst hy; assumption
    · omega
  | z :: r, j + 1, y, h, hy => by
    rw [posU] at h
    split at h
    · exact posU_low t r j y (by omega) (by simpa using hy)
    · omega
theorem Srt.tail {x : α} {u : List α} (hu : Srt key (x :: u) 0 (x :: u).length) : Srt key u 0 u.length := fun p q a b e1 e2 e3 ha hb =>
  hu (p + 1) (q + 1) a b (Nat.zero_le _) (by omega) (by rw [List.length_cons]; omega) (by rw [List.getElem?_cons_succ]; exact ha) (by rw [List.getElem?_cons_succ]; exact hb)
theorem posU_high (t : α) : ∀ (L : List α), Srt key L 0 L.length → ∀ (q : Nat) (y : α), posU key t L ≤ q → L[q]? = some y → key t < key y
  | [], _, q, y, _, hy => by simp at hy
  | z :: r, hL, q, y, h, hy => by
    rw [posU] at h
    split at h
    · obtain ⟨q, rfl⟩ : ∃ k, q = k + 1 := ⟨q - 1, by omega⟩
      exact posU_high t r hL.tail q y (by omega) (by simpa using hy)
    · have := hL.le (p := 0) (q := q) (Nat.le_refl _) (Nat.zero_le _) (List.getElem?_eq_some_iff.1 hy).1 rfl hy
      omega
def stabStep (key : α → Int) (L : List α) (t : α) : List α := insAt L t (posU key t L)
/-- the elements in order, those of one key in the order in which they came -/
def stabSort (key : α → Int) (l : List α) : List α := l.foldl (stabStep key) []
theorem stabStep_ok {L : List α} {t : α} (hL : Srt key L 0 L.length) : Stab key (L ++ [t]) (stabStep key L t) ∧ Srt key (stabStep key L t) 0 (stabStep key L t).length := by
  refine ⟨insAt_stab (posU_high t L hL), insAt_srt (posU_le t L) hL ?_ (posU_high t L hL)⟩
  rcases Nat.eq_zero_or_pos (posU key t L) with h | h
  · exact .inl h
  · have hlt : posU key t L - 1 < L.length := by have := posU_le (key := key) t L; omega
    exact .inr ⟨posU key t L - 1, L[posU key t L - 1], by omega, List.getElem?_eq_getElem hlt, posU_low t L _ _ (by omega) (List.getElem?_eq_getElem hlt)⟩
theorem stabFold_ok : ∀ (l acc : List α), Srt key acc 0 acc.length → Stab key (acc ++ l) (l.foldl (stabStep key) acc) ∧ Srt key (l.foldl (stabStep key) acc) 0 (l.foldl (stabStep key) acc).length
  | [], acc, h => ⟨by rw [List.append_nil]; exact Stab.refl _, h⟩
  | t :: r, acc, h => by
    obtain ⟨h1, h2⟩ := stabStep_ok (t := t) h
    obtain ⟨h3, h4⟩ := stabFold_ok r (stabStep key acc t) h2
    refine ⟨?_, h4⟩
    have := (h1.app (Stab.refl r)).trans h3
    rw [List.append_assoc] at this
    exact this
theorem stabSort_ok (l : List α) : Stab key l (stabSort key l) ∧ Srt key (stabSort key l) 0 (stabSort key l).length := by
  have := stabFold_ok (key := key) l [] (fun p q x y _ _ h => by simp at h)
  exact this
theorem stabSort_eq {l T : List α} (h : Stab key l T) (hs : Srt key T 0 T.length) : T = stabSort key l :=
  stab_unique (h.symm.trans (stabSort_ok l).1) hs (stabSort_ok l).2
theorem stabSort_length (l : List α) : (stabSort key l).length = l.length := (stabSort_ok (key := key) l).1.length.symm
theorem stabSort_mem {l : List α} {x : α} : x ∈ stabSort key l ↔ x ∈ l := (stabSort_ok (key := key) l).1.1.mem_iff.symm
end
end Go.Proofs.YtpbhncgjnmaojaaGreatDoor
