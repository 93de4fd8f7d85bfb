/- Arguments opened into plain data: slices of int64, slices of structs of three int64 fields. Generic lemmas. No condition. -/
import Derived.Test.YtibcbhphkafgjaaDoorWords
import Derived.ProofKit
import Derived.OpenShut
import Derived.ShutString
import Derived.ChangeOld
import Derived.Below
import Derived.Deep.Slices
import Derived.Deep.Fields
import Derived.Deep.Strs
import Derived.ChangeSame
import Derived.Lib.SmallJoins
namespace Go.Proofs.YtibcbhphkafgjaaDoor
open Go.ChangeShapes Go.WideShapes Go.Deep Go.RowKit Go.Joins

/-- in the range of int64 -/
def I64 (x : Int) : Prop := -9223372036854775808 ≤ x ∧ x ≤ 9223372036854775807
theorem I64.of_wf {x : Int} (h : (Lit.int .i64 x).wf = true) : I64 x := bounds_i64 h

def I64s (l : List Int) : Prop := ∀ x ∈ l, I64 x
def I64s3 (l : List (Int × Int × Int)) : Prop := ∀ p ∈ l, I64 p.1 ∧ I64 p.2.1 ∧ I64 p.2.2
def U8s (l : List Int) : Prop := ∀ x ∈ l, 0 ≤ x ∧ x ≤ 255

/-- the cells of a slice of structs of three int64 fields -/
def cells3 : List (Int × Int × Int) → List Value
  | [] => []
  | p :: r => .int .i64 p.1 :: .int .i64 p.2.1 :: .int .i64 p.2.2 :: cells3 r
theorem cells3_length (l : List (Int × Int × Int)) : (cells3 l).length = 3 * l.length := by
  induction l with
  | nil => rfl
  | cons x r ih => simp only [cells3, List.length_cons, ih]; omega
theorem cells3_append (l r : List (Int × Int × Int)) : cells3 (l ++ r) = cells3 l ++ cells3 r := by
  induction l with
  | nil => rfl
  | cons x l ih => simp only [List.cons_append, cells3, ih]
theorem cells3_at : ∀ (l : List (Int × Int × Int)) (i : Nat) (p : Int × Int × Int), l[i]? = some p → (cells3 l)[3 * i]? = some (.int .i64 p.1) ∧ (cells3 l)[3 * i + 1]? = some (.int .i64 p.2.1) ∧ (cells3 l)[3 * i + 2]? = some (.int .i64 p.2.2)
  | [], i, p, h => by simp at h
  | x :: r, 0, p, h => by simp at h; subst h; exact ⟨rfl, rfl, rfl⟩
  | x :: r, i + 1, p, h => by
    have ih := cells3_at r i p (by simpa using h)
    rw [show 3 * (i + 1) = 3 * i + 1 + 1 + 1 by omega]
    simp only [cells3, List.getElem?_cons_succ]
    exact ih
theorem cells3_of : ∀ (l : List (Int × Int × Int)) (j : Nat) (u : Value), (cells3 l)[j]? = some u →
    ∃ i p, l[i]? = some p ∧ ((j = 3 * i ∧ u = .int .i64 p.1) ∨ (j = 3 * i + 1 ∧ u = .int .i64 p.2.1) ∨ (j = 3 * i + 2 ∧ u = .int .i64 p.2.2))
  | [], j, u, h => by simp [cells3] at h
  | x :: r, 0, u, h => ⟨0, x, rfl, .inl ⟨rfl, by simpa [cells3] using h.symm⟩⟩
  | x :: r, 1, u, h => ⟨0, x, rfl, .inr (.inl ⟨rfl, by simpa [cells3] using h.symm⟩)⟩
  | x :: r, 2, u, h => ⟨0, x, rfl, .inr (.inr ⟨rfl, by simpa [cells3] using h.symm⟩)⟩
  | x :: r, j + 3, u, h => by
    obtain ⟨i, p, hp, hc⟩ := cells3_of r j u (by simpa [cells3] using h)
    refine ⟨i + 1, p, by simpa using hp, ?_⟩
    rcases hc with ⟨e, hu⟩ | ⟨e, hu⟩ | ⟨e, hu⟩
    · exact .inl ⟨by omega, hu⟩
    · exact .inr (.inl ⟨by omega, hu⟩)
    · exact .inr (.inr ⟨by omega, hu⟩)

theorem pick {α : Type} {n : Nat} {q : Nat → α → Prop} (h : ∀ i, i < n → ∃ x, q i x) : ∃ l : List α, l.length = n ∧ ∀ i x, l[i]? = some x → q i x := by
  induction n with
  | zero => exact ⟨[], rfl, fun i x hx => by simp at hx⟩
  | succ n ih =>
    obtain ⟨l, hl, hq⟩ := ih (fun i hi => h i (by omega))
    obtain ⟨x, hx⟩ := h n (by omega)
    refine ⟨l ++ [x], by simp [hl], fun i y hy => ?_⟩
    rcases Nat.lt_trichotomy i n with hlt | rfl | hgt
    · rw [List.getElem?_append_left (by omega)] at hy
      exact hq i y hy
    · rw [List.getElem?_append_right (by omega), hl] at hy
      simp at hy
      subst hy
      exact hx
    · rw [List.getElem?_append_right (by omega), hl, List.getElem?_eq_none (by simp; omega)] at hy
      cases hy

section
variable {H : Type} {enc : TypeId × Value → H} {P : Program} {w : World} {spare : Nat → Bool} {held : Bool}

/-- a slice of integers of one kind, nil let in -/
theorem open_nums {t e : TypeId} {k : IntKind} {fuel : Nat} {v : Value} {x : DataW H × List MemPlace} (ht : P.underlying t = some (.slice e)) (he : P.underlying e = some (.int k)) (hc : P.cellsOf e = 1)
    (h : DataW.trod enc P w 0 spare held fuel t [v] = some x) :
    ∃ (A : Option Addr) (n c : Nat) (l : List Int), v = .slice A n c ∧ l.length = n ∧ n ≤ c ∧ c ≤ maxLen ∧ Sees w w.heap.size A (l.map (Value.int k)) ∧ ∀ z ∈ l, (Lit.int k z).wf = true := by
  rcases open_ints ht he hc h with ⟨hcs, _⟩ | ⟨a, len, cap, zs, hcs, _, hl, hm, hz, _, hcell, hwz⟩
  · simp at hcs
    subst hcs
    exact ⟨none, 0, 0, [], rfl, rfl, Nat.le_refl _, Nat.zero_le _, Sees.empty, fun x hx => by cases hx⟩
  · simp at hcs
    subst hcs
    have hlz : len ≤ zs.length := by rw [hz]; split <;> omega
    refine ⟨some a, len, cap, zs.take len, rfl, by rw [List.length_take]; omega, hl, hm, fun j u hu => ?_, fun x hx => hwz x (List.mem_of_mem_take hx)⟩
    rw [List.getElem?_map, List.getElem?_take] at hu
    split at hu
    · rename_i hj
      have hjz : j < zs.length := by omega
      have hcj := hcell j hjz
      have h0 := hcell 0 (by omega)
      obtain ⟨b, off, spot⟩ := a
      obtain rfl : spot = none := by simpa [Addr.add] using World.cell?_spot h0
      have hb := World.block_lt_of_cell? w _ h0
      rw [Addr.add_lit] at hcj hb
      refine ⟨b, off, rfl, hb, ?_⟩
      rw [hcj]
      rw [List.getElem?_eq_getElem hjz] at hu
      simp at hu
      rw [← hu]
      simp [List.getElem?_eq_getElem hjz]
    · simp at hu

theorem open_i64s {t e : TypeId} {fuel : Nat} {v : Value} {x : DataW H × List MemPlace} (ht : P.underlying t = some (.slice e)) (he : P.underlying e = some (.int .i64)) (hc : P.cellsOf e = 1)
    (h : DataW.trod enc P w 0 spare held fuel t [v] = some x) :
    ∃ (A : Option Addr) (n c : Nat) (l : List Int), v = .slice A n c ∧ l.length = n ∧ n ≤ c ∧ c ≤ maxLen ∧ Sees w w.heap.size A (l.map (Value.int .i64)) ∧ I64s l := by
  obtain ⟨A, n, c, l, h1, h2, h3, h4, h5, h6⟩ := open_nums ht he hc h
  exact ⟨A, n, c, l, h1, h2, h3, h4, h5, fun z hz => bounds_i64 (h6 z hz)⟩
theorem open_u8s {t e : TypeId} {fuel : Nat} {v : Value} {x : DataW H × List MemPlace} (ht : P.underlying t = some (.slice e)) (he : P.underlying e = some (.int .u8)) (hc : P.cellsOf e = 1)
    (h : DataW.trod enc P w 0 spare held fuel t [v] = some x) :
    ∃ (A : Option Addr) (n c : Nat) (l : List Int), v = .slice A n c ∧ l.length = n ∧ n ≤ c ∧ c ≤ maxLen ∧ Sees w w.heap.size A (l.map (Value.int .u8)) ∧ U8s l := by
  obtain ⟨A, n, c, l, h1, h2, h3, h4, h5, h6⟩ := open_nums ht he hc h
  exact ⟨A, n, c, l, h1, h2, h3, h4, h5, fun z hz => bounds_u8 (h6 z hz)⟩

/-- a slice of structs of three int64 fields, nil let in -/
theorem open_3s {t e : TypeId} {f0 f1 f2 : Field} {fuel : Nat} {v : Value} {x : DataW H × List MemPlace} (ht : P.underlying t = some (.slice e)) (he : P.underlying e = some (.struct #[f0, f1, f2]))
    (hone : oneCellFields P #[f0, f1, f2] = true) (hC : P.cellsOf e = 3) (g0 : P.underlying f0.type = some (.int .i64)) (g1 : P.underlying f1.type = some (.int .i64)) (g2 : P.underlying f2.type = some (.int .i64))
    (h : DataW.trod enc P w 0 spare held fuel t [v] = some x) :
    ∃ (A : Option Addr) (n c : Nat) (l : List (Int × Int × Int)), v = .slice A n c ∧ l.length = n ∧ n ≤ c ∧ c ≤ maxLen ∧ Sees w w.heap.size A (cells3 l) ∧ I64s3 l := by
  rcases open_slice ht h with ⟨hcs, _⟩ | ⟨a, len, cap, m, fl, D, Pl, hcs, _, hl, hm, hmm, _, hi⟩
  · simp at hcs
    subst hcs
    exact ⟨none, 0, 0, [], rfl, rfl, Nat.le_refl _, Nat.zero_le _, Sees.empty, fun x hx => by cases hx⟩
  · simp at hcs
    subst hcs
    have hlm : len ≤ m := by rw [hmm]; split <;> omega
    obtain ⟨o0, k0⟩ := hone_of hone 0 f0 rfl
    obtain ⟨o1, k1⟩ := hone_of hone 1 f1 rfl
    obtain ⟨o2, k2⟩ := hone_of hone 2 f2 rfl
    have each : ∀ i, i < len → ∃ p : Int × Int × Int, (I64 p.1 ∧ I64 p.2.1 ∧ I64 p.2.2) ∧
        ∃ b off, a = ⟨b, off, none⟩ ∧ b < w.heap.size ∧ w.cell? ⟨b, off + 3 * i, none⟩ = some (.int .i64 p.1) ∧ w.cell? ⟨b, off + (3 * i + 1), none⟩ = some (.int .i64 p.2.1) ∧ w.cell? ⟨b, off + (3 * i + 2), none⟩ = some (.int .i64 p.2.2) := by
      intro i hil
      obtain ⟨cs, hcc, ht3⟩ := hi i (by omega)
      rw [hC] at hcc
      obtain ⟨_, hcl, hat⟩ := World.cells?_some hcc
      match cs, hcl with
      | [u0, u1, u2], _ =>
        obtain ⟨y0, y1, y2, n, _, _, t0, t1, t2⟩ := trod_struct3 he ht3
        rw [o0, k0] at t0
        rw [o1, k1] at t1
        rw [o2, k2] at t2
        obtain ⟨z0, e0, _, w0⟩ := DataW.trod_int g0 t0
        obtain ⟨z1, e1, _, w1⟩ := DataW.trod_int g1 t1
        obtain ⟨z2, e2, _, w2⟩ := DataW.trod_int g2 t2
        simp at e0 e1 e2
        subst e0 e1 e2
        have q0 := hat 0 (by omega)
        have q1 := hat 1 (by omega)
        have q2 := hat 2 (by omega)
        rw [add_add] at q0 q1 q2
        simp only [List.getElem?_cons_zero, List.getElem?_cons_succ] at q0 q1 q2
        obtain ⟨b, off, spot⟩ := a
        obtain rfl : spot = none := by
          obtain ⟨cs', hcc', _⟩ := hi 0 (by omega)
          rw [hC] at hcc'
          obtain ⟨_, hcl', hat'⟩ := World.cells?_some hcc'
          have q := hat' 0 (by omega)
          rw [List.getElem?_eq_getElem (by omega), add_add] at q
          simpa [Addr.add] using World.cell?_spot q
        have hb := World.block_lt_of_cell? w _ q0
        rw [Addr.add_lit] at q0 q1 q2 hb
        refine ⟨(z0, z1, z2), ⟨bounds_i64 w0, bounds_i64 w1, bounds_i64 w2⟩, b, off, rfl, hb, ?_, ?_, ?_⟩
        · rw [← q0]; congr 2; omega
        · rw [← q1]; congr 2; omega
        · rw [← q2]; congr 2; omega
    obtain ⟨l, hll, hq⟩ := pick each
    refine ⟨some a, len, cap, l, rfl, hll, hl, hm, fun j u hu => ?_, fun p hp => ?_⟩
    · obtain ⟨i, p, hp, hc⟩ := cells3_of l j u hu
      obtain ⟨_, b, off, ha, hb, q0, q1, q2⟩ := hq i p hp
      rcases hc with ⟨rfl, rfl⟩ | ⟨rfl, rfl⟩ | ⟨rfl, rfl⟩
      · exact ⟨b, off, by rw [ha], hb, q0⟩
      · exact ⟨b, off, by rw [ha], hb, q1⟩
      · exact ⟨b, off, by rw [ha], hb, q2⟩
    · obtain ⟨i, hi2, he⟩ := List.getElem_of_mem hp
      exact (hq i p (by rw [← he]; exact List.getElem?_eq_getElem hi2)).1
end
end Go.Proofs.YtibcbhphkafgjaaDoor
