/- Draws of graduations (layer 7). No condition. -/
import Derived.Test.YtpbhncgjnmaojaaGreatDoorDr
import Derived.Test.YtpbhncgjnmaojaaGreatDoorMk
import Derived.Test.YtpbhncgjnmaojaaGreatDoorOwn
import Derived.Deep.RegionHeld3
import Derived.Deep.AppendLies
namespace Go.Proofs.YtpbhncgjnmaojaaGreatDoor
open Go.RowKit
set_option linter.unusedVariables false
set_option linter.unusedSimpArgs false

theorem Src.grown {w v : World} {b : Nat} {A : Option Addr} {n c : Nat} {l : List Int} {row : Option Nat} (h : Src w b A n c l) (hg : w.grownBy v row) (hr : ∀ g, row = some g → b < g) : Src v b A n c l := by
  have hi := h.inside
  obtain ⟨⟨x, q, a1, a2, a3, a4, F⟩, S⟩ := h
  exact ⟨⟨x, q, a1, a2, a3, a4, F.grow hg (fun e => by have := hr b e.symm; omega)⟩, S.grow hg (by omega) (fun g hgr => by have := hr g hgr; omega)⟩
theorem gGrown {w v x : World} {b : Nat} {row : Option Nat} (h : w.grownBy v (some b)) (hg : v.grownBy x row) (hr : ∀ g, row = some g → w.heap.size ≤ g) : w.grownBy x (some b) :=
  ⟨hg.os.trans h.os, hg.tape.trans h.tape, hg.output.trans h.output, Nat.le_trans h.size hg.size, fun k hk hne => (hg.block k (Nat.lt_of_lt_of_le hk h.size) (fun e => by have := hr k e.symm; omega)).trans (h.block k hk hne)⟩
/-- numbers that are small -/
def SmallP (p : Int × Int × Int) : Prop := (-100000 ≤ p.1 ∧ p.1 ≤ 100000) ∧ (-100000 ≤ p.2.1 ∧ p.2.1 ≤ 100000) ∧ (-100000 ≤ p.2.2 ∧ p.2.2 ≤ 100000)
theorem smallOf {x y z : Int} (h1 : 0 ≤ x ∧ x ≤ 20000) (h2 : 0 ≤ y ∧ y ≤ 20000) (h3 : -100000 ≤ z ∧ z ≤ 100000) : SmallP (x, y, z) := ⟨⟨by show _ ≤ x; omega, by show x ≤ _; omega⟩, ⟨by show _ ≤ y; omega, by show y ≤ _; omega⟩, h3⟩
def SmallPs (L : List (Int × Int × Int)) : Prop := ∀ p ∈ L, SmallP p
theorem SmallPs.i64 {L : List (Int × Int × Int)} (h : SmallPs L) : I64s3 L := fun p hp => by
  obtain ⟨h1, h2, h3⟩ := h p hp
  unfold I64
  omega
theorem SmallPs.snoc {L : List (Int × Int × Int)} {p : Int × Int × Int} (h : SmallPs L) (hp : SmallP p) : SmallPs (L ++ [p]) := fun q hq => by
  rcases List.mem_append.1 hq with hq | hq
  · exact h q hq
  · rw [List.mem_singleton] at hq; subst hq; exact hp
theorem SmallPs.set {L : List (Int × Int × Int)} {p : Int × Int × Int} {k : Nat} (h : SmallPs L) (hp : SmallP p) : SmallPs (L.set k p) := fun q hq => by
  rcases List.mem_or_eq_of_mem_set hq with hq | hq
  · exact h q hq
  · subst hq; exact hp
theorem SmallPs.set64 {L : List (Int × Int × Int)} {p : Int × Int × Int} {k : Nat} (h : SmallPs L) (h1 : -100000 ≤ p.1 ∧ p.1 ≤ 100000) (h2 : -1000000 ≤ p.2.1 ∧ p.2.1 ≤ 1000000) (h3 : -100000 ≤ p.2.2 ∧ p.2.2 ≤ 100000) : I64s3 (L.set k p) := fun q hq => by
  rcases List.mem_or_eq_of_mem_set hq with hq | hq
  · exact h.i64 q hq
  · subst hq; unfold I64; omega
theorem SmallPs.take {L : List (Int × Int × Int)} {k : Nat} (h : SmallPs L) : SmallPs (L.take k) := fun q hq => h q (List.mem_of_mem_take hq)
def ends20 (es : List Int) : Prop := ∀ e ∈ es, 0 ≤ e ∧ e ≤ 20000
theorem ends20.snoc {es : List Int} {y : Int} (h : ends20 es) (h0 : 0 ≤ y) (h1 : y ≤ 20000) : ends20 (es ++ [y]) := fun q hq => by
  rcases List.mem_append.1 hq with hq | hq
  · exact h q hq
  · rw [List.mem_singleton] at hq; subst hq; exact ⟨h0, h1⟩
theorem pick6 {v a b c d e f : Int} {P : Int → Prop} (h : ∃ j : Nat, j < 6 ∧ (#[Value.int .i64 a, .int .i64 b, .int .i64 c, .int .i64 d, .int .i64 e, .int .i64 f] : Array Value)[j]? = some (.int .i64 v)) (h1 : P a) (h2 : P b) (h3 : P c) (h4 : P d) (h5 : P e) (h6 : P f) : P v := by
  obtain ⟨j, hj, h⟩ := h
  rcases j with _ | _ | _ | _ | _ | _ | j <;> first | (simp at h; subst h; assumption) | omega
theorem pick4 {v a b c d : Int} {P : Int → Prop} (h : ∃ j : Nat, j < 4 ∧ (#[Value.int .i64 a, .int .i64 b, .int .i64 c, .int .i64 d] : Array Value)[j]? = some (.int .i64 v)) (h1 : P a) (h2 : P b) (h3 : P c) (h4 : P d) : P v := by
  obtain ⟨j, hj, h⟩ := h
  rcases j with _ | _ | _ | _ | j <;> first | (simp at h; subst h; assumption) | omega
theorem pick3 {v a b c : Int} {P : Int → Prop} (h : ∃ j : Nat, j < 3 ∧ (#[Value.int .i64 a, .int .i64 b, .int .i64 c] : Array Value)[j]? = some (.int .i64 v)) (h1 : P a) (h2 : P b) (h3 : P c) : P v := by
  obtain ⟨j, hj, h⟩ := h
  rcases j with _ | _ | _ | j <;> first | (simp at h; subst h; assumption) | omega
theorem cells3_set : ∀ (L : List (Int × Int × Int)) (k : Nat) (p : Int × Int × Int) (x : Int), L[k]? = some p → (cells3 L).set (k * 3 + 1) (.int .i64 x) = cells3 (L.set k (p.1, x, p.2.2)) ∧ (cells3 L).set (k * 3 + 2) (.int .i64 x) = cells3 (L.set k (p.1, p.2.1, x))
  | [], k, p, x, h => by simp at h
  | q :: r, 0, p, x, h => by
    simp at h
    subst h
    exact ⟨rfl, rfl⟩
  | q :: r, k + 1, p, x, h => by
    obtain ⟨h1, h2⟩ := cells3_set r k p x (by simpa using h)
    constructor
    · rw [show (k + 1) * 3 + 1 = k * 3 + 1 + 1 + 1 + 1 by omega, cells3, List.set_cons_succ, List.set_cons_succ, List.set_cons_succ, h1]; rfl
    · rw [show (k + 1) * 3 + 2 = k * 3 + 2 + 1 + 1 + 1 by omega, cells3, List.set_cons_succ, List.set_cons_succ, List.set_cons_succ, h2]; rfl
/-- the front of an owned row -/
theorem ownFront {w : World} {base n size g cap k : Nat} {e : TypeId} {xs : List Value} (h : w.ownsRow base e size (.slice (some ⟨g, 0, none⟩) n cap) n xs) (hk : k ≤ n) : w.ownsRow base e size (.slice (some ⟨g, 0, none⟩) k cap) k (xs.take (k * size)) := by
  have hlen := h.1
  rcases ownRow h with ⟨h1, _⟩ | ⟨g', cap', cur, hv, hb, hF, hnc, hcm, hsz, htk⟩
  · cases h1
  · injection hv with hA _ hc
    injection hA with hA
    injection hA with hg _ _
    subst hg hc
    have hle : k * size ≤ n * size := Nat.mul_le_mul_right _ hk
    refine ownMake hb hF (by omega) hcm hsz (by rw [List.length_take]; omega) (fun j hj => ?_)
    rw [← htk, List.getElem?_take, if_pos hj, List.getElem?_take, if_pos (by omega)]
    simp
theorem cells3_take : ∀ (L : List (Int × Int × Int)) (k : Nat), (cells3 L).take (k * 3) = cells3 (L.take k)
  | [], k => by simp [cells3]
  | q :: r, 0 => by simp [cells3]
  | q :: r, k + 1 => by
    rw [show (k + 1) * 3 = k * 3 + 1 + 1 + 1 by omega, cells3, List.take_succ_cons, List.take_succ_cons, List.take_succ_cons, cells3_take r k]; rfl
end Go.Proofs.YtpbhncgjnmaojaaGreatDoor
