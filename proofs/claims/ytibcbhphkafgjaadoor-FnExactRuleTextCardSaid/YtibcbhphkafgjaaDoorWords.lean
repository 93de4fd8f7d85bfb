/- Small words on memory, used by all the walks of this seat: which cells a slice value shows, a block known in full, what a call leaves as it was. No condition. -/
import Derived.WalkKit
import Derived.WalkSpells
import Derived.WalkLawsBesides
import Derived.Lib.Hide
import Derived.Laws.OwnMore
import Derived.Deep.Draws
import Derived.Deep.OwnRows
import Derived.Laws.Rows
namespace Go.Proofs.YtibcbhphkafgjaaDoor
open Go.RowKit

theorem endInt {k : IntKind} {a b : Int} (h : a = b) : Ending.returned (.int k a) = .returned (.int k b) := congrArg (fun x => Ending.returned (.int k x)) h
theorem endBool {a b : Bool} (h : a = b) : Ending.returned (.bool a) = .returned (.bool b) := congrArg (fun x => Ending.returned (.bool x)) h

theorem endTwo {p : Int × Int} {x y : Int} (h : p = (x, y)) : Ending.returned (.tuple #[.int .i64 x, .int .i64 y]) = .returned (.tuple #[.int .i64 p.1, .int .i64 p.2]) := by subst h; rfl
theorem endBoolInt {p : Bool × Int} {x : Bool} {y : Int} (h : p = (x, y)) : Ending.returned (.tuple #[.bool x, .int .i64 y]) = .returned (.tuple #[.bool p.1, .int .i64 p.2]) := by subst h; rfl
theorem endThree {p : Int × Int × Int} {x y z : Int} (h : p = (x, y, z)) : Ending.returned (.tuple #[.int .i64 x, .int .i64 y, .int .i64 z]) = .returned (.tuple #[.int .i64 p.1, .int .i64 p.2.1, .int .i64 p.2.2]) := by subst h; rfl

/-- 'Sees w B A xs': whatever stands at place j of xs is what the cell j places behind the address A holds, and A lies in a block before B. -/
def Sees (w : World) (B : Nat) (A : Option Addr) (xs : List Value) : Prop :=
  ∀ j u, xs[j]? = some u → ∃ b off, A = some ⟨b, off, none⟩ ∧ b < B ∧ w.cell? ⟨b, off + j, none⟩ = some u

namespace Sees
variable {w v : World} {B C : Nat} {A : Option Addr} {xs : List Value}
theorem empty : Sees w B A [] := fun j u h => by simp at h
theorem carry (h : Sees w B A xs) (k : ∀ b o, b < B → v.cell? ⟨b, o, none⟩ = w.cell? ⟨b, o, none⟩) : Sees v B A xs := by
  intro j u hu
  obtain ⟨b, off, e, hb, hc⟩ := h j u hu
  exact ⟨b, off, e, hb, (k b _ hb).trans hc⟩
theorem wider (h : Sees w B A xs) (hB : B ≤ C) : Sees w C A xs := by
  intro j u hu
  obtain ⟨b, off, e, hb, hc⟩ := h j u hu
  exact ⟨b, off, e, Nat.lt_of_lt_of_le hb hB, hc⟩
theorem over (h : Sees w B A xs) (hb : Below B w v) : Sees v B A xs := h.carry fun b o hlt => hb.cell (p := ⟨b, o, none⟩) hlt
theorem draw (h : Sees w B A xs) : Sees w.drew B A xs := h
theorem draws (h : Sees w B A xs) (n : Nat) : Sees (w.drewN n) B A xs := h
theorem block (h : Sees w B A xs) (hB : B ≤ w.heap.size) (o : Obj) : Sees (w.alloc o) B A xs :=
  h.carry fun b i hlt => World.cell?_alloc_lt w o ⟨b, i, none⟩ (Nat.lt_of_lt_of_le hlt hB)
theorem store (h : Sees w B A xs) {p : Addr} (hp : B ≤ p.block) (u : Value) : Sees (w.setCell p u) B A xs :=
  h.carry fun b i hlt => World.cell?_setCell_other w p ⟨b, i, none⟩ u (fun e => by subst e; exact Nat.lt_irrefl _ (Nat.lt_of_lt_of_le hlt hp))
theorem grow (h : Sees w B A xs) {row : Option Nat} (hg : w.grownBy v row) (hB : B ≤ w.heap.size) (hr : ∀ g, row = some g → B ≤ g) : Sees v B A xs :=
  h.carry fun b i hlt => World.cell?_of_block (a := ⟨b, i, none⟩) (hg.block b (Nat.lt_of_lt_of_le hlt hB) (fun e => by have := hr b e.symm; omega))
/-- the address, once for all cells -/
theorem addr (h : Sees w B A xs) (hx : 0 < xs.length) : ∃ b off, A = some ⟨b, off, none⟩ ∧ b < B ∧ ∀ j u, xs[j]? = some u → w.cell? ⟨b, off + j, none⟩ = some u := by
  obtain ⟨b, off, e, hb, _⟩ := h 0 xs[0] (List.getElem?_eq_getElem hx)
  refine ⟨b, off, e, hb, fun j u hu => ?_⟩
  obtain ⟨b', off', e', _, hc⟩ := h j u hu
  rw [e] at e'
  injection e' with e'
  injection e' with e1 e2
  subst e1 e2
  exact hc
theorem front (h : Sees w B A xs) (k : Nat) : Sees w B A (xs.take k) := by
  intro j u hu
  rw [List.getElem?_take] at hu
  split at hu
  · exact h j u hu
  · cases hu
theorem ofOwn {base : Nat} {e : TypeId} {size n c : Nat} (h : w.ownsRow base e size (.slice A n c) n xs) : Sees w w.heap.size A xs := by
  intro j u hu
  have hlt := h.lt
  rcases h.2 with ⟨_, hn⟩ | ⟨g, cap, cur, hv, _⟩
  · have := h.1
    rw [hn, Nat.zero_mul] at this
    rw [List.eq_nil_of_length_eq_zero this] at hu
    simp at hu
  · have hA : A = some ⟨g, 0, none⟩ := by injection hv
    subst hA
    have hc := h.cells (g := g) rfl j u hu
    refine ⟨g, 0, rfl, (hlt g rfl).2, ?_⟩
    rw [Addr.add_lit] at hc
    exact hc
end Sees

/-- block g holds the cells cs, of element type t, none of them frozen -/
def Full (w : World) (g : Nat) (t : TypeId) (cs : Array Value) : Prop := w.heap[g]? = some (.cells cs t (0, 0))

namespace Full
variable {w v : World} {g : Nat} {t : TypeId} {cs : Array Value}
theorem inside (h : Full w g t cs) : g < w.heap.size := (Array.getElem?_eq_some_iff.1 h).1
theorem at_ (h : Full w g t cs) (i : Nat) : w.cell? ⟨g, i, none⟩ = cs[i]? := cell_of_row w g i cs t (0, 0) h
theorem free (h : Full w g t cs) (i : Nat) : w.frozen? ⟨g, i, none⟩ = false := by
  unfold Full at h
  simp [World.frozen?, h]
theorem made (w : World) (t : TypeId) (cs : Array Value) : Full (w.alloc (.cells cs t)) w.heap.size t cs := heap_alloc_new w _
theorem block (h : Full w g t cs) (o : Obj) : Full (w.alloc o) g t cs := (Below.heap_alloc w o g h.inside).trans h
theorem put (h : Full w g t cs) (i : Nat) (u : Value) : Full (w.setCell ⟨g, i, none⟩ u) g t (cs.setIfInBounds i u) := by
  unfold Full at h ⊢
  simp [World.setCell, Array.getElem?_modify, h]
theorem elsewhere (h : Full w g t cs) {p : Addr} (hp : g ≠ p.block) (u : Value) : Full (w.setCell p u) g t cs := (Below.heap_setCell w p u g hp).trans h
theorem over {B : Nat} (h : Full w g t cs) (hb : Below B w v) (hg : g < B) : Full v g t cs := (hb.block g hg).trans h
theorem grow {row : Option Nat} (h : Full w g t cs) (hb : w.grownBy v row) (hg : some g ≠ row) : Full v g t cs := (hb.block g h.inside hg).trans h
end Full

/-- a call that leaves the world as it is, inside a region that draws its order -/
theorem quietSame {P : Program} {f : FuncId} {args : Array Value} {w : World} {n : Nat} {v : Value}
    (h : Calls P f args (w.drewN n) fun e w' => e = .returned v ∧ w.drewN n = w') : Calls P f args (w.drewN n) fun e w'' => e = .returned v ∧ ∃ m, w'' = w.drewN m :=
  h.mono fun _ _ ⟨he, hm⟩ => ⟨he, n, hm.symm⟩
theorem belowDraws {B : Nat} {a w : World} (h : Below B a w) (n : Nat) : Below B a (w.drewN n) := ⟨h.os, h.tape, h.output, h.size, h.block⟩

end Go.Proofs.YtibcbhphkafgjaaDoor
