/- Small words on rows that a call owns. No condition. -/
import Derived.Test.YtibcbhphkafgjaaDoorSl
import Derived.Maps.AppendAt
namespace Go.Proofs.YtibcbhphkafgjaaDoor
open Go.RowKit
set_option linter.unusedVariables false

theorem newsNew (w : World) (cs : Array Value) (T : TypeId) : ∀ j u, cs.toList[j]? = some u → (w.alloc (.cells cs T)).cell? ((⟨w.heap.size, 0, none⟩ : Addr).add j) = some u := by
  intro j u hu
  rw [Addr.add_lit, Nat.zero_add, (Full.made w T cs).at_ j]
  simpa using hu

theorem ownOver {w v : World} {base n size : Nat} {e : TypeId} {x : Value} {xs : List Value} (h : w.ownsRow base e size x n xs) (hb : Below w.heap.size w v) : v.ownsRow base e size x n xs :=
  h.kept (row := none) ⟨hb.os, hb.tape, hb.output, hb.size, fun k hk _ => hb.block k hk⟩ (by cases hv : x.ownBlock <;> simp)
theorem newsAt (w : World) (g : Nat) (hg : w.heap.size = g) (cs : Array Value) (T : TypeId) : ∀ j u, cs.toList[j]? = some u → (w.alloc (.cells cs T)).cell? ((⟨g, 0, none⟩ : Addr).add j) = some u := by
  subst hg
  exact newsNew w cs T
theorem grownFar {w v : World} {row : Option Nat} (h : w.grownBy v row) {b : Nat} (hb : b < w.heap.size) (hne : some b ≠ row) (o : Nat) : v.cell? ⟨b, o, none⟩ = w.cell? ⟨b, o, none⟩ := World.cell?_of_block (a := ⟨b, o, none⟩) (h.block b hb hne)
def SeesAt (w : World) (b off : Nat) (xs : List Value) : Prop := ∀ j u, xs[j]? = some u → w.cell? ⟨b, off + j, none⟩ = some u
theorem SeesAt.carry {w v : World} {b off : Nat} {xs : List Value} (h : SeesAt w b off xs) (e : ∀ o, v.cell? ⟨b, o, none⟩ = w.cell? ⟨b, o, none⟩) : SeesAt v b off xs := fun j u hu => (e _).trans (h j u hu)
theorem ownGrown {w v : World} {base n size : Nat} {row : Option Nat} {e : TypeId} {x : Value} {xs : List Value} (h : w.ownsRow base e size x n xs) (hg : w.grownBy v row) (hne : x.ownBlock = none ∨ x.ownBlock ≠ row) : v.ownsRow base e size x n xs := h.kept hg hne
theorem belowGrown {w v : World} (hb : Below w.heap.size w v) (row : Option Nat) : w.grownBy v row := ⟨hb.os, hb.tape, hb.output, hb.size, fun k hk _ => hb.block k hk⟩
theorem grownTrans {a b c : World} {row : Option Nat} (h : a.grownBy b row) (k : b.grownBy c row) : a.grownBy c row :=
  ⟨k.os.trans h.os, k.tape.trans h.tape, k.output.trans h.output, Nat.le_trans h.size k.size, fun i hi hne => (k.block i (Nat.lt_of_lt_of_le hi h.size) hne).trans (h.block i hi hne)⟩
theorem grownPut {w v : World} {g i : Nat} {u : Value} (h : w.grownBy v (some g)) : w.grownBy (v.setCell ⟨g, i, none⟩ u) (some g) :=
  grownTrans h ⟨rfl, rfl, rfl, by simp, fun k hk hne => Below.heap_setCell v ⟨g, i, none⟩ u k (fun e => hne (by rw [e]))⟩
theorem grownDrew {w v : World} {row : Option Nat} (h : w.grownBy v row) : w.grownBy v.drew row := ⟨h.os, h.tape, h.output, h.size, h.block⟩
theorem grownRefl (w : World) (row : Option Nat) : w.grownBy w row := ⟨rfl, rfl, rfl, Nat.le_refl _, fun _ _ _ => rfl⟩
/-- the row of a slice that a call owns: a block, or nil -/
theorem ownRow {w : World} {base n size : Nat} {e : TypeId} {x : Value} {xs : List Value} (h : w.ownsRow base e size x n xs) :
    (x = .slice none 0 0 ∧ n = 0 ∧ xs = []) ∨ ∃ g cap cur, x = .slice (some ⟨g, 0, none⟩) n cap ∧ base ≤ g ∧ Full w g e cur ∧ n ≤ cap ∧ cap ≤ maxLen ∧ cur.size = cap * size ∧ cur.toList.take (n * size) = xs := by
  rcases h.2 with ⟨hv, hn⟩ | h2
  · have := h.1
    rw [hn, Nat.zero_mul] at this
    exact .inl ⟨hv, hn, List.eq_nil_of_length_eq_zero this⟩
  · exact .inr h2
theorem ownMake {w : World} {base n size g cap : Nat} {e : TypeId} {cur : Array Value} {xs : List Value} (hg : base ≤ g) (hF : Full w g e cur) (h1 : n ≤ cap) (h2 : cap ≤ maxLen) (h3 : cur.size = cap * size) (h4 : xs.length = n * size) (h5 : ∀ j, j < n * size → cur[j]? = xs[j]?) :
    w.ownsRow base e size (.slice (some ⟨g, 0, none⟩) n cap) n xs := by
  refine ⟨h4, .inr ⟨g, cap, cur, rfl, hg, hF, h1, h2, h3, ?_⟩⟩
  apply List.ext_getElem?
  intro j
  rw [List.getElem?_take]
  split
  · rename_i hj
    rw [← h5 j hj]
    simp
  · rename_i hj
    rw [List.getElem?_eq_none (by omega)]
theorem ownOfFull {w : World} {n size g : Nat} {e : TypeId} {xs : List Value} (hF : Full w g e xs.toArray) (h4 : xs.length = n * size) (h2 : n ≤ maxLen) : w.ownsRow g e size (.slice (some ⟨g, 0, none⟩) n n) n xs :=
  ownMake (Nat.le_refl _) hF (Nat.le_refl _) h2 (by simp [h4]) h4 (fun j _ => by simp)
theorem ownLower {w : World} {b b' n size : Nat} {e : TypeId} {x : Value} {xs : List Value} (h : w.ownsRow b e size x n xs) (hb : b' ≤ b) : w.ownsRow b' e size x n xs := by
  rcases h with ⟨h1, h2 | ⟨g, cap, cur, r1, r2, r3⟩⟩
  · exact ⟨h1, .inl h2⟩
  · exact ⟨h1, .inr ⟨g, cap, cur, r1, Nat.le_trans hb r2, r3⟩⟩
/-- the marks 1, 2, .. that the laws write -/
def markVals (m : Nat) : List Value := (List.range m).map fun (j : Nat) => Value.int .i64 (1 + (j : Int))
theorem markVals_length (m : Nat) : (markVals m).length = m := by simp [markVals]
theorem markVals_at {m j : Nat} (h : j < m) : (markVals m)[j]? = some (.int .i64 (1 + (j : Int))) := by simp [markVals, h]
end Go.Proofs.YtibcbhphkafgjaaDoor
