/- Copies of slices of structs, and comparisons of such slices (the laws' own helpers). No condition. -/
import Derived.Test.YtpbhncgjnmaojaaGreatDoorErr
import Derived.Deep.RegionHeld3
import Derived.Outline
namespace Go.Proofs.YtpbhncgjnmaojaaGreatDoor
open Go.RowKit
set_option linter.unusedVariables false

theorem Sees.three {w : World} {B : Nat} {A : Option Addr} {l : List (Int × Int × Int)} (hs : Sees w B A (cells3 l)) {k : Nat} (hk : k < l.length) :
    ∃ b off p, A = some ⟨b, off, none⟩ ∧ b < B ∧ l[k]? = some p ∧ w.cell? ⟨b, off + k * 3, none⟩ = some (.int .i64 p.1) ∧ w.cell? ⟨b, off + k * 3 + 1, none⟩ = some (.int .i64 p.2.1) ∧ w.cell? ⟨b, off + k * 3 + 2, none⟩ = some (.int .i64 p.2.2) := by
  obtain ⟨b, off, e, hb, hcell⟩ := hs.addr (by rw [cells3_length]; omega)
  have hp : l[k]? = some l[k] := List.getElem?_eq_getElem hk
  obtain ⟨a0, a1, a2⟩ := cells3_at l k _ hp
  refine ⟨b, off, l[k], e, hb, hp, ?_, ?_, ?_⟩
  · rw [show off + k * 3 = off + 3 * k by omega]; exact hcell _ _ a0
  · rw [show off + k * 3 + 1 = off + (3 * k + 1) by omega]; exact hcell _ _ a1
  · rw [show off + k * 3 + 2 = off + (3 * k + 2) by omega]; exact hcell _ _ a2
theorem Full.some_ {w : World} {g : Nat} {t : TypeId} {cs : Array Value} (h : Full w g t cs) {i : Nat} (hi : i < cs.size) : ∃ v, w.cell? ⟨g, i, none⟩ = some v :=
  ⟨cs[i], by rw [h.at_]; exact Array.getElem?_eq_getElem hi⟩
theorem Full.sees {w : World} {g : Nat} {t : TypeId} {xs : List Value} (h : Full w g t xs.toArray) : Sees w w.heap.size (some ⟨g, 0, none⟩) xs := by
  intro j u hu
  exact ⟨g, 0, rfl, h.inside, by rw [h.at_]; simpa using hu⟩
/-- three cells written at place k of an array of triples -/
def put3 (cs : Array Value) (k : Nat) (u0 u1 u2 : Value) : Array Value := ((cs.setIfInBounds (k * 3) u0).setIfInBounds (k * 3 + 1) u1).setIfInBounds (k * 3 + 2) u2
theorem put3_size (cs : Array Value) (k : Nat) (u0 u1 u2 : Value) : (put3 cs k u0 u1 u2).size = cs.size := by simp [put3]
theorem put3_cells {cs : Array Value} {l : List (Int × Int × Int)} {n k : Nat} {p : Int × Int × Int} (hl : l.length = n) (hk : k < n) (hsz : cs.size = n * 3) (hcs : ∀ j, j < k * 3 → cs[j]? = (cells3 l)[j]?) (hp : l[k]? = some p) :
    ∀ j, j < (k + 1) * 3 → (put3 cs k (.int .i64 p.1) (.int .i64 p.2.1) (.int .i64 p.2.2))[j]? = (cells3 l)[j]? := by
  intro j hj
  obtain ⟨a0, a1, a2⟩ := cells3_at l k p hp
  unfold put3
  simp only [Array.getElem?_setIfInBounds, Array.size_setIfInBounds]
  by_cases h2 : k * 3 + 2 = j
  · rw [if_pos h2, if_pos (by omega), ← h2, show k * 3 + 2 = 3 * k + 2 by omega, a2]
  · rw [if_neg h2]
    by_cases h1 : k * 3 + 1 = j
    · rw [if_pos h1, if_pos (by omega), ← h1, show k * 3 + 1 = 3 * k + 1 by omega, a1]
    · rw [if_neg h1]
      by_cases h0 : k * 3 = j
      · rw [if_pos h0, if_pos (by omega), ← h0, show k * 3 = 3 * k by omega, a0]
      · rw [if_neg h0]
        exact hcs j (by omega)
theorem cells_all {cs : Array Value} {xs : List Value} (hsz : cs.size = xs.length) (h : ∀ j, j < xs.length → cs[j]? = xs[j]?) : cs = xs.toArray := by
  apply Array.ext_getElem?
  intro j
  by_cases hj : j < xs.length
  · rw [h j hj]; simp
  · rw [Array.getElem?_eq_none (by omega)]; simp; omega
/-- make([]T, n), whatever T's number of cells -/
theorem makeRow {P : Program} (t e : TypeId) (i : TypeInfo) (z : Value) (ht : P.underlying t = some (.slice e)) (hi : P.info? e = some i) (hz : i.zero = some z) (n : Nat) (hb : i.bytes * n ≤ 281474976710656) (hn : n ≤ 9223372036854775807) (w : World) :
    (Instr.makeSlice t (.int .i64 (n : Int)) (.int .i64 (n : Int))).run P w = .ok (.slice (some ⟨w.heap.size, 0, none⟩) n n) (w.alloc (.cells (madeCells z.cells (n * i.size)) e)) := by
  have h := run_make (P := P) w t e i z ht hi hz .i64 .i64 (n : Int) (n : Int) (by omega) (by omega) (by rw [← Int.natCast_mul]; omega) (by omega)
  simpa only [Int.toNat_natCast] using h
end Go.Proofs.YtpbhncgjnmaojaaGreatDoor
