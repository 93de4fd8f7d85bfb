/- Copies of slices of structs, and comparisons of such slices (the laws' own helpers). No condition. -/
import Derived.Test.YtibcbhphkafgjaaDoorErr
import Derived.Deep.RegionHeld3
import Derived.Outline
namespace Go.Proofs.YtibcbhphkafgjaaDoor
open Go.RowKit
set_option linter.unusedVariables false

theorem Sees.three {w : World} {B : Nat} {A : Option Addr} {l : List (Int × Int × Int)} (hs : Sees w B A (cells3 l)) {k : Nat} (hk : k < l.length) :
    ∃ b off p, A = some ⟨b, off, none⟩ ∧ b < B ∧ l[k]? = some p ∧ w.cell? ⟨b, off + k * 3, none⟩ = some (.int .i64 p.1) ∧ w.cell? ⟨b, off + k * 3 + 1, none⟩ = some (.int .i64 p.2.1) ∧ w.cell? ⟨b, off + k * 3 + 2, none⟩ = some (.int .i64 p.2.2) := by
  obtain ⟨b, off, e, hb, hcell⟩ := hs.addr (by rw [cells3_length]; omega)
  have hp : l[k]? = some l[k] := List.getElem?_eq_getElem hk
  obtain ⟨a0, a1, a2⟩ := cells3_at l k _ hp
  refine ⟨b, off, l[k], e, hb, hp, ?_, ?_, ?_⟩
  · rw [show off + k * 3 = off + 3 * k by omega]; exact hcell _ _ a0
  · rw [show off + k * 3 + 1 = off + (3 * k + 1) by omega]; exact hcell _ _ a1
  · rw [show off + k * 3 + 2 = off + (3 * k + 2) by omega]; exact hcell _ _ a2
theorem Full.some_ {w : World} {g : Nat} {t : TypeId} {cs : Array Value} (h : Full w g t cs) {i : Nat} (hi : i < cs.size) : ∃ v, w.cell? ⟨g, i, none⟩ = some v :=
  ⟨cs[i], by rw [h.at_]; exact Array.getElem?_eq_getElem hi⟩
theorem Full.sees {w : World} {g : Nat} {t : TypeId} {xs : List Value} (h : Full w g t xs.toArray) : Sees w w.heap.size (some ⟨g, 0, none⟩) xs := by
  intro j u hu
  exact ⟨g, 0, rfl, h.inside, by rw [h.at_]; simpa using hu⟩
/-- three cells written at place k of an array of triples -/
def put3 (cs : Array Value) (k : Nat) (u0 u1 u2 : Value) : Array Value := ((cs.setIfInBounds (k * 3) u0).setIfInBounds (k * 3 + 1) u1).setIfInBounds (k * 3 + 2) u2
theorem put3_size (cs : Array Value) (k : Nat) (u0 u1 u2 : Value) : (put3 cs k u0 u1 u2).size = cs.size := by simp [put3]
theorem put3_cells {cs : Array Value} {l : List (Int × Int × Int)} {n k : Nat} {p : Int × Int × Int} (hl : l.length = n) (hk : k < n) (hsz : cs.size = n * 3) (hcs : ∀ j, j < k * 3 → cs[j]? = (cells3 l)[j]?) (hp : l[k]? = some p) :
    ∀ j, j < (k + 1) * 3 → (put3 cs k (.int .i64 p.1) (.int .i64 p.2.1) (.int .i64 p.2.2))[j]? = (cells3 l)[j]? := by
  intro j hj
  obtain ⟨a0, a1, a2⟩ := cells3_at l k p hp
  unfold put3
  simp only [Array.getElem?_setIfInBounds, Array.size_setIfInBounds]
  by_cases h2 : k * 3 + 2 = j
  · rw [if_pos h2, if_pos (by omega), ← h2, show k * 3 + 2 = 3 * k + 2 by omega, a2]
  · rw [if_neg h2]
    by_cases h1 : k * 3 + 1 = j
    · rw [if_pos h1, if_pos (by omega), ← h1, show k * 3 + 1 = 3 * k + 1 by omega, a1]
    · rw [if_neg h1]
      by_cases h0 : k * 3 = j
      · rw [if_pos h0, if_pos (by omega), ← h0, show k * 3 = 3 * k by omega, a0]
      · rw [if_neg h0]
        exact hcs j (by omega)
theorem cells_all {cs : Array Value} {xs : List Value} (hsz : cs.size = xs.length) (h : ∀ j, j < xs.length → cs[j]? = xs[j]?) : cs = xs.toArray := by
  apply Array.ext_getElem?
  intro j
  by_cases hj : j < xs.length
  · rw [h j hj]; simp
  · rw [Array.getElem?_eq_none (by omega)]; simp; omega
/-- make([]T, n), whatever T's number of cells -/
theorem makeRow {P : Program} (t e : TypeId) (i : TypeInfo) (z : Value) (ht : P.underlying t = some (.slice e)) (hi : P.info? e = some i) (hz : i.zero = some z) (n : Nat) (hb : i.bytes * n ≤ 281474976710656) (hn : n ≤ 9223372036854775807) (w : World) :
    (Instr.makeSlice t (.int .i64 (n : Int)) (.int .i64 (n : Int))).run P w = .ok (.slice (some ⟨w.heap.size, 0, none⟩) n n) (w.alloc (.cells (madeCells z.cells (n * i.size)) e)) := by
  have h := run_make (P := P) w t e i z ht hi hz .i64 .i64 (n : Int) (n : Int) (by omega) (by omega) (by rw [← Int.natCast_mul]; omega) (by omega)
  simpa only [Int.toNat_natCast] using h
theorem infoPart : (Tryd.prog.info? 50).map (fun i => (i.zero, i.size, i.bytes)) = some (some (.agg #[.int .i64 0, .int .i64 0, .int .i64 0]), 3, 24) := by kernel_rfl
set_option maxHeartbeats 400000 in
theorem toPartS_any (A : Option Addr) (n c : Nat) (l : List (Int × Int × Int)) (w : World) (hl : l.length = n) (hn : n ≤ 1048576) (hs : Sees w w.heap.size A (cells3 l)) :
    Calls Tryd.prog 9 #[.slice A n c] w fun e w' => e = .returned (.slice (some ⟨w.heap.size, 0, none⟩) n n) ∧ Full w' w.heap.size 50 (cells3 l).toArray ∧ Below w.heap.size w w' := by
  obtain ⟨i0, hi, hz0, hz1, hz2⟩ := info_parts infoPart
  have hmk := fun W => makeRow (P := Tryd.prog) 26 50 i0 _ Tryd.underlying26 hi hz0 n (by rw [hz2]; omega) (by omega) W
  rw [hz1] at hmk
  go_enter Tryd.func9, Tryd.ntmps9
  go_wp2
  go_loopw [4] (fun i wr => ∃ (k : Nat) (cs : Array Value), k ≤ n ∧ i = .int .i64 k ∧ Full wr w.heap.size 50 cs ∧ cs.size = n * 3 ∧ (∀ j, j < k * 3 → cs[j]? = (cells3 l)[j]?) ∧ Below w.heap.size w wr)
    (fun i _ => n - (intOf i).toNat)
  case atStart => exact ⟨0, _, Nat.zero_le _, rfl, Full.made _ _ _, size_madeCells _ _, fun j hj => absurd hj (by omega), (Below.refl _ _).alloc (Nat.le_refl _) _⟩
  case round =>
    obtain ⟨k, cs, hk, rfl, hF, hsz, hcs, hB⟩ := hrel
    clear hmk hi hz0 hz1 hz2
    by_cases hlt : k < n
    · obtain ⟨b, off, p, rfl, hb, hp, c0, c1, c2⟩ := (hs.over hB).three (k := k) (by omega)
      obtain ⟨v0, e0⟩ := hF.some_ (i := k * 3) (by omega)
      obtain ⟨v1, e1⟩ := hF.some_ (i := k * 3 + 1) (by omega)
      obtain ⟨v2, e2⟩ := hF.some_ (i := k * 3 + 2) (by omega)
      have f0 := hF.free (k * 3)
      have f1 := hF.free (k * 3 + 1)
      have f2 := hF.free (k * 3 + 2)
      have hne : b ≠ w.heap.size := by omega
      have hin := hF.inside
      have hin1 : w.heap.size < wr.heap.size + 1 := by omega
      have hin2 : w.heap.size < wr.heap.size + 1 + 1 := by omega
      have Hp := Lib.hid hp
      have Hcs := Lib.hid hcs
      have Hsz := Lib.hid hsz
      have Hl := Lib.hid hl
      clear hp hcs hsz hl hs
      go_wp2_with (go_at_call 27; refine (toPart_any _ _ _ _).mono ?_; rintro e w' ⟨rfl, rfl⟩)
      go_roundw
      case rel =>
        refine ⟨k + 1, put3 cs k _ _ _, by omega, by go_num, (((((hF.put _ _).put _ _).put _ _).block _).block _).block _, (put3_size _ _ _ _ _).trans Hsz.out, put3_cells Hl.out hlt Hsz.out Hcs.out Hp.out, ?_⟩
        refine (((Below.setCell (Below.setCell (Below.setCell hB (Nat.le_refl _) _) (Nat.le_refl _) _) (Nat.le_refl _) _).alloc (by simp; omega) _).alloc (by simp; omega) _).alloc (by simp; omega) _
      case measure => simp [intOf]; omega
    · obtain rfl : k = n := by omega
      go_wp2
      go_ret
      have e := cells_all (by rw [hsz, cells3_length, hl]; omega) (fun j hj => hcs j (by rw [cells3_length, hl] at hj; omega))
      subst e
      exact ⟨rfl, hF, hB⟩
set_option maxHeartbeats 400000 in
theorem eqPart_same (x y z : Int) (w : World) :
    Calls Tryd.prog 30 #[.agg #[.int .i64 x, .int .i64 y, .int .i64 z], .agg #[.int .i64 x, .int .i64 y, .int .i64 z]] w fun e w' => e = .returned (.bool true) ∧ (w.alloc (.cells #[.int .i64 x, .int .i64 y, .int .i64 z] 50)).alloc (.cells #[.int .i64 x, .int .i64 y, .int .i64 z] 50) = w' := by
  go_enter Tryd.func30, Tryd.ntmps30
  go_wp2
  go_ret
  exact ⟨rfl, rfl⟩
set_option maxHeartbeats 1000000 in
theorem eqPartS_same (A B : Option Addr) (n c d : Nat) (l : List (Int × Int × Int)) (w : World) (hl : l.length = n) (hn : n ≤ 1048576) (hs : Sees w w.heap.size A (cells3 l)) (ht : Sees w w.heap.size B (cells3 l)) :
    Calls Tryd.prog 11 #[.slice A n c, .slice B n d] w fun e w' => e = .returned (.bool true) ∧ Below w.heap.size w w' := by
  go_enter Tryd.func11, Tryd.ntmps11
  go_wp2
  go_loopw [5] (fun i wr => ∃ k : Nat, k ≤ n ∧ i = .int .i64 k ∧ Below w.heap.size w wr) (fun i _ => n - (intOf i).toNat)
  case atStart => exact ⟨0, Nat.zero_le _, rfl, Below.refl _ _⟩
  case round =>
    obtain ⟨k, hk, rfl, hB⟩ := hrel
    by_cases hlt : k < n
    · obtain ⟨b, off, p, rfl, hb, hp, c0, c1, c2⟩ := (hs.over hB).three (k := k) (by omega)
      obtain ⟨b', off', p', rfl, hb', hp', d0, d1, d2⟩ := (ht.over hB).three (k := k) (by omega)
      obtain rfl : p = p' := by rw [hp] at hp'; injection hp'
      have hz := hB.size
      have g0 : b < wr.heap.size := by omega
      have g1 : b < wr.heap.size + 1 := by omega
      have g2 : b' < wr.heap.size := by omega
      have g3 : b' < wr.heap.size + 1 := by omega
      clear hp hp' hs ht hl
      go_wp2_with fail
      go_region_held3 (fun w' => w'.cell? ⟨b, off + k * 3, none⟩ = some (.int .i64 p.1) ∧ w'.cell? ⟨b, off + k * 3 + 1, none⟩ = some (.int .i64 p.2.1) ∧ w'.cell? ⟨b, off + k * 3 + 2, none⟩ = some (.int .i64 p.2.2) ∧
          w'.cell? ⟨b', off' + k * 3, none⟩ = some (.int .i64 p.1) ∧ w'.cell? ⟨b', off' + k * 3 + 1, none⟩ = some (.int .i64 p.2.1) ∧ w'.cell? ⟨b', off' + k * 3 + 2, none⟩ = some (.int .i64 p.2.2)) (go_keep)
        (first | (go_at_call 30; refine (eqPart_same _ _ _ _).mono ?_; rintro e w' ⟨rfl, rfl⟩))
      go_goals
      go_wp2
      go_roundw
      case rel => exact ⟨k + 1, by omega, by go_num, by repeat' (first | exact Below.refl _ _ | assumption | refine Below.alloc ?_ (by first | omega | (simp; done) | (simp; omega)) _ | refine Below.drew ?_ | refine Below.setCell ?_ (by first | omega | (simp; done) | (simp; omega)) _)⟩
      case measure => simp [intOf]; omega
    · obtain rfl : k = n := by omega
      go_wp2
      go_ret
      exact ⟨rfl, hB⟩
end Go.Proofs.YtibcbhphkafgjaaDoor
