/- Slices of int64 copied and compared; the scales of a rule (layer 11). No condition. -/
import Derived.Test.YtibcbhphkafgjaaDoorSl
import Derived.Test.YtibcbhphkafgjaaDoorErr2
import Derived.BigQuiet
import Derived.Deep.QuietTactic
namespace Go.Proofs.YtibcbhphkafgjaaDoor
open Go.RowKit
set_option linter.unusedVariables false

theorem infoI64' : (Tryd.prog.info? 2).map (fun i => (i.zero, i.size, i.bytes)) = some (some (.int .i64 0), 1, 8) := by kernel_rfl
theorem Sees.cellOf {w : World} {B : Nat} {A : Option Addr} {l : List Int} (hs : Sees w B A (l.map (Value.int .i64))) {k : Nat} (hk : k < l.length) :
    ∃ b off x, A = some ⟨b, off, none⟩ ∧ b < B ∧ l[k]? = some x ∧ w.cell? ⟨b, off + k, none⟩ = some (.int .i64 x) := by
  obtain ⟨b, off, e, hb, hcell⟩ := hs.addr (by rw [List.length_map]; omega)
  exact ⟨b, off, l[k], e, hb, List.getElem?_eq_getElem hk, hcell k _ (by rw [List.getElem?_map, List.getElem?_eq_getElem hk]; rfl)⟩
set_option maxHeartbeats 400000 in
theorem toInt64S_any (A : Option Addr) (n c : Nat) (l : List Int) (w : World) (B : Nat) (hB0 : B ≤ w.heap.size) (hl : l.length = n) (hn : n ≤ 1048576) (hs : Sees w B A (l.map (Value.int .i64))) :
    Calls Tryd.prog 34 #[.slice A n c] w fun e w' => e = .returned (.slice (some ⟨w.heap.size, 0, none⟩) n n) ∧ Full w' w.heap.size 2 (l.map (Value.int .i64)).toArray ∧ Below w.heap.size w w' := by
  obtain ⟨i0, hi, hz0, hz1, hz2⟩ := info_parts infoI64'
  have hmk := fun W => makeRow (P := Tryd.prog) 30 2 i0 _ Tryd.underlying30 hi hz0 n (by rw [hz2]; omega) (by omega) W
  rw [hz1] at hmk
  go_enter Tryd.func34, Tryd.ntmps34
  go_wp2
  go_loopw [4] (fun i wr => ∃ (k : Nat) (cs : Array Value), k ≤ n ∧ i = .int .i64 k ∧ Full wr w.heap.size 2 cs ∧ cs.size = n ∧ (∀ j, j < k → cs[j]? = (l.map (Value.int .i64))[j]?) ∧ Below w.heap.size w wr)
    (fun i _ => n - (intOf i).toNat)
  case atStart => exact ⟨0, _, Nat.zero_le _, rfl, Full.made _ _ _, by simp [size_madeCells], fun j hj => absurd hj (by omega), (Below.refl _ _).alloc (Nat.le_refl _) _⟩
  case round =>
    obtain ⟨k, cs, hk, rfl, hF, hsz, hcs, hB⟩ := hrel
    clear hmk hi hz0 hz1 hz2
    by_cases hlt : k < n
    · obtain ⟨b, off, x, rfl, hb, hx, c0⟩ := (hs.over (hB.mono hB0)).cellOf (k := k) (by omega)
      obtain ⟨v0, e0⟩ := hF.some_ (i := k) (by omega)
      have f0 := hF.free k
      have hne : b ≠ w.heap.size := by omega
      have hin := hF.inside
      have Hx := Lib.hid hx
      have Hcs := Lib.hid hcs
      have Hsz := Lib.hid hsz
      clear hx hcs hsz hl hs
      go_wp2
      go_roundw
      case rel =>
        refine ⟨k + 1, cs.setIfInBounds k (.int .i64 x), by omega, by go_num, hF.put _ _, by simp [Hsz.out], fun j hj => ?_, Below.setCell hB (Nat.le_refl _) _⟩
        rw [Array.getElem?_setIfInBounds]
        by_cases h : k = j
        · subst h
          rw [if_pos rfl, if_pos (by rw [Hsz.out]; exact hlt), List.getElem?_map, Hx.out]
          rfl
        · rw [if_neg h]
          exact Hcs.out j (by omega)
      case measure => simp [intOf]; omega
    · obtain rfl : k = n := by omega
      go_wp2
      go_ret
      have e := cells_all (xs := l.map (Value.int .i64)) (by rw [hsz, List.length_map, hl]) (fun j hj => hcs j (by rw [List.length_map, hl] at hj; omega))
      subst e
      exact ⟨rfl, hF, hB⟩
set_option maxHeartbeats 400000 in
theorem eqInt64S_same (A B : Option Addr) (n c d : Nat) (l : List Int) (w : World) (N1 N2 : Nat) (hl : l.length = n) (hn : n ≤ 9223372036854775807) (hs : Sees w N1 A (l.map (Value.int .i64))) (ht : Sees w N2 B (l.map (Value.int .i64))) :
    Calls Tryd.prog 38 #[.slice A n c, .slice B n d] w fun e w' => e = .returned (.bool true) ∧ ∃ q, w' = w.drewN q := by
  go_enter Tryd.func38, Tryd.ntmps38
  go_wp2
  go_loopw [5] (fun i wr => ∃ k q : Nat, k ≤ n ∧ i = .int .i64 k ∧ wr = w.drewN q) (fun i _ => n - (intOf i).toNat)
  case atStart => exact ⟨0, 0, Nat.zero_le _, rfl, rfl⟩
  case round =>
    obtain ⟨k, q, hk, rfl, rfl⟩ := hrel
    by_cases hlt : k < n
    · obtain ⟨b, off, x, rfl, hb, hx, c0⟩ := hs.cellOf (k := k) (by omega)
      obtain ⟨b', off', x', rfl, hb', hx', d0⟩ := ht.cellOf (k := k) (by omega)
      obtain rfl : x = x' := by rw [hx] at hx'; injection hx'
      have i0 : (k : Int) < (n : Int) := by omega
      clear hx hx' hs ht hl
      go_wp2_with fail
      go_quiet (fail)
      go_wp2
      go_roundw
      case rel => exact ⟨k + 1, q + nq, by omega, by go_num, rfl⟩
      case measure => simp [intOf]; omega
    · obtain rfl : k = n := by omega
      go_wp2
      go_ret
      exact ⟨rfl, q, rfl⟩

theorem belowOf {B : Nat} {w : World} (q : Nat) : Below B w (w.drewN q) := belowDraws (Below.refl _ _) q
/-- the scales of a part of a rule -/
def goodTo (l : List Int) : Nat → Bool
  | 0 => true
  | k + 1 => goodTo l k && (errScaleB (l.getD k 0) && !decide (l.getD k 0 ∈ l.take k))
def scalesB (l : List Int) : Bool := goodTo l l.length && inB (l.length : Int) 1 6
theorem goodTo_no {l : List Int} {k : Nat} (h : goodTo l k = false) : ∀ j, k ≤ j → goodTo l j = false
  | 0, hj => by rwa [show k = 0 by omega] at h
  | j + 1, hj => by
    by_cases hk : k = j + 1
    · rw [← hk]; exact h
    · rw [goodTo, goodTo_no h j (by omega)]; rfl
theorem scalesB_no {l : List Int} {k : Nat} (hk : k ≤ l.length) (h : goodTo l k = false) : scalesB l = false := by
  rw [scalesB, goodTo_no h _ hk]; rfl
theorem goodTo_step {l : List Int} {k : Nat} {x : Int} (hx : l[k]? = some x) : goodTo l (k + 1) = (goodTo l k && (errScaleB x && !decide (x ∈ l.take k))) := by
  simp [goodTo, List.getD, hx]
theorem goodTo_bad1 {l : List Int} {k : Nat} {x : Int} (hx : l[k]? = some x) (h : errScaleB x = false) : goodTo l (k + 1) = false := by simp [goodTo_step hx, h]
theorem goodTo_bad2 {l : List Int} {k : Nat} {x : Int} (hx : l[k]? = some x) (h : x ∈ l.take k) : goodTo l (k + 1) = false := by simp [goodTo_step hx, h]
theorem goodTo_ok {l : List Int} {k : Nat} {x : Int} (hx : l[k]? = some x) (hg : goodTo l k = true) (h1 : errScaleB x = true) (h2 : ¬ x ∈ l.take k) : goodTo l (k + 1) = true := by simp [goodTo_step hx, h1, h2, hg]
set_option maxHeartbeats 400000 in
theorem l01Has_any (A : Option Addr) (n c : Nat) (l : List Int) (x : Int) (w : World) (B : Nat) (hl : l.length = n) (hn : n ≤ 9223372036854775807) (hs : Sees w B A (l.map (Value.int .i64))) :
    Calls Tryd.prog 69 #[.slice A n c, .int .i64 x] w fun e w' => e = .returned (.bool (decide (x ∈ l))) ∧ w = w' := by
  go_enter Tryd.func69, Tryd.ntmps69
  go_wp2
  go_loop [5] (fun i => ∃ k : Nat, k ≤ n ∧ i = .int .i64 k ∧ ¬ x ∈ l.take k) (fun i => n - (intOf i).toNat)
  case atStart => exact ⟨0, Nat.zero_le _, rfl, by simp⟩
  case round =>
    obtain ⟨k, hk, rfl, hf⟩ := hrel
    have Hf := Lib.hid hf
    have Hl := Lib.hid hl
    clear hf
    by_cases hlt : k < n
    · obtain ⟨b, off, y, rfl, hb, hp, c0⟩ := hs.cellOf (k := k) (by omega)
      have Hp := Lib.hid hp
      clear hp hs hl
      by_cases hx : y = x
      · have Hr := Lib.hid (show decide (x ∈ l) = true from decide_eq_true (by rw [← hx]; exact List.mem_of_getElem? Hp.out))
        subst hx
        go_wp2
        go_ret
        exact ⟨endBool Hr.out.symm, rfl⟩
      · have Hn := Lib.hid (show ¬ x ∈ l.take (k + 1) by
          rw [List.take_add_one, Hp.out]
          simp only [Option.toList, List.mem_append, List.mem_singleton, not_or]
          exact ⟨Hf.out, fun h => hx h.symm⟩)
        have t : (y == x) = false := by simpa using hx
        go_wp2
        go_round
        case rel => exact ⟨k + 1, by omega, by go_num, Hn.out⟩
        case measure => simp [intOf]; omega
    · obtain rfl : k = n := by omega
      have Hr := Lib.hid (show decide (x ∈ l) = false from decide_eq_false (by have := Hf.out; rwa [List.take_of_length_le (by omega)] at this))
      clear hl
      go_wp2
      go_ret
      exact ⟨endBool Hr.out.symm, rfl⟩
end Go.Proofs.YtibcbhphkafgjaaDoor
