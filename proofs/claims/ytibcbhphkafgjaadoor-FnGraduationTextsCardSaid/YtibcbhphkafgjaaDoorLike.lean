/- The comparisons of the laws of words: slices alike. No condition. -/
import Derived.Test.YtibcbhphkafgjaaDoorOwn
import Derived.Test.YtibcbhphkafgjaaDoorMk2
namespace Go.Proofs.YtibcbhphkafgjaaDoor
open Go.RowKit
set_option linter.unusedVariables false
set_option linter.unusedSimpArgs false

set_option maxHeartbeats 400000 in
theorem big_small (A : Option Addr) (n c : Nat) (w : World) (hn : n ≤ 9223372036854775807) :
    Calls Tryd.prog 21 #[.slice A n c] w fun e w' => e = .returned (.bool (decide (4096 < n))) ∧ w = w' := by
  go_enter Tryd.func21, Tryd.ntmps21
  go_wp2
  go_ret
  exact ⟨endBool (by rw [decide_eq_decide]; omega), rfl⟩
set_option maxHeartbeats 1000000 in
theorem likeParts_same (A B : Option Addr) (n c d : Nat) (l : List (Int × Int × Int)) (w : World) (hl : l.length = n) (hn : n ≤ 1048576) (hs : Sees w w.heap.size A (cells3 l)) (ht : Sees w w.heap.size B (cells3 l)) :
    Calls Tryd.prog 24 #[.slice A n c, .slice B n d] w fun e w' => e = .returned (.bool true) ∧ Below w.heap.size w w' := by
  go_enter Tryd.func24, Tryd.ntmps24
  go_wp2
  go_loopw [5] (fun i wr => ∃ k q : Nat, k ≤ n ∧ i = .int .i64 k ∧ wr = w.drewN q) (fun i _ => n - (intOf i).toNat)
  case atStart => exact ⟨0, 0, Nat.zero_le _, rfl, rfl⟩
  case round =>
    obtain ⟨k, q, hk, rfl, rfl⟩ := hrel
    by_cases hlt : k < n
    · obtain ⟨b, off, x, rfl, hb, hx, c0, c1, c2⟩ := hs.three (k := k) (by omega)
      obtain ⟨b', off', x', rfl, hb', hx', d0, d1, d2⟩ := ht.three (k := k) (by omega)
      obtain rfl : x = x' := by rw [hx] at hx'; injection hx'
      have i0 : (k : Int) < (n : Int) := by omega
      clear hx hx' hs ht hl
      go_wp2_with fail
      go_quiet (fail)
      go_wp2
      go_roundw
      case rel => exact ⟨k + 1, q + nq, by omega, by go_num, rfl⟩
      case measure => simp [intOf]; omega
    · obtain rfl : k = n := by omega
      go_wp2
      go_ret
      exact ⟨rfl, belowDraws (Below.refl _ _) q⟩
end Go.Proofs.YtibcbhphkafgjaaDoor
