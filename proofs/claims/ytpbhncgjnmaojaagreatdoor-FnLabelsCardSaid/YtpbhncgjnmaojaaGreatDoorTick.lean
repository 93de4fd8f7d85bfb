/- Walks of the heights of ticks (layer 8), and the law on them. No condition. -/
import Derived.Test.YtpbhncgjnmaojaaGreatDoorErr2
namespace Go.Proofs.YtpbhncgjnmaojaaGreatDoor
open Go.RowKit
set_option linter.unusedVariables false
def heightOf (n : Int) : Int := if n % 1000 = 0 then 4 else if n % 500 = 0 then 3 else if n % 100 = 0 then 2 else if n % 50 = 0 then 1 else 0
theorem heightOf_bd (n : Int) : 0 ≤ heightOf n ∧ heightOf n ≤ 4 := by
  unfold heightOf
  split
  · omega
  · split
    · omega
    · split
      · omega
      · split <;> omega
set_option maxHeartbeats 400000 in
theorem l08Height_any (n : Int) (w : World) (h1 : 1000 ≤ n) (h2 : n ≤ 9999) :
    Calls Tryz.prog 54 #[.int .i64 n] w fun e w' => e = .returned (.int .i64 (heightOf n)) ∧ w.alloc (.cells #[.int .i64 1000, .int .i64 500, .int .i64 100, .int .i64 50] 2) = w' := by
  go_enter Tryz.func54, Tryz.ntmps54
  go_wp2
  go_loop [4] (fun i => ∃ k : Nat, k ≤ 4 ∧ i = .int .i64 k ∧ (1 ≤ k → ¬ n % 1000 = 0) ∧ (2 ≤ k → ¬ n % 500 = 0) ∧ (3 ≤ k → ¬ n % 100 = 0) ∧ (4 ≤ k → ¬ n % 50 = 0)) (fun i => 4 - (intOf i).toNat)
  case atStart => exact ⟨0, by omega, rfl, by omega, by omega, by omega, by omega⟩
  case round =>
    obtain ⟨k, hk, rfl, g1, g2, g3, g4⟩ := hrel
    obtain rfl | rfl | rfl | rfl | rfl : k = 0 ∨ k = 1 ∨ k = 2 ∨ k = 3 ∨ k = 4 := by omega
    · clear g1 g2 g3 g4
      go_wp2
      · have hd : n % 1000 = 0 := beq_iff_eq.1 (by assumption)
        go_ret
        exact ⟨endInt (by simp [heightOf, hd]), rfl⟩
      · have hd : ¬ n % 1000 = 0 := beq_eq_false_iff_ne.1 (by assumption)
        go_round
        case rel => exact ⟨1, by omega, rfl, fun _ => hd, by omega, by omega, by omega⟩
        case measure => simp [intOf]
    · have G1 := Lib.hid (g1 (by omega))
      clear g1 g2 g3 g4
      go_wp2
      · have hd : n % 500 = 0 := beq_iff_eq.1 (by assumption)
        go_ret
        exact ⟨endInt (by simp [heightOf, hd, G1.out]), rfl⟩
      · have hd : ¬ n % 500 = 0 := beq_eq_false_iff_ne.1 (by assumption)
        go_round
        case rel => exact ⟨2, by omega, rfl, fun _ => G1.out, fun _ => hd, by omega, by omega⟩
        case measure => simp [intOf]
    · have G1 := Lib.hid (g1 (by omega))
      have G2 := Lib.hid (g2 (by omega))
      clear g1 g2 g3 g4
      go_wp2
      · have hd : n % 100 = 0 := beq_iff_eq.1 (by assumption)
        go_ret
        exact ⟨endInt (by simp [heightOf, hd, G1.out, G2.out]), rfl⟩
      · have hd : ¬ n % 100 = 0 := beq_eq_false_iff_ne.1 (by assumption)
        go_round
        case rel => exact ⟨3, by omega, rfl, fun _ => G1.out, fun _ => G2.out, fun _ => hd, by omega⟩
        case measure => simp [intOf]
    · have G1 := Lib.hid (g1 (by omega))
      have G2 := Lib.hid (g2 (by omega))
      have G3 := Lib.hid (g3 (by omega))
      clear g1 g2 g3 g4
      go_wp2
      · have hd : n % 50 = 0 := beq_iff_eq.1 (by assumption)
        go_ret
        exact ⟨endInt (by simp [heightOf, hd, G1.out, G2.out, G3.out]), rfl⟩
      · have hd : ¬ n % 50 = 0 := beq_eq_false_iff_ne.1 (by assumption)
        go_round
        case rel => exact ⟨4, by omega, rfl, fun _ => G1.out, fun _ => G2.out, fun _ => G3.out, fun _ => hd⟩
        case measure => simp [intOf]
    · have G1 := Lib.hid (g1 (by omega))
      have G2 := Lib.hid (g2 (by omega))
      have G3 := Lib.hid (g3 (by omega))
      have G4 := Lib.hid (g4 (by omega))
      clear g1 g2 g3 g4
      go_wp2
      go_ret
      exact ⟨endInt (by simp [heightOf, G1.out, G2.out, G3.out, G4.out]), rfl⟩

def rHeight (n : Int) : Int × Int := if inB n 1000 9999 = true then (heightOf n, 0) else (0, 2)
end Go.Proofs.YtpbhncgjnmaojaaGreatDoor
