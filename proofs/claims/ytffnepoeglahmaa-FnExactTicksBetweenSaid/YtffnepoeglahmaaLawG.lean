/- The law on IsGraduation; what a law's own helpers on sizes give. No condition. -/
import Derived.Test.YtffnepoeglahmaaGrad
namespace Go.Proofs.Ytffnepoeglahmaa
open Go.RowKit
set_option linter.unusedVariables false

set_option maxHeartbeats 400000 in
theorem szPartS_yes (A : Option Addr) (n c : Nat) (w : World) (hn : n ≤ 1048576) :
    Calls Try.prog 23 #[.slice A n c, .int .i64 1048576] w fun e w' => e = .returned (.int .i64 (1048576 - (n : Int))) ∧ w = w' := by
  go_enter Try.func23, Try.ntmps23
  go_wp2
  go_ret
  exact ⟨rfl, rfl⟩
set_option maxHeartbeats 400000 in
theorem szPartS_no (A : Option Addr) (n c : Nat) (w : World) (hn : 1048576 < n) (hm : n ≤ 9223372036854775807) :
    Calls Try.prog 23 #[.slice A n c, .int .i64 1048576] w fun e w' => e = .returned (.int .i64 (-1)) ∧ w = w' := by
  go_enter Try.func23, Try.ntmps23
  go_wp2
  go_ret
  exact ⟨rfl, rfl⟩
set_option maxHeartbeats 400000 in
theorem szTickS_yes (A : Option Addr) (n c : Nat) (w : World) (hn : n ≤ 1048576) :
    Calls Try.prog 34 #[.slice A n c, .int .i64 1048576] w fun e w' => e = .returned (.int .i64 (1048576 - (n : Int))) ∧ w = w' := by
  go_enter Try.func34, Try.ntmps34
  go_wp2
  go_ret
  exact ⟨rfl, rfl⟩
set_option maxHeartbeats 400000 in
theorem szTickS_no (A : Option Addr) (n c : Nat) (w : World) (hn : 1048576 < n) (hm : n ≤ 9223372036854775807) :
    Calls Try.prog 34 #[.slice A n c, .int .i64 1048576] w fun e w' => e = .returned (.int .i64 (-1)) ∧ w = w' := by
  go_enter Try.func34, Try.ntmps34
  go_wp2
  go_ret
  exact ⟨rfl, rfl⟩
set_option maxHeartbeats 1000000 in
theorem fnExactIsGraduation_walk (A : Option Addr) (n c : Nat) (l : List (Int × Int × Int)) (w : World) (hl : l.length = n) (_hc : n ≤ c) (hm : c ≤ maxLen) (hs : Sees w w.heap.size A (cells3 l)) (hr : I64s3 l) :
    Calls Try.prog 6 #[.slice A n c] w fun e w' => e = .returned (.bool true) ∧ Below w.heap.size w w' := by
  unfold maxLen at hm
  have Hl := Lib.hid hl
  clear hl
  by_cases hn : n ≤ 1048576
  · go_enter Try.func6, Try.ntmps6
    go_wp2_with (go_at_call 23; refine (szPartS_yes _ _ _ _ hn).mono ?_; rintro e w' ⟨rfl, rfl⟩)
    refine (toPartS_any _ _ _ l _ Hl.out hn hs).mono ?_
    rintro e w1 ⟨rfl, F1, b1⟩
    go_wp2_with fail
    refine (sIsGraduation_any (some ⟨w.heap.size, 0, none⟩) n n l w1 Hl.out hn (F1.sees) hr).mono ?_
    rintro e w2 ⟨rfl, b2⟩
    have B2 : Below w.heap.size w w2 := b1.trans (b2.mono b1.size)
    go_wp2_with fail
    refine (toPartS_any _ _ _ l _ Hl.out hn ((hs.over B2).wider B2.size)).mono ?_
    rintro e w3 ⟨rfl, F3, b3⟩
    have B3 : Below w.heap.size w w3 := B2.trans (b3.mono B2.size)
    go_wp2_with fail
    refine (iIsGraduation_any (some ⟨w2.heap.size, 0, none⟩) n n l w3 Hl.out hn (F3.sees) hr).mono ?_
    rintro e w4 ⟨rfl, b4⟩
    have B4 : Below w.heap.size w w4 := B3.trans (b4.mono B3.size)
    have F4 := F3.over b4 F3.inside
    go_wp2_with fail
    refine (toPartS_any _ _ _ l _ Hl.out hn ((hs.over B4).wider B4.size)).mono ?_
    rintro e w5 ⟨rfl, F5, b5⟩
    have B5 : Below w.heap.size w w5 := B4.trans (b5.mono B4.size)
    go_wp2_with fail
    refine (eqPartS_same _ _ _ _ _ l _ Hl.out hn (F4.over b5 F4.inside).sees F5.sees).mono ?_
    rintro e w6 ⟨rfl, b6⟩
    go_wp2_with fail
    go_ret
    exact ⟨rfl, B5.trans (b6.mono B5.size)⟩
  · go_enter Try.func6, Try.ntmps6
    go_wp2_with (go_at_call 23; refine (szPartS_no _ _ _ _ (by omega) (by omega)).mono ?_; rintro e w' ⟨rfl, rfl⟩)
    go_ret
    exact ⟨rfl, Below.refl _ _⟩
end Go.Proofs.Ytffnepoeglahmaa
