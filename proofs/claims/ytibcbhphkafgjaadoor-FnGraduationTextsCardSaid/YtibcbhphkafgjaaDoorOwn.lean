/- The laws' marks on slices that a call owns, and their second reading. No condition. -/
import Derived.Test.YtibcbhphkafgjaaDoorOwn0
import Derived.Test.YtibcbhphkafgjaaDoorRule
namespace Go.Proofs.YtibcbhphkafgjaaDoor
open Go.RowKit
set_option linter.unusedVariables false
set_option linter.unusedSimpArgs false

theorem markEnd {cs : Array Value} {k m : Nat} (hk : k < m) (hs : m ≤ cs.size) (h : ∀ j, j < k → cs[j]? = (markVals m)[j]?) : ∀ j, j < k + 1 → (cs.setIfInBounds k (.int .i64 (1 + (k : Int))))[j]? = (markVals m)[j]? := by
  intro j hj
  rw [Array.getElem?_setIfInBounds]
  split
  · rename_i e
    subst e
    rw [if_pos (by omega), markVals_at hk]
  · exact h j (by omega)
set_option maxRecDepth 100000 in
set_option maxHeartbeats 2000000 in
theorem markPartS_own (base n : Nat) (v : Value) (xs : List Value) (w : World) (hn : n ≤ 1048576) (hown : w.ownsRow base 50 3 v n xs) :
    Calls Tryd.prog 19 #[v, .int .i64 1] w fun e w' => e = .returned (.int .i64 (1 + 3 * (n : Int))) ∧ w'.ownsRow base 50 3 v n (markVals (n * 3)) ∧ w.grownBy w' v.ownBlock := by
  rcases ownRow hown with ⟨rfl, rfl, rfl⟩ | ⟨g, cap, cur, rfl, hb, hF0, hnc, hcm, hsz0, -⟩
  · clear hown
    go_enter Tryd.func19, Tryd.ntmps19
    go_wp2
    go_loopw [1, 5] (fun q i wr => i = .int .i64 0 ∧ q = .int .i64 1 ∧ w = wr) (fun _ i _ => 0)
    case atStart => exact ⟨rfl, rfl, rfl⟩
    case round =>
      obtain ⟨rfl, rfl, rfl⟩ := hrel
      go_wp2
      go_ret
      exact ⟨rfl, World.ownsRow_nil w base _ _, grownRefl _ _⟩
  · unfold maxLen at hcm
    have hcn : n * 3 ≤ cap * 3 := Nat.mul_le_mul_right _ hnc
    clear hown
    go_enter Tryd.func19, Tryd.ntmps19
    go_wp2
    go_loopw [1, 5] (fun q i wr => ∃ (k : Nat) (cs : Array Value), k ≤ n ∧ i = .int .i64 k ∧ q = .int .i64 (1 + 3 * (k : Int)) ∧ Full wr g 50 cs ∧ cs.size = cap * 3 ∧ (∀ j, j < k * 3 → cs[j]? = (markVals (n * 3))[j]?) ∧ w.grownBy wr (some g)) (fun _ i _ => n - (intOf i).toNat)
    case atStart => exact ⟨0, cur, Nat.zero_le _, rfl, rfl, hF0, hsz0, fun j hj => absurd hj (by omega), grownRefl _ _⟩
    case round =>
      obtain ⟨k, cs, hk, rfl, rfl, hF, hsz, hcs, hg⟩ := hrel
      have hin := hF.inside
      by_cases hlt : k < n
      · obtain ⟨v0, e0⟩ := hF.some_ (i := k * 3) (by omega)
        have f0 := hF.free (k * 3)
        obtain ⟨v1, e1⟩ := hF.some_ (i := k * 3 + 1) (by omega)
        have f1 := hF.free (k * 3 + 1)
        obtain ⟨v2, e2⟩ := hF.some_ (i := k * 3 + 2) (by omega)
        have f2 := hF.free (k * 3 + 2)

        have Hsz := Lib.hid hsz
        have Hcs := Lib.hid hcs
        have i0 : (0 : Int) ≤ (k : Int) := by omega
        have i1 : (k : Int) < (n : Int) := by omega
        clear hsz hcs hsz0
        go_wp2
        go_roundw
        case rel =>
          have hsz := Hsz.out
          have hcs := Hcs.out
          refine ⟨k + 1, put3 cs k (.int .i64 (1 + 3 * (k : Int))) (.int .i64 (1 + 3 * (k : Int) + 1)) (.int .i64 (1 + 3 * (k : Int) + 1 + 1)), by omega, by go_num, congrArg (Value.int .i64) (by omega), ((hF.put _ _).put _ _).put _ _, by rw [put3_size]; exact hsz, ?_, grownPut (grownPut (grownPut hg))⟩
          intro j hj
          have m1 := markEnd (m := n * 3) (k := k * 3) (by omega) (by omega) hcs
          have m2 := markEnd (m := n * 3) (k := k * 3 + 1) (by omega) (by rw [Array.size_setIfInBounds]; omega) m1
          have m3 := markEnd (m := n * 3) (k := k * 3 + 2) (by omega) (by rw [Array.size_setIfInBounds, Array.size_setIfInBounds]; omega) m2
          rw [show (1 + ((k * 3 : Nat) : Int)) = 1 + 3 * (k : Int) by omega, show (1 + ((k * 3 + 1 : Nat) : Int)) = 1 + 3 * (k : Int) + 1 by omega, show (1 + ((k * 3 + 2 : Nat) : Int)) = 1 + 3 * (k : Int) + 1 + 1 by omega] at m3
          exact m3 j (by omega)
        case measure => simp [intOf]; omega
      · obtain rfl : k = n := by omega
        have HO := Lib.hid (ownMake (base := base) (n := k) (cap := cap) (size := 3) hb hF hnc (by unfold maxLen; omega) hsz (markVals_length _) hcs)
        clear hsz hcs hsz0
        go_wp2
        go_ret
        exact ⟨endInt (by omega), HO.out, hg⟩
set_option maxRecDepth 100000 in
set_option maxHeartbeats 2000000 in
theorem heldPartS_seen (n c B : Nat) (A : Option Addr) (w : World) (hn : n ≤ 1048576) (hs : Sees w B A (markVals (n * 3))) :
    Calls Tryd.prog 20 #[.slice A n c, .int .i64 1] w fun e w' => e = .returned (.int .i64 (1 + 3 * (n : Int))) ∧ w = w' := by
  go_enter Tryd.func20, Tryd.ntmps20
  go_wp2
  go_loop [1, 5] (fun q i => ∃ k : Nat, k ≤ n ∧ i = .int .i64 k ∧ q = .int .i64 (1 + 3 * (k : Int))) (fun _ i => n - (intOf i).toNat)
  case atStart => exact ⟨0, Nat.zero_le _, rfl, rfl⟩
  case round =>
    obtain ⟨k, hk, rfl, rfl⟩ := hrel
    by_cases hlt : k < n
    · obtain ⟨b, off, hA, hb, hc0⟩ := hs (k * 3) _ (markVals_at (m := n * 3) (j := k * 3) (by omega))
      obtain ⟨b1, off1, hA1, -, hc1⟩ := hs (k * 3 + 1) _ (markVals_at (m := n * 3) (j := k * 3 + 1) (by omega))
      obtain ⟨b2, off2, hA2, -, hc2⟩ := hs (k * 3 + 2) _ (markVals_at (m := n * 3) (j := k * 3 + 2) (by omega))
      subst hA
      injection hA1 with hA1
      injection hA1 with x1 y1
      subst x1 y1
      injection hA2 with hA2
      injection hA2 with x2 y2
      subst x2 y2
      have d0 : w.cell? ⟨b, off + k * 3, none⟩ = some (.int .i64 (1 + 3 * (k : Int))) := by rw [hc0]; simp; omega
      have d1 : w.cell? ⟨b, off + k * 3 + 1, none⟩ = some (.int .i64 (1 + 3 * (k : Int) + 1)) := by rw [Nat.add_assoc, hc1]; simp; omega
      have d2 : w.cell? ⟨b, off + k * 3 + 2, none⟩ = some (.int .i64 (1 + 3 * (k : Int) + 1 + 1)) := by rw [Nat.add_assoc, hc2]; simp; omega
      clear hc0 hc1 hc2
      have i0 : (0 : Int) ≤ (k : Int) := by omega
      have i1 : (k : Int) < (n : Int) := by omega
      clear hs
      go_wp2
      go_round
      case rel => exact ⟨k + 1, by omega, by go_num, by exact congrArg (Value.int .i64) (by omega)⟩
      case measure => simp [intOf]; omega
    · obtain rfl : k = n := by omega
      clear hs
      go_wp2
      go_ret
      exact ⟨endInt (by omega), rfl⟩
/-- a call that gives a slice of its own, and a code -/
def GivesS (T : TypeId) (size n : Nat) (xs : List Value) (code : Int) (w : World) (e : Ending) (w' : World) : Prop := ∃ v, e = .returned (.tuple #[v, .int .i64 code]) ∧ w'.ownsRow w.heap.size T size v n xs ∧ Below w.heap.size w w'
theorem ownNo {x : Value} {g : Nat} (h : ∀ k, x.ownBlock = some k → k ≠ g) : x.ownBlock = none ∨ x.ownBlock ≠ some g := by
  cases hx : x.ownBlock with
  | none => exact .inl rfl
  | some k => exact .inr (fun e => by injection e with e; exact h k hx e)
theorem ownNo2 {x y : Value} {a b : Nat} (h : ∀ k, x.ownBlock = some k → k < a) (h2 : ∀ k, y.ownBlock = some k → b ≤ k) (hab : a ≤ b) : x.ownBlock = none ∨ x.ownBlock ≠ y.ownBlock := by
  cases hx : x.ownBlock with
  | none => exact .inl rfl
  | some k => exact .inr (fun e => by have := h k hx; have := h2 k e.symm; omega)
theorem eqInt64S_below (A B : Option Addr) (n c d : Nat) (l : List Int) (w : World) (hl : l.length = n) (hn : n ≤ 1048576) (hs : Sees w w.heap.size A (l.map (Value.int .i64))) (ht : Sees w w.heap.size B (l.map (Value.int .i64))) :
    Calls Tryd.prog 38 #[.slice A n c, .slice B n d] w fun e w' => e = .returned (.bool true) ∧ Below w.heap.size w w' :=
  (eqInt64S_same A B n c d l w _ _ hl (by omega) hs ht).mono fun _ _ ⟨he, q, hq⟩ => ⟨he, by rw [hq]; exact belowDraws (Below.refl _ _) q⟩
end Go.Proofs.YtibcbhphkafgjaaDoor
