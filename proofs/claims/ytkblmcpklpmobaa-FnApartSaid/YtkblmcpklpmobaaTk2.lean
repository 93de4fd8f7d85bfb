/- Ticks (layer 8): TicksBetween, NearestTick. No condition. -/
import Derived.Test.YtkblmcpklpmobaaTk
namespace Go.Proofs.Ytkblmcpklpmobaa
open Go.RowKit
set_option linter.unusedVariables false

theorem ckT_zero {l : List (Int × Int × Int)} {ys : List Int} (h : ckT l ys = 0) : l.length ≤ 150 ∧ (∀ y ∈ ys, isV y = true) ∧ ∀ p ∈ l, -1000000000000 ≤ p.2.1 ∧ p.2.1 ≤ 1000000000000 := by
  unfold ckT at h
  split at h
  · cases h
  · split at h
    · rename_i h1 h2
      simp only [Bool.and_eq_true, placesV, List.all_eq_true] at h2
      exact ⟨by omega, h2.1, fun p hp => inB_iff.1 (h2.2 p hp)⟩
    · cases h
theorem ckT_more (l : List (Int × Int × Int)) (ys : List Int) : ckT l ys = if ckT l [] = 0 ∧ ys.all isV = false then 2 else ckT l [] := by
  unfold ckT
  by_cases h : 150 < l.length
  · simp [h]
  · simp only [h, if_false]
    cases h1 : placesV l <;> cases h2 : ys.all isV <;> simp
theorem ckT_vals (l : List (Int × Int × Int)) (ys : List Int) : ckT l ys = 0 ∨ ckT l ys = 2 ∨ ckT l ys = 3 := by
  unfold ckT
  split
  · exact .inr (.inr rfl)
  · split
    · exact .inl rfl
    · exact .inr (.inl rfl)
def cntT (l : List (Int × Int × Int)) (a b : Int) : Int := ((l.filter fun t => inB t.2.1 a b).length : Int)
theorem cntT_next {l : List (Int × Int × Int)} {k : Nat} {p : Int × Int × Int} {a b : Int} (hp : l[k]? = some p) : cntT (l.take (k + 1)) a b = cntT (l.take k) a b + if inB p.2.1 a b = true then 1 else 0 := by
  unfold cntT
  rw [take_next hp, List.filter_append, List.length_append]
  by_cases h : inB p.2.1 a b = true
  · simp [h]
  · simp [h]
theorem cntT_bd (l : List (Int × Int × Int)) (a b : Int) : 0 ≤ cntT l a b ∧ cntT l a b ≤ l.length := by
  unfold cntT
  have := List.length_filter_le (fun t : Int × Int × Int => inB t.2.1 a b) l
  omega
def rBetween (l : List (Int × Int × Int)) (a b : Int) : Int × Int := if ckT l [a, b] = 0 then (cntT l a b, 0) else (0, ckT l [a, b])
set_option maxRecDepth 100000 in
set_option maxHeartbeats 1000000 in
theorem iTicksBetween_any (A : Option Addr) (n c : Nat) (l : List (Int × Int × Int)) (a b : Int) (w : World) (hl : l.length = n) (hn : n ≤ 1048576) (hs : Sees w w.heap.size A (cells3 l)) :
    Calls Try.prog 29 #[.slice A n c, .int .i64 a, .int .i64 b] w fun e w' => e = .returned (.tuple #[.int .i64 (rBetween l a b).1, .int .i64 (rBetween l a b).2]) ∧ Below w.heap.size w w' := by
  by_cases h0 : ckT l [a, b] = 0
  · have Hv := Lib.hid (show rBetween l a b = (cntT l a b, 0) by rw [rBetween, if_pos h0])
    have hle := (ckT_zero h0).1
    have H0 := Lib.hid h0
    clear h0
    go_enter Try.func29, Try.ntmps29
    go_wp2_with fail
    refine (checkTicks_any _ _ _ l _ [a, b] w.heap.size _ hl hn (hs.block (Nat.le_refl _) _) (by simp) (World.ownsRow_lit w #[.int .i64 a, .int .i64 b] 2 (Nat.le_refl _) (by unfold maxLen; omega) rfl) (by simp)).mono ?_
    rintro e w1 ⟨rfl, hb1⟩
    rw [H0.out]
    have b1 : Below w.heap.size w w1 := ((Below.refl _ _).alloc (Nat.le_refl _) _).trans hb1
    go_wp2_with fail
    go_loopw [9, 22] (fun u i wr => ∃ k : Nat, k ≤ n ∧ i = .int .i64 k ∧ u = .int .i64 (cntT (l.take k) a b) ∧ Below w.heap.size w wr) (fun _ i _ => n - (intOf i).toNat)
    case atStart => exact ⟨0, Nat.zero_le _, rfl, by simp [cntT], b1⟩
    case round =>
      obtain ⟨k, hk, rfl, rfl, hB⟩ := hrel
      have hbd := cntT_bd (l.take k) a b
      have hbl : (l.take k).length ≤ 150 := by rw [List.length_take]; omega
      have Hl := Lib.hid hl
      by_cases hlt : k < n
      · obtain ⟨b', off, p, rfl, hb, hp, c0, c1, c2⟩ := (hs.over hB).three (k := k) (by omega)
        have Hp := Lib.hid hp
        have hz := hB.size
        clear hp hs hl
        by_cases hv : inB p.2.1 a b = true
        · go_wp2_with (go_at_call 77; refine (within_any _ _ _ _).mono ?_; rintro e w' ⟨rfl, rfl⟩)
          go_roundw
          case rel => exact ⟨k + 1, by omega, by go_num, by rw [cntT_next Hp.out, if_pos hv], by repeat' (first | exact Below.refl _ _ | assumption | refine Below.alloc ?_ (by first | omega | (simp; done) | (simp; omega)) _ | refine Below.drew ?_ | refine Below.setCell ?_ (by first | omega | (simp; done) | (simp; omega)) _)⟩
          case measure => simp [intOf]; omega
        · have hv' : inB p.2.1 a b = false := by simpa using hv
          go_wp2_with (go_at_call 77; refine (within_any _ _ _ _).mono ?_; rintro e w' ⟨rfl, rfl⟩)
          go_roundw
          case rel => exact ⟨k + 1, by omega, by go_num, by rw [cntT_next Hp.out, if_neg hv, Int.add_zero], by repeat' (first | exact Below.refl _ _ | assumption | refine Below.alloc ?_ (by first | omega | (simp; done) | (simp; omega)) _ | refine Below.drew ?_ | refine Below.setCell ?_ (by first | omega | (simp; done) | (simp; omega)) _)⟩
          case measure => simp [intOf]; omega
      · obtain rfl : k = n := by omega
        have e := Lib.hid (show l.take k = l from List.take_of_length_le (by omega))
        clear hl hs
        go_wp2
        go_ret2
        exact ⟨endTwo (by rw [Hv.out, e.out]), hB⟩
  · have Hv := Lib.hid (show rBetween l a b = (0, ckT l [a, b]) by rw [rBetween, if_neg h0])
    have t0 : (ckT l [a, b] != 0) = true := by simpa using h0
    clear h0
    have Hl := Lib.hid hl
    clear hl
    go_enter Try.func29, Try.ntmps29
    go_wp2_with fail
    refine (checkTicks_any _ _ _ l _ [a, b] w.heap.size _ Hl.out hn (hs.block (Nat.le_refl _) _) (by simp) (World.ownsRow_lit w #[.int .i64 a, .int .i64 b] 2 (Nat.le_refl _) (by unfold maxLen; omega) rfl) (by simp)).mono ?_
    rintro e w1 ⟨rfl, hb1⟩
    go_wp2_with fail
    go_ret2
    exact ⟨endTwo Hv.out, ((Below.refl _ _).alloc (Nat.le_refl _) _).trans hb1⟩
set_option maxRecDepth 100000 in
set_option maxHeartbeats 1000000 in
theorem sTicksBetween_any (A : Option Addr) (n c : Nat) (l : List (Int × Int × Int)) (a b : Int) (w : World) (hl : l.length = n) (hn : n ≤ 1048576) (hs : Sees w w.heap.size A (cells3 l)) :
    Calls Try.prog 30 #[.slice A n c, .int .i64 a, .int .i64 b] w fun e w' => e = .returned (.tuple #[.int .i64 (rBetween l a b).1, .int .i64 (rBetween l a b).2]) ∧ Below w.heap.size w w' := by
  have hm := ckT_more l [a, b]
  have Hl0 := Lib.hid hl
  by_cases h0 : ckT l [] = 0
  · have hm2 : ckT l [a, b] = if [a, b].all isV = false then 2 else 0 := by rw [hm]; simp [h0]
    clear hm
    have hm := hm2
    clear hm2
    by_cases va : inB a (-1000000000000) 1000000000000 = true
    · by_cases vb : inB b (-1000000000000) 1000000000000 = true
      · have h1 : ckT l [a, b] = 0 := by rw [hm, if_neg (by simp [isV, va, vb])]
        have Hv := Lib.hid (show rBetween l a b = (cntT l a b, 0) by rw [rBetween, if_pos h1])
        have hle := (ckT_zero h1).1
        have b1 : Below w.heap.size w w := Below.refl _ _
        clear h1 hm
        go_enter Try.func30, Try.ntmps30
        go_wp2_with (first
          | (go_at_call 75; refine (l08Code_any _ _ _ l _ _ Hl0.out hn hs).mono ?_; rintro e w' ⟨rfl, rfl⟩)
          | (go_at_call 76; refine (l01Is_any _ _).mono ?_; rintro e w' ⟨rfl, rfl⟩))
        go_loopw [9, 10] (fun u i wr => ∃ k : Nat, k ≤ n ∧ i = .int .i64 k ∧ u = .int .i64 (cntT (l.take k) a b) ∧ Below w.heap.size w wr) (fun _ i _ => n - (intOf i).toNat)
        case atStart => exact ⟨0, Nat.zero_le _, rfl, by simp [cntT], b1⟩
        case round =>
          obtain ⟨k, hk, rfl, rfl, hB⟩ := hrel
          have hbd := cntT_bd (l.take k) a b
          have hbl : (l.take k).length ≤ 150 := by rw [List.length_take]; omega
          have Hl := Lib.hid hl
          by_cases hlt : k < n
          · obtain ⟨b', off, p, rfl, hb, hp, c0, c1, c2⟩ := (hs.over hB).three (k := k) (by omega)
            have Hp := Lib.hid hp
            have hz := hB.size
            clear hp hs hl
            by_cases hv : inB p.2.1 a b = true
            · go_wp2_with (go_at_call 68; refine (l01In_any _ _ _ _).mono ?_; rintro e w' ⟨rfl, rfl⟩)
              go_roundw
              case rel => exact ⟨k + 1, by omega, by go_num, by rw [cntT_next Hp.out, if_pos hv], by repeat' (first | exact Below.refl _ _ | assumption | refine Below.alloc ?_ (by first | omega | (simp; done) | (simp; omega)) _ | refine Below.drew ?_ | refine Below.setCell ?_ (by first | omega | (simp; done) | (simp; omega)) _)⟩
              case measure => simp [intOf]; omega
            · have hv' : inB p.2.1 a b = false := by simpa using hv
              go_wp2_with (go_at_call 68; refine (l01In_any _ _ _ _).mono ?_; rintro e w' ⟨rfl, rfl⟩)
              go_roundw
              case rel => exact ⟨k + 1, by omega, by go_num, by rw [cntT_next Hp.out, if_neg hv, Int.add_zero], by repeat' (first | exact Below.refl _ _ | assumption | refine Below.alloc ?_ (by first | omega | (simp; done) | (simp; omega)) _ | refine Below.drew ?_ | refine Below.setCell ?_ (by first | omega | (simp; done) | (simp; omega)) _)⟩
              case measure => simp [intOf]; omega
          · obtain rfl : k = n := by omega
            have e := Lib.hid (show l.take k = l from List.take_of_length_le (by omega))
            clear hl hs
            go_wp2
            go_ret2
            exact ⟨endTwo (by rw [Hv.out, e.out]), hB⟩

      · have h1 : ckT l [a, b] = 2 := by rw [hm, if_pos (by simp [isV, vb])]
        have Hv := Lib.hid (show rBetween l a b = (0, 2) by rw [rBetween, h1]; rfl)
        have vb' : inB b (-1000000000000) 1000000000000 = false := by simpa using vb
        clear h1 hm hl
        go_enter Try.func30, Try.ntmps30
        go_wp2_with (first
          | (go_at_call 75; refine (l08Code_any _ _ _ l _ _ Hl0.out hn hs).mono ?_; rintro e w' ⟨rfl, rfl⟩)
          | (go_at_call 76; refine (l01Is_any _ _).mono ?_; rintro e w' ⟨rfl, rfl⟩))
        go_ret2
        exact ⟨endTwo Hv.out, Below.refl _ _⟩
    · have h1 : ckT l [a, b] = 2 := by rw [hm, if_pos (by simp [isV, va])]
      have Hv := Lib.hid (show rBetween l a b = (0, 2) by rw [rBetween, h1]; rfl)
      have va' : inB a (-1000000000000) 1000000000000 = false := by simpa using va
      clear h1 hm hl
      go_enter Try.func30, Try.ntmps30
      go_wp2_with (first
        | (go_at_call 75; refine (l08Code_any _ _ _ l _ _ Hl0.out hn hs).mono ?_; rintro e w' ⟨rfl, rfl⟩)
        | (go_at_call 76; refine (l01Is_any _ _).mono ?_; rintro e w' ⟨rfl, rfl⟩))
      go_ret2
      exact ⟨endTwo Hv.out, Below.refl _ _⟩
  · have h1 : ckT l [a, b] = ckT l [] := by rw [hm, if_neg (by simp [h0])]
    have Hv := Lib.hid (show rBetween l a b = (0, ckT l []) by rw [rBetween, h1, if_neg h0])
    have t0 : (ckT l [] == 0) = false := by simpa using h0
    have t1 : (ckT l [] != 0) = true := by simpa using h0
    clear h0 h1 hm hl
    go_enter Try.func30, Try.ntmps30
    go_wp2_with (first
    | (go_at_call 75; refine (l08Code_any _ _ _ l _ _ Hl0.out hn hs).mono ?_; rintro e w' ⟨rfl, rfl⟩)
    | (go_at_call 76; refine (l01Is_any _ _).mono ?_; rintro e w' ⟨rfl, rfl⟩))
    go_ret2
    exact ⟨endTwo Hv.out, Below.refl _ _⟩
end Go.Proofs.Ytkblmcpklpmobaa
