/- Ticks (layer 8): NearestTick. No condition. -/
import Derived.Test.YtkblmcpklpmobaaTk2
namespace Go.Proofs.Ytkblmcpklpmobaa
open Go.RowKit
set_option linter.unusedVariables false

def dist (a b : Int) : Int := max (a - b) (-(a - b))
def plc (l : List (Int × Int × Int)) (i : Nat) : Int := (l.getD i (0, 0, 0)).2.1
theorem plc_at {l : List (Int × Int × Int)} {i : Nat} {p : Int × Int × Int} (h : l[i]? = some p) : plc l i = p.2.1 := by
  simp [plc, List.getD, h]
/-- the nearest of the first k -/
def nearUp (l : List (Int × Int × Int)) (x : Int) : Nat → Nat
  | 0 => 0
  | k + 1 => if dist (plc l k) x < dist (plc l (nearUp l x k)) x then k else nearUp l x k
theorem nearUp_le (l : List (Int × Int × Int)) (x : Int) : ∀ k, nearUp l x k ≤ k - 1
  | 0 => by simp [nearUp]
  | k + 1 => by
    have := nearUp_le l x k
    rw [nearUp]
    split <;> omega
def rNear (l : List (Int × Int × Int)) (x : Int) : Int × Int :=
  if ckT l [x] = 0 then (if l.length = 0 then (0, 4) else ((nearUp l x l.length : Int), 0)) else (0, ckT l [x])
set_option maxRecDepth 100000 in
set_option maxHeartbeats 2000000 in
theorem iNearestTick_any (A : Option Addr) (n c : Nat) (l : List (Int × Int × Int)) (x : Int) (w : World) (hl : l.length = n) (hn : n ≤ 1048576) (hs : Sees w w.heap.size A (cells3 l)) (hx : I64 x) :
    Calls Try.prog 26 #[.slice A n c, .int .i64 x] w fun e w' => e = .returned (.tuple #[.int .i64 (rNear l x).1, .int .i64 (rNear l x).2]) ∧ Below w.heap.size w w' := by
  have Hl0 := Lib.hid hl
  by_cases h0 : ckT l [x] = 0
  · obtain ⟨hle, hyv, hpl⟩ := ckT_zero h0
    have hxv := inB_iff.1 (hyv x (by simp))
    have H0 := Lib.hid h0
    clear hyv
    by_cases hz0 : l.length = 0
    · have Hv := Lib.hid (show rNear l x = (0, 4) by rw [rNear, if_pos h0, if_pos hz0])
      clear h0
      obtain rfl : n = 0 := by omega
      clear hl hz0
      go_enter Try.func26, Try.ntmps26
      go_wp2_with fail
      refine (checkTicks_any _ _ _ l _ [x] w.heap.size _ Hl0.out hn (hs.block (Nat.le_refl _) _) (by simp) (World.ownsRow_lit w #[.int .i64 x] 1 (Nat.le_refl _) (by unfold maxLen; omega) rfl) (by simp)).mono ?_
      rintro e w1 ⟨rfl, hb1⟩
      have b1 : Below w.heap.size w w1 := ((Below.refl _ _).alloc (Nat.le_refl _) _).trans hb1
      rw [H0.out]
      go_wp2_with fail
      go_ret2
      exact ⟨endTwo Hv.out, b1⟩
    · have Hv := Lib.hid (show rNear l x = ((nearUp l x l.length : Int), 0) by rw [rNear, if_pos h0, if_neg hz0])
      clear h0
      have hn0 : ((n : Int) == 0) = false := by simp; omega
      go_enter Try.func26, Try.ntmps26
      go_wp2_with fail
      refine (checkTicks_any _ _ _ l _ [x] w.heap.size _ Hl0.out hn (hs.block (Nat.le_refl _) _) (by simp) (World.ownsRow_lit w #[.int .i64 x] 1 (Nat.le_refl _) (by unfold maxLen; omega) rfl) (by simp)).mono ?_
      rintro e w1 ⟨rfl, hb1⟩
      have b1 : Below w.heap.size w w1 := ((Below.refl _ _).alloc (Nat.le_refl _) _).trans hb1
      rw [H0.out]
      go_wp2_with fail
      go_loopw [7, 22] (fun u i wr => ∃ k : Nat, k ≤ n ∧ i = .int .i64 k ∧ u = .int .i64 (nearUp l x k : Int) ∧ Below w.heap.size w wr) (fun _ i _ => n - (intOf i).toNat)
      case atStart => exact ⟨0, Nat.zero_le _, rfl, rfl, b1⟩
      case round =>
        obtain ⟨k, hk, rfl, rfl, hB⟩ := hrel
        have Hl := Lib.hid hl
        by_cases hlt : k < n
        · have hnb := nearUp_le l x k
          obtain ⟨b', off, p, rfl, hb, hp, c0, c1, c2⟩ := (hs.over hB).three (k := k) (by omega)
          obtain ⟨b2, off2, q, hA, hb', hq, d0, d1, d2⟩ := (hs.over hB).three (k := nearUp l x k) (by omega)
          injection hA with hA
          injection hA with hA1 hA2
          subst hA1 hA2
          have hz := hB.size
          have hpv := hpl p (List.mem_of_getElem? hp)
          have hqv := hpl q (List.mem_of_getElem? hq)
          have hbn : b' < wr.heap.size := by omega
          have hj0 : nearUp l x k < n := by omega
          have HS := Lib.hid (show nearUp l x (k + 1) = if dist p.2.1 x < dist q.2.1 x then k else nearUp l x k by rw [nearUp, plc_at hp, plc_at hq])
          unfold dist at HS
          have Hpl := Lib.hid hpl
          generalize nearUp l x k = j at *
          clear hp hq hs hl hpl
          by_cases hd : max (p.2.1 - x) (-(p.2.1 - x)) < max (q.2.1 - x) (-(q.2.1 - x))
          · have HS2 := Lib.hid (HS.out.trans (if_pos hd))
            have hd' : decide (max (p.2.1 - x) (-(p.2.1 - x)) < max (q.2.1 - x) (-(q.2.1 - x))) = true := by simpa using hd
            go_wp2_with fail
            go_quiet ((go_at_call 70; refine quietSame (distance_any _ _ _ ?_ ?_ ?_ ?_) <;> omega))
            go_wp2
            go_roundw
            case rel => exact ⟨k + 1, by omega, by go_num, by rw [HS2.out], belowDraws (hB.alloc hz _) nq⟩
            case measure => simp [intOf]; omega
          · have HS2 := Lib.hid (HS.out.trans (if_neg hd))
            have hd' : decide (max (p.2.1 - x) (-(p.2.1 - x)) < max (q.2.1 - x) (-(q.2.1 - x))) = false := by simpa using hd
            go_wp2_with fail
            go_quiet ((go_at_call 70; refine quietSame (distance_any _ _ _ ?_ ?_ ?_ ?_) <;> omega))
            go_wp2
            go_roundw
            case rel => exact ⟨k + 1, by omega, by go_num, by rw [HS2.out], belowDraws (hB.alloc hz _) nq⟩
            case measure => simp [intOf]; omega
        · obtain rfl : k = n := by omega
          clear hl hs
          go_wp2
          go_ret2
          exact ⟨endTwo (by rw [Hv.out, Hl.out]), hB⟩
  · have Hv := Lib.hid (show rNear l x = (0, ckT l [x]) by rw [rNear, if_neg h0])
    have t0 : (ckT l [x] != 0) = true := by simpa using h0
    clear h0 hl
    go_enter Try.func26, Try.ntmps26
    go_wp2_with fail
    refine (checkTicks_any _ _ _ l _ [x] w.heap.size _ Hl0.out hn (hs.block (Nat.le_refl _) _) (by simp) (World.ownsRow_lit w #[.int .i64 x] 1 (Nat.le_refl _) (by unfold maxLen; omega) rfl) (by simp)).mono ?_
    rintro e w1 ⟨rfl, hb1⟩
    have b1 : Below w.heap.size w w1 := ((Below.refl _ _).alloc (Nat.le_refl _) _).trans hb1
    go_wp2_with fail
    go_ret2
    exact ⟨endTwo Hv.out, b1⟩
set_option maxRecDepth 100000 in
set_option maxHeartbeats 2000000 in
theorem sNearestTick_any (A : Option Addr) (n c : Nat) (l : List (Int × Int × Int)) (x : Int) (w : World) (hl : l.length = n) (hn : n ≤ 1048576) (hs : Sees w w.heap.size A (cells3 l)) (hx : I64 x) :
    Calls Try.prog 27 #[.slice A n c, .int .i64 x] w fun e w' => e = .returned (.tuple #[.int .i64 (rNear l x).1, .int .i64 (rNear l x).2]) ∧ Below w.heap.size w w' := by
  have hm := ckT_more l [x]
  have Hl0 := Lib.hid hl
  have b1 : Below w.heap.size w w := Below.refl _ _
  by_cases h0 : ckT l [] = 0
  · have hm2 : ckT l [x] = if [x].all isV = false then 2 else 0 := by rw [hm]; simp [h0]
    clear hm
    by_cases va : inB x (-1000000000000) 1000000000000 = true
    · have h1 : ckT l [x] = 0 := by rw [hm2, if_neg (by simp [isV, va])]
      obtain ⟨hle, hyv, hpl⟩ := ckT_zero h1
      have hxv := inB_iff.1 va
      clear hyv hm2
      by_cases hz0 : l.length = 0
      · have Hv := Lib.hid (show rNear l x = (0, 4) by rw [rNear, if_pos h1, if_pos hz0])
        clear h1
        obtain rfl : n = 0 := by omega
        clear hl hz0
        go_enter Try.func27, Try.ntmps27
        go_wp2_with (first
          | (go_at_call 75; refine (l08Code_any _ _ _ l _ _ Hl0.out hn hs).mono ?_; rintro e w' ⟨rfl, rfl⟩)
          | (go_at_call 76; refine (l01Is_any _ _).mono ?_; rintro e w' ⟨rfl, rfl⟩))
        go_ret2
        exact ⟨endTwo Hv.out, b1⟩
      · have Hv := Lib.hid (show rNear l x = ((nearUp l x l.length : Int), 0) by rw [rNear, if_pos h1, if_neg hz0])
        clear h1
        have hn0 : ((n : Int) == 0) = false := by simp; omega
        go_enter Try.func27, Try.ntmps27
        go_wp2_with (first
          | (go_at_call 75; refine (l08Code_any _ _ _ l _ _ Hl0.out hn hs).mono ?_; rintro e w' ⟨rfl, rfl⟩)
          | (go_at_call 76; refine (l01Is_any _ _).mono ?_; rintro e w' ⟨rfl, rfl⟩))
        go_loopw [7, 8] (fun u i wr => ∃ k : Nat, k ≤ n ∧ i = .int .i64 k ∧ u = .int .i64 (nearUp l x k : Int) ∧ Below w.heap.size w wr) (fun _ i _ => n - (intOf i).toNat)
        case atStart => exact ⟨0, Nat.zero_le _, rfl, rfl, b1⟩
        case round =>
          obtain ⟨k, hk, rfl, rfl, hB⟩ := hrel
          have Hl := Lib.hid hl
          by_cases hlt : k < n
          · have hnb := nearUp_le l x k
            obtain ⟨b', off, p, rfl, hb, hp, c0, c1, c2⟩ := (hs.over hB).three (k := k) (by omega)
            obtain ⟨b2, off2, q, hA, hb', hq, d0, d1, d2⟩ := (hs.over hB).three (k := nearUp l x k) (by omega)
            injection hA with hA
            injection hA with hA1 hA2
            subst hA1 hA2
            have hz := hB.size
            have hpv := hpl p (List.mem_of_getElem? hp)
            have hqv := hpl q (List.mem_of_getElem? hq)
            have hbn : b' < wr.heap.size := by omega
            have hj0 : nearUp l x k < n := by omega
            have HS := Lib.hid (show nearUp l x (k + 1) = if dist p.2.1 x < dist q.2.1 x then k else nearUp l x k by rw [nearUp, plc_at hp, plc_at hq])
            unfold dist at HS
            have Hpl := Lib.hid hpl
            generalize nearUp l x k = j at *
            clear hp hq hs hl hpl
            by_cases hd : max (p.2.1 - x) (-(p.2.1 - x)) < max (q.2.1 - x) (-(q.2.1 - x))
            · have HS2 := Lib.hid (HS.out.trans (if_pos hd))
              have hd' : decide (max (p.2.1 - x) (-(p.2.1 - x)) < max (q.2.1 - x) (-(q.2.1 - x))) = true := by simpa using hd
              have q1 : IntKind.i64.wrap (p.2.1 - x) = p.2.1 - x := IntWalk.i64_in _ (by omega)
              have q2 : IntKind.i64.wrap (q.2.1 - x) = q.2.1 - x := IntWalk.i64_in _ (by omega)
              go_wp2_with fail
              go_quiet ((go_at_call 71; refine quietSame (l01Abs_any _ _ ?_ ?_) <;> omega))
              clear q1 q2; go_wp2
              go_roundw
              case rel => exact ⟨k + 1, by omega, by go_num, by rw [HS2.out], belowDraws hB nq⟩
              case measure => simp [intOf]; omega
            · have HS2 := Lib.hid (HS.out.trans (if_neg hd))
              have hd' : decide (max (p.2.1 - x) (-(p.2.1 - x)) < max (q.2.1 - x) (-(q.2.1 - x))) = false := by simpa using hd
              have q1 : IntKind.i64.wrap (p.2.1 - x) = p.2.1 - x := IntWalk.i64_in _ (by omega)
              have q2 : IntKind.i64.wrap (q.2.1 - x) = q.2.1 - x := IntWalk.i64_in _ (by omega)
              go_wp2_with fail
              go_quiet ((go_at_call 71; refine quietSame (l01Abs_any _ _ ?_ ?_) <;> omega))
              clear q1 q2; go_wp2
              go_roundw
              case rel => exact ⟨k + 1, by omega, by go_num, by rw [HS2.out], belowDraws hB nq⟩
              case measure => simp [intOf]; omega
          · obtain rfl : k = n := by omega
            clear hl hs
            go_wp2
            go_ret2
            exact ⟨endTwo (by rw [Hv.out, Hl.out]), hB⟩
    · have h1 : ckT l [x] = 2 := by rw [hm2, if_pos (by simp [isV, va])]
      have Hv := Lib.hid (show rNear l x = (0, 2) by rw [rNear, h1]; rfl)
      have va' : inB x (-1000000000000) 1000000000000 = false := by simpa using va
      clear h1 hm2 hl
      go_enter Try.func27, Try.ntmps27
      go_wp2_with (first
        | (go_at_call 75; refine (l08Code_any _ _ _ l _ _ Hl0.out hn hs).mono ?_; rintro e w' ⟨rfl, rfl⟩)
        | (go_at_call 76; refine (l01Is_any _ _).mono ?_; rintro e w' ⟨rfl, rfl⟩))
      go_ret2
      exact ⟨endTwo Hv.out, b1⟩
  · have h1 : ckT l [x] = ckT l [] := by rw [hm, if_neg (by simp [h0])]
    have Hv := Lib.hid (show rNear l x = (0, ckT l []) by rw [rNear, h1, if_neg h0])
    have t0 : (ckT l [] == 0) = false := by simpa using h0
    have t1 : (ckT l [] != 0) = true := by simpa using h0
    clear h0 h1 hm hl
    go_enter Try.func27, Try.ntmps27
    go_wp2_with (first
    | (go_at_call 75; refine (l08Code_any _ _ _ l _ _ Hl0.out hn hs).mono ?_; rintro e w' ⟨rfl, rfl⟩)
    | (go_at_call 76; refine (l01Is_any _ _).mono ?_; rintro e w' ⟨rfl, rfl⟩))
    go_ret2
    exact ⟨endTwo Hv.out, b1⟩
end Go.Proofs.Ytkblmcpklpmobaa
