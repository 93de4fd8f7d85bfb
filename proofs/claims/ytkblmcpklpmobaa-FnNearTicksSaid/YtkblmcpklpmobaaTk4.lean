/- Ticks (layer 8): ClosestTicks. No condition. -/
import Derived.Test.YtkblmcpklpmobaaTk3
namespace Go.Proofs.Ytkblmcpklpmobaa
open Go.RowKit
set_option linter.unusedVariables false

/-- the closest pair so far, when i has been held against the m numbers behind it -/
def inTo (l : List (Int × Int × Int)) (i : Nat) (st : Nat × Nat) : Nat → Nat × Nat
  | 0 => st
  | m + 1 => if dist (plc l i) (plc l (i + 1 + m)) < dist (plc l (inTo l i st m).1) (plc l (inTo l i st m).2) then (i, i + 1 + m) else inTo l i st m
def outTo (l : List (Int × Int × Int)) : Nat → Nat × Nat
  | 0 => (0, 1)
  | i + 1 => inTo l i (outTo l i) (l.length - (i + 1))
theorem inTo_lt (l : List (Int × Int × Int)) (i n : Nat) (st : Nat × Nat) (h1 : st.1 < n) (h2 : st.2 < n) : ∀ m, i + m < n → (inTo l i st m).1 < n ∧ (inTo l i st m).2 < n
  | 0, _ => ⟨h1, h2⟩
  | m + 1, h => by
    have := inTo_lt l i n st h1 h2 m (by omega)
    rw [inTo]
    split
    · exact ⟨by omega, by omega⟩
    · exact this
theorem outTo_lt (l : List (Int × Int × Int)) (hl : 2 ≤ l.length) : ∀ i, i ≤ l.length → (outTo l i).1 < l.length ∧ (outTo l i).2 < l.length
  | 0, _ => ⟨by simp [outTo]; omega, by simp [outTo]; omega⟩
  | i + 1, h => by
    have := outTo_lt l hl i (by omega)
    rw [outTo]
    exact inTo_lt l i l.length _ this.1 this.2 _ (by omega)
def rClose (l : List (Int × Int × Int)) : Int × Int × Int :=
  if ckT l [] = 0 then (if l.length < 2 then (0, 0, 4) else (((outTo l l.length).1 : Int), ((outTo l l.length).2 : Int), 0)) else (0, 0, ckT l [])
theorem inTo_hit {l : List (Int × Int × Int)} {i m : Nat} {st : Nat × Nat} (h : dist (plc l i) (plc l (i + 1 + m)) < dist (plc l (inTo l i st m).1) (plc l (inTo l i st m).2)) : inTo l i st (m + 1) = (i, i + 1 + m) := by rw [inTo, if_pos h]
theorem inTo_miss {l : List (Int × Int × Int)} {i m : Nat} {st : Nat × Nat} (h : ¬ dist (plc l i) (plc l (i + 1 + m)) < dist (plc l (inTo l i st m).1) (plc l (inTo l i st m).2)) : inTo l i st (m + 1) = inTo l i st m := by rw [inTo, if_neg h]
set_option maxRecDepth 100000 in
set_option maxHeartbeats 4000000 in
theorem iClosestTicks_any (A : Option Addr) (n c : Nat) (l : List (Int × Int × Int)) (w : World) (hl : l.length = n) (hn : n ≤ 1048576) (hs : Sees w w.heap.size A (cells3 l)) :
    Calls Try.prog 32 #[.slice A n c] w fun e w' => e = .returned (.tuple #[.int .i64 (rClose l).1, .int .i64 (rClose l).2.1, .int .i64 (rClose l).2.2]) ∧ Below w.heap.size w w' := by
  have Hl0 := Lib.hid hl
  by_cases h0 : ckT l [] = 0
  · obtain ⟨hle, _, hpl⟩ := ckT_zero h0
    have H0 := Lib.hid h0
    by_cases hz0 : l.length < 2
    · have Hv := Lib.hid (show rClose l = (0, 0, 4) by rw [rClose, if_pos h0, if_pos hz0])
      clear h0
      rw [hl] at hz0
      clear hl
      go_enter Try.func32, Try.ntmps32
      go_wp2_with fail
      refine (checkTicks_any _ _ _ l _ [] w.heap.size _ Hl0.out hn hs (Nat.le_refl _) (World.ownsRow_nil _ _ _ _) (by simp)).mono ?_
      rintro e w1 ⟨rfl, b1⟩
      rw [H0.out]
      go_wp2_with fail
      go_ret3
      exact ⟨endThree Hv.out, b1⟩
    · have Hv := Lib.hid (show rClose l = (((outTo l l.length).1 : Int), ((outTo l l.length).2 : Int), 0) by rw [rClose, if_pos h0, if_neg hz0])
      clear h0
      rw [hl] at hz0
      go_enter Try.func32, Try.ntmps32
      go_wp2_with fail
      refine (checkTicks_any _ _ _ l _ [] w.heap.size _ Hl0.out hn hs (Nat.le_refl _) (World.ownsRow_nil _ _ _ _) (by simp)).mono ?_
      rintro e w1 ⟨rfl, b1⟩
      rw [H0.out]
      go_wp2_with fail
      go_loopw [6, 7, 20] (fun u v i wr => ∃ j : Nat, j ≤ n ∧ i = .int .i64 j ∧ u = .int .i64 ((outTo l j).1 : Int) ∧ v = .int .i64 ((outTo l j).2 : Int) ∧ Below w.heap.size w wr) (fun _ _ i _ => n - (intOf i).toNat)
      case atStart => exact ⟨0, Nat.zero_le _, rfl, rfl, rfl, b1⟩
      case round =>
        obtain ⟨j, hj, rfl, rfl, rfl, hB⟩ := hrel
        by_cases hlt : j < n
        · have ho := outTo_lt l (by omega) j (by omega)
          obtain ⟨wo, rfl⟩ : ∃ wo : World, wo = wr := ⟨_, rfl⟩
          go_wp2_with fail
          go_loopw [6, 7, 9] (fun u v x wi => ∃ m : Nat, j + 1 + m ≤ n ∧ x = .int .i64 ((j + 1 + m : Nat) : Int) ∧ u = .int .i64 ((inTo l j (outTo l j) m).1 : Int) ∧ v = .int .i64 ((inTo l j (outTo l j) m).2 : Int) ∧ Below w.heap.size w wi) (fun _ _ x _ => n - (intOf x).toNat)
          case atStart => exact ⟨0, by omega, by go_num, rfl, rfl, hB⟩
          case round =>
            obtain ⟨m, hm, rfl, rfl, rfl, hB2⟩ := hrel
            by_cases hlt2 : j + 1 + m < n
            · have hi := inTo_lt l j n (outTo l j) (by omega) (by omega) m (by omega)
              have i1 := hi.1
              have i2 := hi.2
              clear hi ho
              obtain ⟨b', off, p, rfl, hb, hp, c0, c1, c2⟩ := (hs.over hB2).three (k := j) (by omega)
              obtain ⟨b2, off2, p2, hA, hb2, hp2, d0, d1, d2⟩ := (hs.over hB2).three (k := j + 1 + m) (by omega)
              injection hA with hA
              injection hA with hA1 hA2
              subst hA1 hA2
              obtain ⟨b3, off3, p3, hA3, hb3, hp3, e0, e1, e2⟩ := (hs.over hB2).three (k := (inTo l j (outTo l j) m).1) (by omega)
              injection hA3 with hA3
              injection hA3 with hA31 hA32
              subst hA31 hA32
              obtain ⟨b4, off4, p4, hA4, hb4, hp4, f0, f1, f2⟩ := (hs.over hB2).three (k := (inTo l j (outTo l j) m).2) (by omega)
              injection hA4 with hA4
              injection hA4 with hA41 hA42
              subst hA41 hA42
              have hv3 := hpl p3 (List.mem_of_getElem? hp3)
              have hv4 := hpl p4 (List.mem_of_getElem? hp4)
              have E3 := plc_at hp3
              have E4 := plc_at hp4
              have hv1 := hpl p (List.mem_of_getElem? hp)
              have hv2 := hpl p2 (List.mem_of_getElem? hp2)
              have E1 := plc_at hp
              have E2 := plc_at hp2
              have Hpl := Lib.hid hpl
              have hh : (dist (plc l j) (plc l (j + 1 + m)) < dist (plc l (inTo l j (outTo l j) m).1) (plc l (inTo l j (outTo l j) m).2)) = (max (p.2.1 - p2.2.1) (-(p.2.1 - p2.2.1)) < max (p3.2.1 - p4.2.1) (-(p3.2.1 - p4.2.1))) := by rw [E1, E2, E3, E4]; rfl
              have HE1 := Lib.hid E1
              have HE2 := Lib.hid E2
              clear hp hp2 hp3 hp4 E3 E4 E1 E2 hs hl hpl
              by_cases hd : max (p.2.1 - p2.2.1) (-(p.2.1 - p2.2.1)) < max (p3.2.1 - p4.2.1) (-(p3.2.1 - p4.2.1))
              · have HQ := Lib.hid (inTo_hit (hh.mpr hd))
                have hd' : decide (max (p.2.1 - p2.2.1) (-(p.2.1 - p2.2.1)) < max (p3.2.1 - p4.2.1) (-(p3.2.1 - p4.2.1))) = true := by simpa using hd
                clear hh
                go_wp2_with fail
                go_quiet ((go_at_call 70; refine quietSame (distance_any _ _ _ ?_ ?_ ?_ ?_) <;> omega))
                
                go_wp2
                go_roundw
                case rel => exact ⟨m + 1, by omega, by go_num, by rw [HQ.out], by (rw [HQ.out]; try (dsimp only; go_num)), belowDraws hB2 nq⟩
                case measure => simp [intOf]; omega
              · have HQ := Lib.hid (inTo_miss (fun h => hd (hh.mp h)))
                have hd' : decide (max (p.2.1 - p2.2.1) (-(p.2.1 - p2.2.1)) < max (p3.2.1 - p4.2.1) (-(p3.2.1 - p4.2.1))) = false := by simpa using hd
                clear hh
                go_wp2_with fail
                go_quiet ((go_at_call 70; refine quietSame (distance_any _ _ _ ?_ ?_ ?_ ?_) <;> omega))
                
                go_wp2
                go_roundw
                case rel => exact ⟨m + 1, by omega, by go_num, by rw [HQ.out], by rw [HQ.out], belowDraws hB2 nq⟩
                case measure => simp [intOf]; omega
            · have HO := Lib.hid (show outTo l (j + 1) = inTo l j (outTo l j) m by rw [outTo, hl, show n - (j + 1) = m by omega])
              clear hl hs ho hpl
              go_wp2
              go_roundw
              case rel => exact ⟨j + 1, by omega, by go_num, by rw [HO.out], by rw [HO.out], hB2⟩
              case measure => simp [intOf]; omega
        · obtain rfl : j = n := by omega
          clear hs
          have Hl := Lib.hid hl
          clear hl
          go_wp2
          go_ret3
          exact ⟨endThree (by rw [Hv.out, Hl.out]), hB⟩

  · have Hv := Lib.hid (show rClose l = (0, 0, ckT l []) by rw [rClose, if_neg h0])
    have t0 : (ckT l [] != 0) = true := by simpa using h0
    clear h0 hl
    go_enter Try.func32, Try.ntmps32
    go_wp2_with fail
    refine (checkTicks_any _ _ _ l _ [] w.heap.size _ Hl0.out hn hs (Nat.le_refl _) (World.ownsRow_nil _ _ _ _) (by simp)).mono ?_
    rintro e w1 ⟨rfl, b1⟩
    go_wp2_with fail
    go_ret3
    exact ⟨endThree Hv.out, b1⟩
set_option maxRecDepth 100000 in
set_option maxHeartbeats 4000000 in
theorem sClosestTicks_any (A : Option Addr) (n c : Nat) (l : List (Int × Int × Int)) (w : World) (hl : l.length = n) (hn : n ≤ 1048576) (hs : Sees w w.heap.size A (cells3 l)) :
    Calls Try.prog 33 #[.slice A n c] w fun e w' => e = .returned (.tuple #[.int .i64 (rClose l).1, .int .i64 (rClose l).2.1, .int .i64 (rClose l).2.2]) ∧ Below w.heap.size w w' := by
  have Hl0 := Lib.hid hl
  have b0 : Below w.heap.size w w := Below.refl _ _
  by_cases h0 : ckT l [] = 0
  · obtain ⟨hle, _, hpl⟩ := ckT_zero h0
    by_cases hz0 : l.length < 2
    · have Hv := Lib.hid (show rClose l = (0, 0, 4) by rw [rClose, if_pos h0, if_pos hz0])
      rw [hl] at hz0
      clear hl
      go_enter Try.func33, Try.ntmps33
      go_wp2_with (go_at_call 75; refine (l08Code_any _ _ _ l _ _ Hl0.out hn hs).mono ?_; rintro e w' ⟨rfl, rfl⟩)
      go_ret3
      exact ⟨endThree Hv.out, b0⟩
    · have Hv := Lib.hid (show rClose l = (((outTo l l.length).1 : Int), ((outTo l l.length).2 : Int), 0) by rw [rClose, if_pos h0, if_neg hz0])
      rw [hl] at hz0
      obtain ⟨b', off, p0, rfl, hb0, hp0, c0, c1, c2⟩ := hs.three (k := 0) (by omega)
      obtain ⟨b2, off2, p20, hA, hb2, hp20, d0, d1, d2⟩ := hs.three (k := 1) (by omega)
      injection hA with hA
      injection hA with hA1 hA2
      subst hA1 hA2
      have hv1 := hpl p0 (List.mem_of_getElem? hp0)
      have hv2 := hpl p20 (List.mem_of_getElem? hp20)
      have E1 := Lib.hid (plc_at hp0)
      have E2 := Lib.hid (plc_at hp20)
      have q1 : IntKind.i64.wrap (p0.2.1 - p20.2.1) = p0.2.1 - p20.2.1 := IntWalk.i64_in _ (by omega)
      have z0 : (0 : Int) < (n : Int) := by omega
      have z1 : (1 : Int) < (n : Int) := by omega
      have Hpl := Lib.hid hpl
      clear hp0 hp20 hpl
      simp only [Nat.zero_mul, Nat.one_mul, Nat.add_zero] at c0 c1 c2 d0 d1 d2
      go_enter Try.func33, Try.ntmps33
      go_wp2_with (go_at_call 75; refine (l08Code_any _ _ _ l _ _ Hl0.out hn hs).mono ?_; rintro e w' ⟨rfl, rfl⟩)
      go_quiet ((go_at_call 71; refine quietSame (l01Abs_any _ _ ?_ ?_) <;> omega))
      have b1 : Below w.heap.size w (w.drewN nq) := belowDraws b0 nq
      have hpl := Hpl.out
      clear q1 c0 c1 c2 d0 d1 d2
      go_wp2_with fail
      go_loopw [6, 7, 8, 9] (fun u v z i wr => ∃ j : Nat, j ≤ n ∧ i = .int .i64 j ∧ u = .int .i64 ((outTo l j).1 : Int) ∧ v = .int .i64 ((outTo l j).2 : Int) ∧ z = .int .i64 (dist (plc l (outTo l j).1) (plc l (outTo l j).2)) ∧ Below w.heap.size w wr) (fun _ _ _ i _ => n - (intOf i).toNat)
      case atStart => exact ⟨0, Nat.zero_le _, rfl, rfl, rfl, by rw [outTo, E1.out, E2.out]; rfl, b1⟩
      case round =>
        obtain ⟨j, hj, rfl, rfl, rfl, rfl, hB⟩ := hrel
        by_cases hlt : j < n
        · have ho := outTo_lt l (by omega) j (by omega)
          obtain ⟨wo, rfl⟩ : ∃ wo : World, wo = wr := ⟨_, rfl⟩
          go_wp2_with fail
          go_loopw [6, 7, 8, 10] (fun u v z x wi => ∃ m : Nat, j + 1 + m ≤ n ∧ x = .int .i64 ((j + 1 + m : Nat) : Int) ∧ u = .int .i64 ((inTo l j (outTo l j) m).1 : Int) ∧ v = .int .i64 ((inTo l j (outTo l j) m).2 : Int) ∧ z = .int .i64 (dist (plc l (inTo l j (outTo l j) m).1) (plc l (inTo l j (outTo l j) m).2)) ∧ Below w.heap.size w wi) (fun _ _ _ x _ => n - (intOf x).toNat)
          case atStart => exact ⟨0, by omega, by go_num, rfl, rfl, rfl, hB⟩
          case round =>
            obtain ⟨m, hm, rfl, rfl, rfl, rfl, hB2⟩ := hrel
            by_cases hlt2 : j + 1 + m < n
            · have hi := inTo_lt l j n (outTo l j) (by omega) (by omega) m (by omega)
              have i1 := hi.1
              have i2 := hi.2
              clear hi ho
              obtain ⟨b5, off5, p, hA5, hb, hp, c0, c1, c2⟩ := (hs.over hB2).three (k := j) (by omega)
              injection hA5 with hA5
              injection hA5 with hA51 hA52
              subst hA51 hA52
              obtain ⟨b2, off2, p2, hA, hb2, hp2, d0, d1, d2⟩ := (hs.over hB2).three (k := j + 1 + m) (by omega)
              injection hA with hA
              injection hA with hA1 hA2
              subst hA1 hA2
              have hv1 := hpl p (List.mem_of_getElem? hp)
              have hv2 := hpl p2 (List.mem_of_getElem? hp2)
              have E1 := plc_at hp
              have E2 := plc_at hp2
              have Hpl := Lib.hid hpl
              obtain ⟨D, hD⟩ : ∃ D, D = dist (plc l (inTo l j (outTo l j) m).1) (plc l (inTo l j (outTo l j) m).2) := ⟨_, rfl⟩
              rw [← hD]
              have hh : (dist (plc l j) (plc l (j + 1 + m)) < dist (plc l (inTo l j (outTo l j) m).1) (plc l (inTo l j (outTo l j) m).2)) = (max (p.2.1 - p2.2.1) (-(p.2.1 - p2.2.1)) < D) := by rw [E1, E2, hD]; rfl
              have hDE := Lib.hid hD
              clear hD
              have HE1 := Lib.hid E1
              have HE2 := Lib.hid E2
              clear hp hp2 E1 E2 hs hl hpl
              by_cases hd : max (p.2.1 - p2.2.1) (-(p.2.1 - p2.2.1)) < D
              · have HQ := Lib.hid (inTo_hit (hh.mpr hd))
                have hd' : decide (max (p.2.1 - p2.2.1) (-(p.2.1 - p2.2.1)) < D) = true := by simpa using hd
                clear hh
                have q1 : IntKind.i64.wrap (p.2.1 - p2.2.1) = p.2.1 - p2.2.1 := IntWalk.i64_in _ (by omega)
                go_wp2_with fail
                go_quiet ((go_at_call 71; refine quietSame (l01Abs_any _ _ ?_ ?_) <;> omega))
                clear q1
                go_wp2
                go_roundw
                case rel => exact ⟨m + 1, by omega, by go_num, by rw [HQ.out], by (rw [HQ.out]; try (dsimp only; go_num)), by rw [HQ.out, HE1.out, HE2.out]; rfl, belowDraws hB2 nq⟩
                case measure => simp [intOf]; omega
              · have HQ := Lib.hid (inTo_miss (fun h => hd (hh.mp h)))
                have hd' : decide (max (p.2.1 - p2.2.1) (-(p.2.1 - p2.2.1)) < D) = false := by simpa using hd
                clear hh
                have q1 : IntKind.i64.wrap (p.2.1 - p2.2.1) = p.2.1 - p2.2.1 := IntWalk.i64_in _ (by omega)
                go_wp2_with fail
                go_quiet ((go_at_call 71; refine quietSame (l01Abs_any _ _ ?_ ?_) <;> omega))
                clear q1
                go_wp2
                go_roundw
                case rel => exact ⟨m + 1, by omega, by go_num, by rw [HQ.out], by rw [HQ.out], by rw [HQ.out, hDE.out], belowDraws hB2 nq⟩
                case measure => simp [intOf]; omega
            · have HO := Lib.hid (show outTo l (j + 1) = inTo l j (outTo l j) m by rw [outTo, hl, show n - (j + 1) = m by omega])
              clear hl hs ho hpl
              go_wp2
              go_roundw
              case rel => exact ⟨j + 1, by omega, by go_num, by rw [HO.out], by rw [HO.out], by rw [HO.out], hB2⟩
              case measure => simp [intOf]; omega
        · obtain rfl : j = n := by omega
          clear hs
          have Hl := Lib.hid hl
          clear hl
          go_wp2
          go_ret3
          exact ⟨endThree (by rw [Hv.out, Hl.out]), hB⟩

  · have Hv := Lib.hid (show rClose l = (0, 0, ckT l []) by rw [rClose, if_neg h0])
    have t0 : (ckT l [] == 0) = false := by simpa using h0
    have t1 : (ckT l [] != 0) = true := by simpa using h0
    clear h0 hl
    go_enter Try.func33, Try.ntmps33
    go_wp2_with (go_at_call 75; refine (l08Code_any _ _ _ l _ _ Hl0.out hn hs).mono ?_; rintro e w' ⟨rfl, rfl⟩)
    go_ret3
    exact ⟨endThree Hv.out, b0⟩
end Go.Proofs.Ytkblmcpklpmobaa
