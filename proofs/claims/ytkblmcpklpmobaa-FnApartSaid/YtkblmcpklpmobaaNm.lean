/- NearestMark (layer 7). No condition. -/
import Derived.Test.YtkblmcpklpmobaaLawM
import Derived.Test.YtkblmcpklpmobaaTk3
namespace Go.Proofs.Ytkblmcpklpmobaa
open Go.RowKit
set_option linter.unusedVariables false

/-- the nearest to x from b on -/
def nearV (x : Int) : List Int → Int → Int
  | [], b => b
  | y :: r, b => nearV x r (if dist y x < dist b x then y else b)
def rNearM (l : List (Int × Int × Int)) (x : Int) : Int × Int := if gradB l = true then (if inB x 1000 9999 = true then (nearV x (marks l) 1000, 0) else (0, 2)) else (0, 1)
theorem marks_first {l : List (Int × Int × Int)} (h : gradB l = true) : (marks l)[0]? = some 1000 := by
  obtain ⟨hg, h1, _⟩ := gradB_in h
  match l, h1 with
  | p :: r, _ =>
    obtain ⟨a1, a2, a3, a4, a5⟩ := hg p (List.mem_cons_self ..)
    have e : p.1 = 1000 := by
      simp only [gradB, gradRun, Bool.and_eq_true, decide_eq_true_eq] at h
      have h2 := h.2
      split at h2
      · rename_i hp
        exact hp.1
      · cases h2
    rw [marks, List.flatMap_cons, marksP, upTo_step a4 a2, List.cons_append, List.getElem?_cons_zero, e]
theorem marks_bd {l : List (Int × Int × Int)} (h : gradB l = true) : ∀ y ∈ marks l, 1000 ≤ y ∧ y ≤ 10000 := by
  intro y hy
  obtain ⟨hg, _⟩ := gradB_in h
  obtain ⟨p, hp, i1, i2, _⟩ := (marks_mem hg y).1 hy
  obtain ⟨a1, a2, a3, a4, a5⟩ := hg p hp
  omega
set_option maxRecDepth 100000 in
set_option maxHeartbeats 2000000 in
theorem iNearestMark_any (A : Option Addr) (n c : Nat) (l : List (Int × Int × Int)) (x : Int) (w : World) (hl : l.length = n) (hn : n ≤ 1048576) (hs : Sees w w.heap.size A (cells3 l)) (hr : I64s3 l) (hx : I64 x) :
    Calls Try.prog 17 #[.slice A n c, .int .i64 x] w fun e w' => e = .returned (.tuple #[.int .i64 (rNearM l x).1, .int .i64 (rNearM l x).2]) ∧ Below w.heap.size w w' := by
  have Hl := Lib.hid hl
  by_cases h : gradB l = true
  · by_cases hi : inB x 1000 9999 = true
    · obtain ⟨hg, h1, h2⟩ := gradB_in h
      have Hv := Lib.hid (show rNearM l x = (nearV x (marks l) 1000, 0) by rw [rNearM, if_pos h, if_pos hi])
      have hn12 : n ≤ 12 := by omega
      have hml := marks_length hg
      have hm0 := marks_first h
      have hmb := marks_bd h
      have hxv := inB_iff.1 hi
      have M := fun W hW => marksOf_any A n c l W Hl.out hn12 hW hg
      have I := fun W hW => iIsGraduation_any A n c l W Hl.out hn hW hr
      rw [h] at I
      have hlen : (marks l).length ≤ 108000 := by omega
      generalize marks l = m at *
      clear hg h h1 h2 hl
      go_enter Try.func17, Try.ntmps17
      go_wp2_with fail
      refine (I _ hs).mono ?_
      rintro e w1 ⟨rfl, b1⟩
      go_wp2_with (go_at_call 66; refine (isDigits_any _ _).mono ?_; rintro e w' ⟨rfl, rfl⟩)
      refine (M _ ((hs.over b1).wider b1.size)).mono ?_
      rintro e w2 ⟨v, rfl, hown, b2⟩
      obtain ⟨A', c', rfl⟩ := ownShape hown
      have B2 := b1.trans (b2.mono b1.size)
      have hz2 := B2.size
      have S2 := Sees.ofOwn hown
      clear hown hs M I b1 b2
      obtain ⟨b0, off0, x0, rfl, hb0, hp0, c00⟩ := S2.one (k := 0) (by have := (List.getElem?_eq_some_iff.1 hm0).1; omega)
      have ex : x0 = 1000 := by rw [hm0] at hp0; injection hp0 with hp0; exact hp0.symm
      subst ex
      rw [Nat.add_zero] at c00
      have hL0 : 0 < m.length := (List.getElem?_eq_some_iff.1 hm0).1
      have hL1 : (0 : Int) < (m.length : Int) := by omega
      go_wp2_with fail
      go_loopw [6, 20] (fun u i wr => ∃ (k : Nat) (b : Int), k ≤ m.length ∧ i = .int .i64 k ∧ u = .int .i64 b ∧ 1000 ≤ b ∧ b ≤ 10000 ∧ nearV x m 1000 = nearV x (m.drop k) b ∧ Below w2.heap.size w2 wr) (fun _ i _ => m.length - (intOf i).toNat)
      case atStart => exact ⟨0, 1000, Nat.zero_le _, rfl, rfl, by omega, by omega, rfl, Below.refl _ _⟩
      case round =>
        obtain ⟨k, b, hk, rfl, rfl, hb1, hb2, hf, hB⟩ := hrel
        have Hf := Lib.hid hf
        clear hf
        by_cases hlt : k < m.length
        · obtain ⟨b', off, y, hA, hb', hp, c0⟩ := (S2.over hB).one (k := k) hlt
          injection hA with hA
          injection hA with hA1 hA2
          subst hA1 hA2
          have hy := hmb y (List.mem_of_getElem? hp)
          have HS := Lib.hid (show nearV x m 1000 = nearV x (m.drop (k + 1)) (if dist y x < dist b x then y else b) by
            obtain ⟨hk', e⟩ := List.getElem?_eq_some_iff.1 hp
            rw [Hf.out, List.drop_eq_getElem_cons hk', e, nearV])
          unfold dist at HS
          have hz := hB.size
          have hbn : b0 < wr.heap.size := by omega
          have Hm := Lib.hid hmb
          clear hp hp0 c00 hm0 hmb
          by_cases hd : max (y - x) (-(y - x)) < max (b - x) (-(b - x))
          · have HS2 := Lib.hid (HS.out.trans (congrArg _ (if_pos hd)))
            have hd' : decide (max (y - x) (-(y - x)) < max (b - x) (-(b - x))) = true := by simpa using hd
            go_wp2_with (go_at_call 70; refine (distance_any _ _ _ (by omega) (by omega) (by omega) (by omega)).mono ?_; rintro e w' ⟨rfl, rfl⟩)
            go_roundw
            case rel => exact ⟨k + 1, y, by omega, by go_num, rfl, by omega, by omega, HS2.out, hB⟩
            case measure => simp [intOf]; omega
          · have HS2 := Lib.hid (HS.out.trans (congrArg _ (if_neg hd)))
            have hd' : decide (max (y - x) (-(y - x)) < max (b - x) (-(b - x))) = false := by simpa using hd
            go_wp2_with (go_at_call 70; refine (distance_any _ _ _ (by omega) (by omega) (by omega) (by omega)).mono ?_; rintro e w' ⟨rfl, rfl⟩)
            go_roundw
            case rel => exact ⟨k + 1, b, by omega, by go_num, rfl, by omega, by omega, HS2.out, hB⟩
            case measure => simp [intOf]; omega
        · obtain rfl : k = m.length := by omega
          clear c00
          go_wp2
          go_ret2
          exact ⟨endTwo (by rw [Hv.out, Hf.out, List.drop_of_length_le (Nat.le_refl _), nearV]), B2.trans (hB.mono B2.size)⟩
    · have Hv := Lib.hid (show rNearM l x = (0, 2) by rw [rNearM, if_pos h, if_neg hi])
      have hi' : inB x 1000 9999 = false := by simpa using hi
      have I := fun W hW => iIsGraduation_any A n c l W Hl.out hn hW hr
      rw [h] at I
      clear h hi hl
      go_enter Try.func17, Try.ntmps17
      go_wp2_with fail
      refine (I _ hs).mono ?_
      rintro e w1 ⟨rfl, b1⟩
      go_wp2_with (go_at_call 66; refine (isDigits_any _ _).mono ?_; rintro e w' ⟨rfl, rfl⟩)
      go_ret2
      exact ⟨endTwo Hv.out, b1⟩
  · have Hv := Lib.hid (show rNearM l x = (0, 1) by rw [rNearM, if_neg h])
    have h' : gradB l = false := by simpa using h
    have I := fun W hW => iIsGraduation_any A n c l W Hl.out hn hW hr
    rw [h'] at I
    clear h h' hl
    go_enter Try.func17, Try.ntmps17
    go_wp2_with fail
    refine (I _ hs).mono ?_
    rintro e w1 ⟨rfl, b1⟩
    go_wp2_with fail
    go_ret2
    exact ⟨endTwo Hv.out, b1⟩
set_option maxRecDepth 100000 in
set_option maxHeartbeats 2000000 in
theorem sNearestMark_any (A : Option Addr) (n c : Nat) (l : List (Int × Int × Int)) (x : Int) (w : World) (hl : l.length = n) (hn : n ≤ 1048576) (hs : Sees w w.heap.size A (cells3 l)) (hr : I64s3 l) (hx : I64 x) :
    Calls Try.prog 18 #[.slice A n c, .int .i64 x] w fun e w' => e = .returned (.tuple #[.int .i64 (rNearM l x).1, .int .i64 (rNearM l x).2]) ∧ Below w.heap.size w w' := by
  have Hl := Lib.hid hl
  by_cases h : gradB l = true
  · by_cases hi : inB x 1000 9999 = true
    · obtain ⟨hg, h1, h2⟩ := gradB_in h
      have Hv := Lib.hid (show rNearM l x = (nearV x (marks l) 1000, 0) by rw [rNearM, if_pos h, if_pos hi])
      have hn12 : n ≤ 12 := by omega
      have hml := marks_length hg
      have hm0 := marks_first h
      have hmb := marks_bd h
      have hxv := inB_iff.1 hi
      have M := fun W hW => l07Marks_any A n c l W Hl.out hn12 hW hg
      have I := fun W hW => sIsGraduation_any A n c l W Hl.out hn hW hr
      rw [h] at I
      have hlen : (marks l).length ≤ 108000 := by omega
      generalize marks l = m at *
      clear hg h h1 h2 hl
      go_enter Try.func18, Try.ntmps18
      go_wp2_with fail
      refine (I _ hs).mono ?_
      rintro e w1 ⟨rfl, b1⟩
      go_wp2_with (go_at_call 68; refine (l01In_any _ _ _ _).mono ?_; rintro e w' ⟨rfl, rfl⟩)
      refine (M _ ((hs.over b1).wider b1.size)).mono ?_
      rintro e w2 ⟨v, rfl, hown, b2⟩
      obtain ⟨A', c', rfl⟩ := ownShape hown
      have B2 := b1.trans (b2.mono b1.size)
      have hz2 := B2.size
      have S2 := Sees.ofOwn hown
      clear hown hs M I b1 b2
      obtain ⟨b0, off0, x0, rfl, hb0, hp0, c00⟩ := S2.one (k := 0) (by have := (List.getElem?_eq_some_iff.1 hm0).1; omega)
      have ex : x0 = 1000 := by rw [hm0] at hp0; injection hp0 with hp0; exact hp0.symm
      subst ex
      rw [Nat.add_zero] at c00
      have hL0 : 0 < m.length := (List.getElem?_eq_some_iff.1 hm0).1
      have hL1 : (0 : Int) < (m.length : Int) := by omega
      go_wp2_with fail
      go_loopw [7, 8] (fun u i wr => ∃ (k : Nat) (b : Int), k ≤ m.length ∧ i = .int .i64 k ∧ u = .int .i64 b ∧ 1000 ≤ b ∧ b ≤ 10000 ∧ nearV x m 1000 = nearV x (m.drop k) b ∧ Below w2.heap.size w2 wr) (fun _ i _ => m.length - (intOf i).toNat)
      case atStart => exact ⟨0, 1000, Nat.zero_le _, rfl, rfl, by omega, by omega, rfl, Below.refl _ _⟩
      case round =>
        obtain ⟨k, b, hk, rfl, rfl, hb1, hb2, hf, hB⟩ := hrel
        have Hf := Lib.hid hf
        clear hf
        by_cases hlt : k < m.length
        · obtain ⟨b', off, y, hA, hb', hp, c0⟩ := (S2.over hB).one (k := k) hlt
          injection hA with hA
          injection hA with hA1 hA2
          subst hA1 hA2
          have hy := hmb y (List.mem_of_getElem? hp)
          have HS := Lib.hid (show nearV x m 1000 = nearV x (m.drop (k + 1)) (if dist y x < dist b x then y else b) by
            obtain ⟨hk', e⟩ := List.getElem?_eq_some_iff.1 hp
            rw [Hf.out, List.drop_eq_getElem_cons hk', e, nearV])
          unfold dist at HS
          have hz := hB.size
          have hbn : b0 < wr.heap.size := by omega
          have Hm := Lib.hid hmb
          clear hp hp0 c00 hm0 hmb
          by_cases hd : max (y - x) (-(y - x)) < max (b - x) (-(b - x))
          · have HS2 := Lib.hid (HS.out.trans (congrArg _ (if_pos hd)))
            have hd' : decide (max (y - x) (-(y - x)) < max (b - x) (-(b - x))) = true := by simpa using hd
            go_wp2_with (go_at_call 71; refine (l01Abs_any _ _ (by omega) (by omega)).mono ?_; rintro e w' ⟨rfl, rfl⟩)
            go_roundw
            case rel => exact ⟨k + 1, y, by omega, by go_num, rfl, by omega, by omega, HS2.out, hB⟩
            case measure => simp [intOf]; omega
          · have HS2 := Lib.hid (HS.out.trans (congrArg _ (if_neg hd)))
            have hd' : decide (max (y - x) (-(y - x)) < max (b - x) (-(b - x))) = false := by simpa using hd
            go_wp2_with (go_at_call 71; refine (l01Abs_any _ _ (by omega) (by omega)).mono ?_; rintro e w' ⟨rfl, rfl⟩)
            go_roundw
            case rel => exact ⟨k + 1, b, by omega, by go_num, rfl, by omega, by omega, HS2.out, hB⟩
            case measure => simp [intOf]; omega
        · obtain rfl : k = m.length := by omega
          clear c00
          go_wp2
          go_ret2
          exact ⟨endTwo (by rw [Hv.out, Hf.out, List.drop_of_length_le (Nat.le_refl _), nearV]), B2.trans (hB.mono B2.size)⟩
    · have Hv := Lib.hid (show rNearM l x = (0, 2) by rw [rNearM, if_pos h, if_neg hi])
      have hi' : inB x 1000 9999 = false := by simpa using hi
      have I := fun W hW => sIsGraduation_any A n c l W Hl.out hn hW hr
      rw [h] at I
      clear h hi hl
      go_enter Try.func18, Try.ntmps18
      go_wp2_with fail
      refine (I _ hs).mono ?_
      rintro e w1 ⟨rfl, b1⟩
      go_wp2_with (go_at_call 68; refine (l01In_any _ _ _ _).mono ?_; rintro e w' ⟨rfl, rfl⟩)
      go_ret2
      exact ⟨endTwo Hv.out, b1⟩
  · have Hv := Lib.hid (show rNearM l x = (0, 1) by rw [rNearM, if_neg h])
    have h' : gradB l = false := by simpa using h
    have I := fun W hW => sIsGraduation_any A n c l W Hl.out hn hW hr
    rw [h'] at I
    clear h h' hl
    go_enter Try.func18, Try.ntmps18
    go_wp2_with fail
    refine (I _ hs).mono ?_
    rintro e w1 ⟨rfl, b1⟩
    go_wp2_with fail
    go_ret2
    exact ⟨endTwo Hv.out, b1⟩
end Go.Proofs.Ytkblmcpklpmobaa
