/- LeastDistance (layer 7): the exported functions and the law. No condition. -/
import Derived.Test.YthnjiiodpjielaaLd
namespace Go.Proofs.Ythnjiiodpjielaa
open Go.RowKit
set_option linter.unusedVariables false
set_option linter.unusedSimpArgs false

def rLeast (l : List (Int × Int × Int)) (s len : Int) : Int × Int := if gradB l = true then (if (inB s 0 5 && inB len 1 100000) = true then (if 0 ≤ leastOf s len (marks l) then (leastOf s len (marks l), 0) else (0, 4)) else (0, 2)) else (0, 1)
theorem upTo_all {to step x : Int} (h1 : 1000 ≤ x) (h2 : to ≤ 10000) (h3 : 1 ≤ step) : MarksAll (upTo to step x) := by
  intro y hy
  obtain ⟨i1, i2, _⟩ := (upTo_mem h3 y _ _ (Nat.le_refl _)).1 hy
  exact ⟨by omega, by omega⟩
theorem marks_all {l : List (Int × Int × Int)} (h : partsIn l) : MarksAll (marks l) := by
  intro y hy
  obtain ⟨p, hp, i1, i2, _⟩ := (marks_mem h y).1 hy
  obtain ⟨a1, a2, a3, a4, a5⟩ := h p hp
  exact ⟨by omega, by omega⟩
set_option maxRecDepth 100000 in
set_option maxHeartbeats 2000000 in
theorem iLeastDistance_any (A : Option Addr) (n c : Nat) (l : List (Int × Int × Int)) (s len : Int) (w : World) (hl : l.length = n) (hn : n ≤ 1048576) (hs : Sees w w.heap.size A (cells3 l)) (hr : I64s3 l) :
    Calls Try.prog 16 #[.slice A n c, .int .i64 s, .int .i64 len] w fun e w' => e = .returned (.tuple #[.int .i64 (rLeast l s len).1, .int .i64 (rLeast l s len).2]) ∧ Below w.heap.size w w' := by
  have Hl := Lib.hid hl
  by_cases h : gradB l = true
  · by_cases g1 : inB s 0 5 = true
    · by_cases g2 : inB len 1 100000 = true
      · obtain ⟨hg, h1, h2⟩ := gradB_in h
        have Hw := Lib.hid (show rLeast l s len = _ by rw [rLeast, if_pos h, g1, g2, Bool.and_self, if_pos rfl])
        have hn12 : n ≤ 12 := by omega
        have hml := marks_length hg
        have hm0 := (List.getElem?_eq_some_iff.1 (marks_first h)).1
        have hma := marks_all hg
        have hlen := inB_iff.1 g2
        have M := fun W hW => marksOf_any A n c l W Hl.out hn12 hW hg
        have I := fun W hW => iIsGraduation_any A n c l W Hl.out hn hW hr
        rw [h] at I
        have hlm : (marks l).length ≤ 108000 := by omega
        have hm1 : 1 ≤ (marks l).length := hm0
        generalize marks l = m at *
        clear hg h h1 h2 hl hm0 hml
        go_enter Try.func16, Try.ntmps16
        go_wp2_with fail
        refine (I _ hs).mono ?_
        rintro e w1 ⟨rfl, b1⟩
        go_wp2_with (first
        | (go_at_call 64; refine (iIsScale_any _ _).mono ?_; rintro e w' ⟨rfl, rfl⟩)
        | (go_at_call 65; refine (isLength_any _ _).mono ?_; rintro e w' ⟨rfl, rfl⟩))
        refine (M _ ((hs.over b1).wider b1.size)).mono ?_
        rintro e w2 ⟨v, rfl, hown, b2⟩
        obtain ⟨A', c', rfl⟩ := ownShape hown
        have B2 := b1.trans (b2.mono b1.size)
        have hz2 := B2.size
        have S2 := Sees.ofOwn hown
        clear hown hs M I b1 b2
        go_wp2_with fail
        refine (leastDistance_any A' _ c' m s len w2 rfl hm1 (by omega) S2 hma hlen.1 hlen.2).mono ?_
        rintro e w3 ⟨rfl, b3⟩
        have B3 := B2.trans (b3.mono B2.size)
        clear hma
        by_cases h0 : 0 ≤ leastOf s len m
        · have Hv := Lib.hid (show rLeast l s len = (leastOf s len m, 0) by rw [Hw.out, if_pos h0])
          have hd : decide (0 ≤ leastOf s len m) = true := by simpa using h0
          generalize leastOf s len m = d at *
          go_wp2_with fail
          go_ret2
          exact ⟨endTwo Hv.out, B3⟩
        · have Hv := Lib.hid (show rLeast l s len = (0, 4) by rw [Hw.out, if_neg h0])
          have hd : decide (0 ≤ leastOf s len m) = false := by simpa using h0
          generalize leastOf s len m = d at *
          go_wp2_with fail
          go_ret2
          exact ⟨endTwo Hv.out, B3⟩
      · have g2' : inB len 1 100000 = false := by simpa using g2
        have Hv := Lib.hid (show rLeast l s len = (0, 2) by rw [rLeast, if_pos h, if_neg (by simp [g2'])])
        have I := fun W hW => iIsGraduation_any A n c l W Hl.out hn hW hr
        rw [h] at I
        clear h hl
        go_enter Try.func16, Try.ntmps16
        go_wp2_with fail
        refine (I _ hs).mono ?_
        rintro e w1 ⟨rfl, b1⟩
        go_wp2_with (first
        | (go_at_call 64; refine (iIsScale_any _ _).mono ?_; rintro e w' ⟨rfl, rfl⟩)
        | (go_at_call 65; refine (isLength_any _ _).mono ?_; rintro e w' ⟨rfl, rfl⟩))
        go_ret2
        exact ⟨endTwo Hv.out, b1⟩
    · have g1' : inB s 0 5 = false := by simpa using g1
      have Hv := Lib.hid (show rLeast l s len = (0, 2) by rw [rLeast, if_pos h, if_neg (by simp [g1'])])
      have I := fun W hW => iIsGraduation_any A n c l W Hl.out hn hW hr
      rw [h] at I
      clear h hl
      go_enter Try.func16, Try.ntmps16
      go_wp2_with fail
      refine (I _ hs).mono ?_
      rintro e w1 ⟨rfl, b1⟩
      go_wp2_with (first
        | (go_at_call 64; refine (iIsScale_any _ _).mono ?_; rintro e w' ⟨rfl, rfl⟩)
        | (go_at_call 65; refine (isLength_any _ _).mono ?_; rintro e w' ⟨rfl, rfl⟩))
      go_ret2
      exact ⟨endTwo Hv.out, b1⟩
  · have h : gradB l = false := by simpa using h
    have Hv := Lib.hid (show rLeast l s len = (0, 1) by rw [rLeast, if_neg (by simp [h])])
    have I := fun W hW => iIsGraduation_any A n c l W Hl.out hn hW hr
    rw [h] at I
    clear h hl
    go_enter Try.func16, Try.ntmps16
    go_wp2_with fail
    refine (I _ hs).mono ?_
    rintro e w1 ⟨rfl, b1⟩
    go_wp2_with (first
        | (go_at_call 64; refine (iIsScale_any _ _).mono ?_; rintro e w' ⟨rfl, rfl⟩)
        | (go_at_call 65; refine (isLength_any _ _).mono ?_; rintro e w' ⟨rfl, rfl⟩))
    go_ret2
    exact ⟨endTwo Hv.out, b1⟩
set_option maxRecDepth 100000 in
set_option maxHeartbeats 2000000 in
theorem sLeastDistance_any (A : Option Addr) (n c : Nat) (l : List (Int × Int × Int)) (s len : Int) (w : World) (hl : l.length = n) (hn : n ≤ 1048576) (hs : Sees w w.heap.size A (cells3 l)) (hr : I64s3 l) :
    Calls Try.prog 17 #[.slice A n c, .int .i64 s, .int .i64 len] w fun e w' => e = .returned (.tuple #[.int .i64 (rLeast l s len).1, .int .i64 (rLeast l s len).2]) ∧ Below w.heap.size w w' := by
  have Hl := Lib.hid hl
  by_cases h : gradB l = true
  · by_cases g1 : inB s 0 5 = true
    · by_cases g2 : inB len 1 100000 = true
      · obtain ⟨hg, h1, h2⟩ := gradB_in h
        have Hw := Lib.hid (show rLeast l s len = _ by rw [rLeast, if_pos h, g1, g2, Bool.and_self, if_pos rfl])
        have hn12 : n ≤ 12 := by omega
        have hml := marks_length hg
        have hm0 := (List.getElem?_eq_some_iff.1 (marks_first h)).1
        have hma := marks_all hg
        have hlen := inB_iff.1 g2
        have M := fun W hW => l07Marks_any A n c l W Hl.out hn12 hW hg
        have I := fun W hW => sIsGraduation_any A n c l W Hl.out hn hW hr
        rw [h] at I
        have hlm : (marks l).length ≤ 108000 := by omega
        have hm1 : 1 ≤ (marks l).length := hm0
        generalize marks l = m at *
        clear hg h h1 h2 hl hm0 hml
        go_enter Try.func17, Try.ntmps17
        go_wp2_with fail
        refine (I _ hs).mono ?_
        rintro e w1 ⟨rfl, b1⟩
        go_wp2_with (first
        | (go_at_call 68; refine (sIsScale_any _ _).mono ?_; rintro e w' ⟨rfl, rfl⟩)
        | (go_at_call 69; refine (l05Length_any _ _).mono ?_; rintro e w' ⟨rfl, rfl⟩))
        refine (M _ ((hs.over b1).wider b1.size)).mono ?_
        rintro e w2 ⟨v, rfl, hown, b2⟩
        obtain ⟨A', c', rfl⟩ := ownShape hown
        have B2 := b1.trans (b2.mono b1.size)
        have hz2 := B2.size
        have S2 := Sees.ofOwn hown
        clear hown hs M I b1 b2
        go_wp2_with fail
        refine (l07Least_any A' _ c' m s len w2 rfl (by omega) S2 hma hlen.1 hlen.2).mono ?_
        rintro e w3 ⟨rfl, b3⟩
        have B3 := B2.trans (b3.mono B2.size)
        clear hma
        by_cases h0 : 0 ≤ leastOf s len m
        · have Hv := Lib.hid (show rLeast l s len = (leastOf s len m, 0) by rw [Hw.out, if_pos h0])
          generalize leastOf s len m = d at *
          go_wp2_with fail
          go_ret2
          exact ⟨endTwo Hv.out, B3⟩
        · have Hv := Lib.hid (show rLeast l s len = (0, 4) by rw [Hw.out, if_neg h0])
          generalize leastOf s len m = d at *
          go_wp2_with fail
          go_ret2
          exact ⟨endTwo Hv.out, B3⟩
      · have g2' : inB len 1 100000 = false := by simpa using g2
        have Hv := Lib.hid (show rLeast l s len = (0, 2) by rw [rLeast, if_pos h, if_neg (by simp [g2'])])
        have I := fun W hW => sIsGraduation_any A n c l W Hl.out hn hW hr
        rw [h] at I
        clear h hl
        go_enter Try.func17, Try.ntmps17
        go_wp2_with fail
        refine (I _ hs).mono ?_
        rintro e w1 ⟨rfl, b1⟩
        go_wp2_with (first
        | (go_at_call 68; refine (sIsScale_any _ _).mono ?_; rintro e w' ⟨rfl, rfl⟩)
        | (go_at_call 69; refine (l05Length_any _ _).mono ?_; rintro e w' ⟨rfl, rfl⟩))
        go_ret2
        exact ⟨endTwo Hv.out, b1⟩
    · have g1' : inB s 0 5 = false := by simpa using g1
      have Hv := Lib.hid (show rLeast l s len = (0, 2) by rw [rLeast, if_pos h, if_neg (by simp [g1'])])
      have I := fun W hW => sIsGraduation_any A n c l W Hl.out hn hW hr
      rw [h] at I
      clear h hl
      go_enter Try.func17, Try.ntmps17
      go_wp2_with fail
      refine (I _ hs).mono ?_
      rintro e w1 ⟨rfl, b1⟩
      go_wp2_with (first
        | (go_at_call 68; refine (sIsScale_any _ _).mono ?_; rintro e w' ⟨rfl, rfl⟩)
        | (go_at_call 69; refine (l05Length_any _ _).mono ?_; rintro e w' ⟨rfl, rfl⟩))
      go_ret2
      exact ⟨endTwo Hv.out, b1⟩
  · have h : gradB l = false := by simpa using h
    have Hv := Lib.hid (show rLeast l s len = (0, 1) by rw [rLeast, if_neg (by simp [h])])
    have I := fun W hW => sIsGraduation_any A n c l W Hl.out hn hW hr
    rw [h] at I
    clear h hl
    go_enter Try.func17, Try.ntmps17
    go_wp2_with fail
    refine (I _ hs).mono ?_
    rintro e w1 ⟨rfl, b1⟩
    go_wp2_with (first
        | (go_at_call 68; refine (sIsScale_any _ _).mono ?_; rintro e w' ⟨rfl, rfl⟩)
        | (go_at_call 69; refine (l05Length_any _ _).mono ?_; rintro e w' ⟨rfl, rfl⟩))
    go_ret2
    exact ⟨endTwo Hv.out, b1⟩
end Go.Proofs.Ythnjiiodpjielaa
