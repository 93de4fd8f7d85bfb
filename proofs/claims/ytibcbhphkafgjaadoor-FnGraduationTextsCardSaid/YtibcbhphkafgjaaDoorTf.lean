/- GraduationText of both, and its law (layer 7). No condition but the table. -/
import Derived.Test.YtibcbhphkafgjaaDoorTe
import Derived.Test.YtibcbhphkafgjaaDoorLawG
namespace Go.Proofs.YtibcbhphkafgjaaDoor
open Go.RowKit
set_option linter.unusedVariables false
set_option linter.unusedSimpArgs false

theorem endTxt {p : List UInt8 × Int} {x : List UInt8} {y : Int} (h : p = (x, y)) : Ending.returned (.tuple #[.string ⟨x.toArray⟩, .int .i64 y]) = .returned (.tuple #[.string ⟨p.1.toArray⟩, .int .i64 p.2]) := by subst h; rfl
theorem ten_of {p : Int × Int × Int} (h : InTen p) : Ten4 p.1 ∧ Ten4 p.2.1 ∧ Ten4 p.2.2 := by
  obtain ⟨h1, h2, h3⟩ := h
  unfold Ten4
  omega
set_option maxHeartbeats 1000000 in
theorem sGraduationText_any (A : Option Addr) (n c : Nat) (l : List (Int × Int × Int)) (w : World) (hl : l.length = n) (hn : n ≤ 1048576) (hs : Sees w w.heap.size A (cells3 l)) (hr : I64s3 l) :
    Calls Tryd.prog 8 #[.slice A n c] w fun e w' => e = .returned (.tuple #[.string ⟨(rGText l).1.toArray⟩, .int .i64 (rGText l).2]) ∧ Below w.heap.size w w' := by
  have C := sIsGraduation_any A n c l w hl hn hs hr
  by_cases h : gradB l = true
  · have Hv := Lib.hid (show rGText l = (gradT l, 0) by rw [rGText, if_pos h])
    have HTen := gradB_ten h
    have hlen := (gradB_iff.1 h).1
    rw [hl] at hlen
    rw [h] at C
    have D := fun (W : World) (hB : Below w.heap.size w W) => l07Text_any A n c l W hl (by omega) ((hs.over hB).wider hB.size) (fun p hp => ten_of (HTen p hp))
    clear h HTen hlen hl hs hr
    go_enter Tryd.func8, Tryd.ntmps8
    go_wp2_with fail
    refine C.mono ?_
    rintro e w1 ⟨rfl, hb1⟩
    go_wp2_with fail
    refine (D _ hb1).mono ?_
    rintro e w2 ⟨rfl, hb2⟩
    go_wp2_with fail
    go_ret2
    exact ⟨endTxt Hv.out, hb1.trans (hb2.mono hb1.size)⟩
  · have Hv := Lib.hid (show rGText l = ([], 1) by rw [rGText, if_neg h])
    rw [show gradB l = false by simpa using h] at C
    clear h hl hs hr
    go_enter Tryd.func8, Tryd.ntmps8
    go_wp2_with fail
    refine C.mono ?_
    rintro e w1 ⟨rfl, hb1⟩
    go_wp2_with fail
    go_ret2
    exact ⟨endTxt Hv.out, hb1⟩
set_option maxHeartbeats 1000000 in
theorem iGraduationText_any (A : Option Addr) (n c : Nat) (l : List (Int × Int × Int)) (w : World) (hl : l.length = n) (hn : n ≤ 1048576) (hs : Sees w w.heap.size A (cells3 l)) (hr : I64s3 l) (hT : TabT w) :
    Calls Tryd.prog 10 #[.slice A n c] w fun e w' => e = .returned (.tuple #[.string ⟨(rGText l).1.toArray⟩, .int .i64 (rGText l).2]) ∧ Below w.heap.size w w' := by
  have C := iIsGraduation_any A n c l w hl hn hs hr
  by_cases h : gradB l = true
  · have Hv := Lib.hid (show rGText l = (gradT l, 0) by rw [rGText, if_pos h])
    have HTen := gradB_ten h
    have hlen := (gradB_iff.1 h).1
    rw [hl] at hlen
    rw [h] at C
    have D := fun (W : World) (hB : Below w.heap.size w W) => graduationText_any A n c l W hl (by omega) (by omega) ((hs.over hB).wider hB.size) hr (hT.over hB)
    clear h HTen hlen hl hs hr
    go_enter Tryd.func10, Tryd.ntmps10
    go_wp2_with fail
    refine C.mono ?_
    rintro e w1 ⟨rfl, hb1⟩
    go_wp2_with fail
    refine (D _ hb1).mono ?_
    rintro e w2 ⟨rfl, hb2⟩
    go_wp2_with fail
    go_ret2
    exact ⟨endTxt Hv.out, hb1.trans (hb2.mono hb1.size)⟩
  · have Hv := Lib.hid (show rGText l = ([], 1) by rw [rGText, if_neg h])
    rw [show gradB l = false by simpa using h] at C
    clear h hl hs hr
    go_enter Tryd.func10, Tryd.ntmps10
    go_wp2_with fail
    refine C.mono ?_
    rintro e w1 ⟨rfl, hb1⟩
    go_wp2_with fail
    go_ret2
    exact ⟨endTxt Hv.out, hb1⟩
set_option maxHeartbeats 1000000 in
theorem fnExactGraduationText_walk (A : Option Addr) (n c : Nat) (l : List (Int × Int × Int)) (w : World) (hl : l.length = n) (_hc : n ≤ c) (hm : c ≤ maxLen) (hs : Sees w w.heap.size A (cells3 l)) (hr : I64s3 l) (hT : Lib.TabIs Tryd.prog w "internal/strconv.uint64pow10" .u64 Lib.pow10Tab) :
    Calls Tryd.prog 3 #[.slice A n c] w fun e w' => e = .returned (.bool true) ∧ Below w.heap.size w w' := by
  have hT : TabT w := hT
  unfold maxLen at hm
  have Hl := Lib.hid hl
  clear hl
  by_cases hn : n ≤ 1048576
  · go_enter Tryd.func3, Tryd.ntmps3
    go_wp2_with (go_at_call 7; refine (szPartS_yes _ _ _ _ hn).mono ?_; rintro e w' ⟨rfl, rfl⟩)
    refine (toPartS_any _ _ _ l _ Hl.out hn hs).mono ?_
    rintro e w1 ⟨rfl, F1, b1⟩
    go_wp2_with fail
    refine (sGraduationText_any (some ⟨w.heap.size, 0, none⟩) n n l _ Hl.out hn F1.sees hr).mono ?_
    rintro e w2 ⟨rfl, b2⟩
    have B2 : Below w.heap.size w w2 := b1.trans (b2.mono b1.size)
    go_wp2_with fail
    refine (toPartS_any _ _ _ l _ Hl.out hn ((hs.over B2).wider B2.size)).mono ?_
    rintro e w3 ⟨rfl, F3, b3⟩
    have B3 : Below w.heap.size w w3 := B2.trans (b3.mono B2.size)
    go_wp2_with fail
    refine (iGraduationText_any (some ⟨w2.heap.size, 0, none⟩) n n l _ Hl.out hn F3.sees hr (hT.over B3)).mono ?_
    rintro e w4 ⟨rfl, b4⟩
    have B4 : Below w.heap.size w w4 := B3.trans (b4.mono B3.size)
    have F4 := F3.over b4 F3.inside
    go_wp2_with fail
    refine (toPartS_any _ _ _ l _ Hl.out hn ((hs.over B4).wider B4.size)).mono ?_
    rintro e w5 ⟨rfl, F5, b5⟩
    have B5 : Below w.heap.size w w5 := B4.trans (b5.mono B4.size)
    go_wp2_with fail
    refine (eqPartS_same _ _ _ _ _ l _ Hl.out hn (F4.over b5 F4.inside).sees F5.sees).mono ?_
    rintro e w6 ⟨rfl, b6⟩
    go_wp2_with fail
    go_ret
    exact ⟨rfl, B5.trans (b6.mono B5.size)⟩
  · go_enter Tryd.func3, Tryd.ntmps3
    go_wp2_with (go_at_call 7; refine (szPartS_no _ _ _ _ (by omega) (by omega)).mono ?_; rintro e w' ⟨rfl, rfl⟩)
    go_ret
    exact ⟨rfl, Below.refl _ _⟩
end Go.Proofs.YtibcbhphkafgjaaDoor
