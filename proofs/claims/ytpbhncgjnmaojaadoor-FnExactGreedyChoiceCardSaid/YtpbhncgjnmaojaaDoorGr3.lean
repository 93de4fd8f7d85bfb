/- The law FnExactGreedyChoice (layer 9). No condition but the table. -/
import Derived.Test.YtpbhncgjnmaojaaDoorGr2
namespace Go.Proofs.YtpbhncgjnmaojaaDoor
open Go.RowKit
set_option linter.unusedVariables false
set_option linter.unusedSimpArgs false

theorem rGreedy_lenB (l : List (Int × Int × Int)) : (rGreedy l).1.length ≤ 1048576 := by
  have := rGreedy_len l
  omega
set_option maxRecDepth 100000 in
set_option maxHeartbeats 2000000 in
theorem fnExactGreedyChoice_walk (A : Option Addr) (n c : Nat) (l : List (Int × Int × Int)) (w : World) (hl : l.length = n) (_hc : n ≤ c) (hm : c ≤ maxLen) (hs : Sees w w.heap.size A (cells3 l)) (hr : I64s3 l) (hT : Lib.TabIs Tryd.prog w "internal/strconv.uint64pow10" .u64 Lib.pow10Tab) :
    Calls Tryd.prog 10 #[.slice A n c] w fun e w' => e = .returned (.bool true) ∧ Below w.heap.size w w' := by
  have hT : Tab w := hT
  unfold maxLen at hm
  have Hl := Lib.hid hl
  clear hl
  by_cases hn : n ≤ 1048576
  · obtain ⟨⟨L, code⟩, HV⟩ : ∃ p, Hid (rGreedy l = p) := ⟨_, Lib.hid rfl⟩
    have hL : L.length ≤ 1048576 := by have := rGreedy_lenB l; rw [HV.out] at this; exact this
    have S := fun (AA : Option Addr) (W : World) hS => sGreedyChoice_any AA n n l W Hl.out hn (hS)
    have J := fun (AA : Option Addr) (W : World) hS (hW : Tab W) => iGreedyChoice_any AA n n l W Hl.out hn (hS) hW
    rw [HV.out] at S J
    go_enter Tryd.func10, Tryd.ntmps10
    go_wp2_with (go_at_call 17; refine (szTickS_yes _ _ _ _ hn).mono ?_; rintro e w' ⟨rfl, rfl⟩)
    refine (toTickS_any _ _ _ l _ Hl.out hn hs).mono ?_
    rintro e w1 ⟨rfl, F1, b1⟩
    have B1 : Below w.heap.size w w1 := (Below.refl w.heap.size w).trans (b1.mono (Below.refl w.heap.size w).size)
    go_wp2_with fail
    refine (S (some ⟨w.heap.size, 0, none⟩) _ F1.sees).mono ?_
    rintro e w2 ⟨v, rfl, o0, b2⟩
    obtain ⟨vA, vc, rfl⟩ := ownShape o0
    have B2 : Below w.heap.size w w2 := B1.trans (b2.mono B1.size)
    have o0n := o0.lt
    go_wp2_with fail
    refine (toTickS_any _ _ _ l _ Hl.out hn ((hs.over B2).wider B2.size)).mono ?_
    rintro e w3 ⟨rfl, F3, b3⟩
    have hF3i := F3.inside
    replace o0 := ownOver o0 b3
    have B3 : Below w.heap.size w w3 := B2.trans (b3.mono B2.size)
    go_wp2_with fail
    refine (J (some ⟨w2.heap.size, 0, none⟩) _ F3.sees (hT.over B3)).mono ?_
    rintro e w4 ⟨u, rfl, o1, b4⟩
    obtain ⟨uA, uc, rfl⟩ := ownShape o1
    replace o0 := ownOver o0 b4
    replace F3 := F3.over b4 F3.inside
    have B4 : Below w.heap.size w w4 := B3.trans (b4.mono B3.size)
    have o1n := o1.lt
    go_wp2_with fail
    refine (eqInt64S_below _ _ _ _ _ L _ rfl hL (Sees.ofOwn o1) (Sees.ofOwn o0)).mono ?_
    rintro e w5 ⟨rfl, b5⟩
    replace o0 := ownOver o0 b5
    replace o1 := ownOver o1 b5
    replace F3 := F3.over b5 F3.inside
    have B5 : Below w.heap.size w w5 := B4.trans (b5.mono B4.size)
    go_wp2_with fail
    refine (toTickS_any _ _ _ l _ Hl.out hn ((hs.over B5).wider B5.size)).mono ?_
    rintro e w6 ⟨rfl, F6, b6⟩
    replace o0 := ownOver o0 b6
    replace o1 := ownOver o1 b6
    replace F3 := F3.over b6 F3.inside
    have B6 : Below w.heap.size w w6 := B5.trans (b6.mono B5.size)
    go_wp2_with fail
    refine (eqTickS_same _ _ _ _ _ l _ Hl.out hn F3.sees F6.sees).mono ?_
    rintro e w7 ⟨rfl, b7⟩
    replace o0 := ownOver o0 b7
    replace o1 := ownOver o1 b7
    replace F3 := F3.over b7 F3.inside
    have B7 : Below w.heap.size w w7 := B6.trans (b7.mono B6.size)
    go_wp2_with fail
    refine (markTickS_own w2.heap.size n _ _ _ hn (ownOfFull (n := n) (size := 3) F3 (by rw [cells3_length, Hl.out]; omega) (by unfold maxLen; omega))).mono ?_
    rintro e w8 ⟨rfl, ox, hg8⟩
    replace hg8 : w7.grownBy w8 (some w2.heap.size) := hg8
    have B8 : Below w.heap.size w w8 := B7.grown hg8 B7.size (fun j hj => by injection hj with hj; have := B2.size; omega)
    have s3 := b3.size
    have F3i := hF3i
    have s3' : w2.heap.size < w3.heap.size := Nat.lt_of_lt_of_le F3i (Nat.le_refl _)
    replace o0 := ownGrown o0 hg8 (ownNo (fun j hj => by have := o0n j hj; omega))
    replace o1 := ownGrown o1 hg8 (ownNo (fun j hj => by have := o1n j hj; omega))
    clear ox F3
    go_wp2_with fail
    refine (eqInt64S_below _ _ _ _ _ L _ rfl hL (Sees.ofOwn o1) (Sees.ofOwn o0)).mono ?_
    rintro e w9 ⟨rfl, b9⟩
    replace o0 := ownOver o0 b9
    replace o1 := ownOver o1 b9
    have B9 : Below w.heap.size w w9 := B8.trans (b9.mono B8.size)
    go_wp2_with fail
    refine (markInt64S_own _ L.length _ _ _ hL o1).mono ?_
    rintro e w10 ⟨rfl, o1, hg10⟩
    have hlo := b3.size
    have B10 : Below w.heap.size w w10 := B9.grown hg10 B9.size (fun j hj => by have := o1n j hj; have := B3.size; omega)
    replace o0 := ownGrown o0 hg10 (ownNo2 (fun j hj => (o0n j hj).2) (fun j hj => (o1n j hj).1) hlo)
    go_wp2_with fail
    refine (heldInt64S_seen _ _ _ _ _ hL (Sees.ofOwn o1)).mono ?_
    rintro e w' ⟨rfl, rfl⟩
    go_wp2_with fail
    refine (toTickS_any _ _ _ l _ Hl.out hn ((hs.over B10).wider B10.size)).mono ?_
    rintro e w11 ⟨rfl, F11, b11⟩
    replace o0 := ownOver o0 b11
    replace o1 := ownOver o1 b11
    have B11 : Below w.heap.size w w11 := B10.trans (b11.mono B10.size)
    go_wp2_with fail
    refine (J (some ⟨w10.heap.size, 0, none⟩) _ F11.sees (hT.over B11)).mono ?_
    rintro e w12 ⟨t, rfl, o2, b12⟩
    obtain ⟨tA, tc, rfl⟩ := ownShape o2
    replace o0 := ownOver o0 b12
    replace o1 := ownOver o1 b12
    have B12 : Below w.heap.size w w12 := B11.trans (b12.mono B11.size)
    have o2n := o2.lt
    go_wp2_with fail
    refine (eqInt64S_below _ _ _ _ _ L _ rfl hL (Sees.ofOwn o2) (Sees.ofOwn o0)).mono ?_
    rintro e w13 ⟨rfl, b13⟩
    replace o0 := ownOver o0 b13
    replace o1 := ownOver o1 b13
    replace o2 := ownOver o2 b13
    have B13 : Below w.heap.size w w13 := B12.trans (b13.mono B12.size)
    go_wp2_with fail
    refine (heldInt64S_seen _ _ _ _ _ hL (Sees.ofOwn o1)).mono ?_
    rintro e w' ⟨rfl, rfl⟩
    go_wp2_with fail
    go_ret
    exact ⟨rfl, B13⟩
  · go_enter Tryd.func10, Tryd.ntmps10
    go_wp2_with (go_at_call 17; refine (szTickS_no _ _ _ _ (by omega) (by omega)).mono ?_; rintro e w' ⟨rfl, rfl⟩)
    go_ret
    exact ⟨rfl, Below.refl _ _⟩
end Go.Proofs.YtpbhncgjnmaojaaDoor
