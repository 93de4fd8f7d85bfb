/- The law on ReadGraduation (layer 7). No condition but the variables. -/
import Derived.Test.YtibcbhphkafgjaaDoorTr
import Derived.Test.YtibcbhphkafgjaaDoorLawG
namespace Go.Proofs.YtibcbhphkafgjaaDoor
open Go.RowKit
set_option linter.unusedVariables false
set_option linter.unusedSimpArgs false

set_option maxRecDepth 100000 in
set_option maxHeartbeats 2000000 in
theorem fnExactReadGraduation_walk (a : ByteArray) (w : World) (_ha : a.size ≤ maxLen) (hE : EnvT w) :
    Calls Tryd.prog 5 #[.string a] w fun e w' => e = .returned (.bool true) ∧ Below w.heap.size w w' := by
  obtain ⟨l, hl⟩ : ∃ l, a.data.toList = l := ⟨_, rfl⟩
  have ha : a = ⟨l.toArray⟩ := by rw [← hl, Lib.mk_data]
  have hsz : a.size = l.length := by rw [Lib.size_eq, hl]
  by_cases hn : a.size ≤ 1048576
  · have hlen : l.length ≤ 2000000 := by omega
    obtain ⟨⟨L, code⟩, HV⟩ : ∃ p, Hid (rRead numR l = p) := ⟨_, Lib.hid rfl⟩
    have hL : L.length ≤ 1048576 := by have := rRead_len numR l; rw [HV.out] at this; exact Nat.le_trans this (by decide)
    have S := fun (W : World) => (show Calls Tryd.prog 17 #[.string a] W (GivesS 50 3 L.length (cells3 L) code W) by
      have := sReadGraduation_any l W hlen
      rw [← rRead_same, HV.out] at this
      rw [ha]
      exact this)
    have J := fun (W : World) (hW : EnvT W) => (show Calls Tryd.prog 18 #[.string a] W (GivesS 50 3 L.length (cells3 L) code W) by
      have := iReadGraduation_any l W hlen hW
      rw [HV.out] at this
      rw [ha]
      exact this)
    have n0 : ¬ 1048576 < (a.size : Int) := by omega
    clear ha hl hsz hn hlen HV
    go_enter Tryd.func5, Tryd.ntmps5
    go_wp2_with fail
    refine (S _).mono ?_
    rintro e w1 ⟨v, rfl, o0, b1⟩
    obtain ⟨vA, vc, rfl⟩ := ownShape o0
    have B1 : Below w.heap.size w w1 := (Below.refl w.heap.size w).trans (b1.mono (Below.refl w.heap.size w).size)
    have o0n := o0.lt
    go_wp2_with fail
    refine (J _ (hE.over B1)).mono ?_
    rintro e w2 ⟨u, rfl, o1, b2⟩
    obtain ⟨uA, uc, rfl⟩ := ownShape o1
    replace o0 := ownOver o0 b2
    have B2 : Below w.heap.size w w2 := B1.trans (b2.mono B1.size)
    have o1n := o1.lt
    go_wp2_with fail
    refine (eqPartS_same _ _ _ _ _ L _ rfl hL (Sees.ofOwn o1) (Sees.ofOwn o0)).mono ?_
    rintro e w3 ⟨rfl, b3⟩
    replace o0 := ownOver o0 b3
    replace o1 := ownOver o1 b3
    have B3 : Below w.heap.size w w3 := B2.trans (b3.mono B2.size)
    go_wp2_with fail
    refine (markPartS_own _ L.length _ _ _ hL o1).mono ?_
    rintro e w4 ⟨rfl, o1, hg4⟩
    have hlo := Nat.le_refl w1.heap.size
    have B4 : Below w.heap.size w w4 := B3.grown hg4 B3.size (fun j hj => by have := o1n j hj; have := B1.size; omega)
    replace o0 := ownGrown o0 hg4 (ownNo2 (fun j hj => (o0n j hj).2) (fun j hj => (o1n j hj).1) hlo)
    go_wp2_with fail
    refine (heldPartS_seen _ _ _ _ _ hL (Sees.ofOwn o1)).mono ?_
    rintro e w' ⟨rfl, rfl⟩
    go_wp2_with fail
    refine (J _ (hE.over B4)).mono ?_
    rintro e w5 ⟨t, rfl, o2, b5⟩
    obtain ⟨tA, tc, rfl⟩ := ownShape o2
    replace o0 := ownOver o0 b5
    replace o1 := ownOver o1 b5
    have B5 : Below w.heap.size w w5 := B4.trans (b5.mono B4.size)
    have o2n := o2.lt
    go_wp2_with fail
    refine (eqPartS_same _ _ _ _ _ L _ rfl hL (Sees.ofOwn o2) (Sees.ofOwn o0)).mono ?_
    rintro e w6 ⟨rfl, b6⟩
    replace o0 := ownOver o0 b6
    replace o1 := ownOver o1 b6
    replace o2 := ownOver o2 b6
    have B6 : Below w.heap.size w w6 := B5.trans (b6.mono B5.size)
    go_wp2_with fail
    refine (heldPartS_seen _ _ _ _ _ hL (Sees.ofOwn o1)).mono ?_
    rintro e w' ⟨rfl, rfl⟩
    go_wp2_with fail
    go_ret
    exact ⟨rfl, B6⟩
  · have n0 : 1048576 < (a.size : Int) := by omega
    go_enter Tryd.func5, Tryd.ntmps5
    go_wp2_with fail
    go_ret
    exact ⟨rfl, Below.refl _ _⟩
end Go.Proofs.YtibcbhphkafgjaaDoor
