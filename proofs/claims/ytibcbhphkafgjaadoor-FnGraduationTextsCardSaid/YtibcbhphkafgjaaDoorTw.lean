/- The law FnGraduationTexts (layer 7). No condition but the variables. -/
import Derived.Test.YtibcbhphkafgjaaDoorDrT
import Derived.Test.YtibcbhphkafgjaaDoorTr
import Derived.Test.YtibcbhphkafgjaaDoorTf
import Derived.Test.YtibcbhphkafgjaaDoorLike
namespace Go.Proofs.YtibcbhphkafgjaaDoor
open Go.RowKit
set_option linter.unusedVariables false
set_option linter.unusedSimpArgs false

theorem gGN_none {w w' : World} {e : Ending} (h : GivesGN gv1 0 w e w') : ∃ v L, e = .returned v ∧ L.length ≤ 12 ∧ I64s3 L ∧ w'.ownsRow w.heap.size 50 3 v L.length (cells3 L) ∧ Below w.heap.size w w' := by
  obtain ⟨v, L, ns, he, hn, _, h12, hL, ho, hb⟩ := h
  exact ⟨v, L, he, h12, hL, ho, hb⟩
/-- a text written: it is the graduation's -/
theorem gText_code {G : List (Int × Int × Int)} {T : List UInt8} {bad : Int} (h : rGText G = (T, bad)) (hb : bad = 0) : rRead numR T = (G, 0) := by
  unfold rGText at h
  by_cases hg : gradB G = true
  · rw [if_pos hg] at h
    injection h with h1 h2
    rw [← h1]
    exact read_back hg
  · rw [if_neg hg] at h
    injection h with h1 h2
    omega
theorem gText_len {G : List (Int × Int × Int)} {T : List UInt8} {bad : Int} (h : rGText G = (T, bad)) : T.length ≤ 792 := by
  have := rGText_len G
  rw [h] at this
  exact this
set_option maxRecDepth 100000 in
set_option maxHeartbeats 8000000 in
theorem fnGraduationTexts_walk (A : Option Addr) (n c : Nat) (l : List Int) (w : World) (hl : l.length = n) (_hc : n ≤ c) (hm : c ≤ maxLen) (hs : Sees w w.heap.size A (l.map (Value.int .u8))) (h8 : U8s l) (hE : EnvT w) :
    Calls Tryd.prog 6 #[.slice A n c] w fun e w' => e = .returned (.bool true) ∧ Below w.heap.size w w' := by
  have hHE := Lib.hid hE
  clear hE
  unfold maxLen at hm
  have BG := fun W => big_small A n c W (by omega)
  by_cases hbig : 4096 < n
  · rw [show decide (4096 < n) = true from decide_eq_true hbig] at BG
    go_enter Tryd.func6, Tryd.ntmps6
    go_wp2_with (go_at_call 21; refine (BG _).mono ?_; rintro e w' ⟨rfl, rfl⟩)
    go_ret
    exact ⟨rfl, Below.refl _ _⟩
  · rw [show decide (4096 < n) = false from decide_eq_false hbig] at BG
    have hn : n ≤ 1048576 := by omega
    go_enter Tryd.func6, Tryd.ntmps6
    go_wp2_with (go_at_call 21; refine (BG _).mono ?_; rintro e w' ⟨rfl, rfl⟩)
    clear BG
    go_wp2_with fail
    refine ((DrawGraduationText_any A n c l _ hl hn h8 hs).mono fun e w' h => gGN_none h).mono ?_
    rintro e w1 ⟨g, G, rfl, g12, gI, og, hb1⟩
    obtain ⟨gA, gc, rfl⟩ := ownShape og
    have B1 : Below w.heap.size w w1 := (Below.refl w.heap.size w).trans (hb1.mono (Below.refl w.heap.size w).size)
    clear hb1
    have I1 := fun W hW hT => iGraduationText_any gA G.length gc G W rfl (by omega) hW gI hT
    have S1 := fun W hW => sGraduationText_any gA G.length gc G W rfl (by omega) hW gI
    obtain ⟨⟨T, bad⟩, H1⟩ : ∃ p, Hid (rGText G = p) := ⟨_, Lib.hid rfl⟩
    rw [H1.out] at I1 S1
    simp only at I1 S1
    go_wp2_with fail
    refine (I1 _ (Sees.ofOwn og) (hHE.out.over B1).tab).mono ?_
    rintro e w2 ⟨rfl, hb2⟩
    replace og := ownOver og hb2
    have B2 : Below w.heap.size w w2 := B1.trans (hb2.mono B1.size)
    clear hb2
    go_wp2_with fail
    refine (S1 _ (Sees.ofOwn og)).mono ?_
    rintro e w3 ⟨rfl, hb3⟩
    replace og := ownOver og hb3
    have B3 : Below w.heap.size w w3 := B2.trans (hb3.mono B2.size)
    clear hb3
    go_wp2_with fail
    refine (DrawReadGraduation_any A n c l _ hl hn h8 ((hs.over B3).wider B3.size)).mono ?_
    rintro e w4 ⟨x, rfl, hx, hb4⟩
    replace og := ownOver og hb4
    have B4 : Below w.heap.size w w4 := B3.trans (hb4.mono B3.size)
    clear hb4
    obtain ⟨l2, hl2⟩ : ∃ l2, x.data.toList = l2 := ⟨_, rfl⟩
    obtain rfl : x = ⟨l2.toArray⟩ := by rw [← hl2, Lib.mk_data]
    have h2 : l2.length ≤ 2000000 := by rw [bytesSize] at hx; omega
    clear hx hl2
    obtain ⟨⟨R, one⟩, H2⟩ : ∃ p, Hid (rRead numR l2 = p) := ⟨_, Lib.hid rfl⟩
    have hR : R.length ≤ 1048576 := by have := rRead_len numR l2; rw [H2.out] at this; exact Nat.le_trans this (by decide)
    have RI : I64s3 R := by have := rRead_i64 numR l2; rw [H2.out] at this; exact this
    have I2 := fun (W : World) (hW : EnvT W) => (show Calls Tryd.prog 18 #[.string ⟨l2.toArray⟩] W (GivesS 50 3 R.length (cells3 R) one W) by have := iReadGraduation_any l2 W h2 hW; rw [H2.out] at this; exact this)
    have S2 := fun (W : World) => (show Calls Tryd.prog 17 #[.string ⟨l2.toArray⟩] W (GivesS 50 3 R.length (cells3 R) one W) by have := sReadGraduation_any l2 W h2; rw [← rRead_same, H2.out] at this; exact this)
    go_wp2_with fail
    refine (I2 _ (hHE.out.over B4)).mono ?_
    rintro e w5 ⟨u, rfl, ou, hb5⟩
    replace og := ownOver og hb5
    obtain ⟨uA, uc, rfl⟩ := ownShape ou
    have B5 : Below w.heap.size w w5 := B4.trans (hb5.mono B4.size)
    clear hb5
    go_wp2_with fail
    refine (S2 _).mono ?_
    rintro e w6 ⟨v, rfl, ov, hb6⟩
    replace og := ownOver og hb6
    replace ou := ownOver ou hb6
    obtain ⟨vA, vc, rfl⟩ := ownShape ov
    have B6 : Below w.heap.size w w6 := B5.trans (hb6.mono B5.size)
    clear hb6
    have E8 := Lib.hid (fun (h : one = 0) => (show rGText R = (l2, 0) from by have := text_back (l := l2) (by rw [H2.out]; exact h); rw [H2.out] at this; exact this))
    have E9 := Lib.hid (gText_code H1.out)
    have hT := gText_len H1.out
    clear I1 S1 I2 S2 hl h8 hs
    go_wp2_with fail
    refine (likeParts_same _ _ _ _ _ R _ rfl hR (Sees.ofOwn ou) (Sees.ofOwn ov)).mono ?_
    rintro e w7 ⟨rfl, hb7⟩
    replace og := ownOver og hb7
    replace ou := ownOver ou hb7
    replace ov := ownOver ov hb7
    have B7 : Below w.heap.size w w7 := B6.trans (hb7.mono B6.size)
    clear hb7
    clear ov
    by_cases ho0 : one = 0
    · have e8 := E8.out ho0
      have I4 := fun W hW hT => iGraduationText_any uA R.length uc R W rfl hR hW RI hT
      rw [e8] at I4
      simp only at I4
      subst ho0
      clear e8
      go_wp2_with fail
      refine (I4 _ (Sees.ofOwn ou) (hHE.out.over B7).tab).mono ?_
      rintro e w8 ⟨rfl, hb8⟩
      replace og := ownOver og hb8
      replace ou := ownOver ou hb8
      have B8 : Below w.heap.size w w8 := B7.trans (hb8.mono B7.size)
      clear hb8
      by_cases hb0 : bad = 0
      · have e9 := E9.out hb0
        have I3 := fun (W : World) (hW : EnvT W) => (show Calls Tryd.prog 18 #[.string ⟨T.toArray⟩] W (GivesS 50 3 G.length (cells3 G) 0 W) by have := iReadGraduation_any T W (by omega) hW; rw [e9] at this; exact this)
        have hG : G.length ≤ 1048576 := by omega
        subst hb0
        clear e9 E8 E9
        go_wp2_with fail
        refine (I3 _ (hHE.out.over B8)).mono ?_
        rintro e w9 ⟨z, rfl, oz, hb9⟩
        replace og := ownOver og hb9
        replace ou := ownOver ou hb9
        obtain ⟨zA, zc, rfl⟩ := ownShape oz
        have B9 : Below w.heap.size w w9 := B8.trans (hb9.mono B8.size)
        clear hb9
        go_wp2_with fail
        refine (likeParts_same _ _ _ _ _ G _ rfl hG (Sees.ofOwn oz) (Sees.ofOwn og)).mono ?_
        rintro e w10 ⟨rfl, hb10⟩
        replace og := ownOver og hb10
        replace ou := ownOver ou hb10
        replace oz := ownOver oz hb10
        have B10 : Below w.heap.size w w10 := B9.trans (hb10.mono B9.size)
        clear hb10
        go_wp2_with fail
        go_ret
        exact ⟨rfl, B10⟩
      · have tb : (bad != 0) = true := by simpa using hb0
        clear hb0 E8 E9
        go_wp2_with fail
        go_ret
        exact ⟨rfl, B8⟩
    · have t1 : (one == 0) = false := beq_false_of_ne ho0
      clear ho0
      by_cases hb0 : bad = 0
      · have e9 := E9.out hb0
        have I3 := fun (W : World) (hW : EnvT W) => (show Calls Tryd.prog 18 #[.string ⟨T.toArray⟩] W (GivesS 50 3 G.length (cells3 G) 0 W) by have := iReadGraduation_any T W (by omega) hW; rw [e9] at this; exact this)
        have hG : G.length ≤ 1048576 := by omega
        subst hb0
        clear e9 E8 E9
        go_wp2_with fail
        refine (I3 _ (hHE.out.over B7)).mono ?_
        rintro e w8 ⟨z, rfl, oz, hb8⟩
        replace og := ownOver og hb8
        replace ou := ownOver ou hb8
        obtain ⟨zA, zc, rfl⟩ := ownShape oz
        have B8 : Below w.heap.size w w8 := B7.trans (hb8.mono B7.size)
        clear hb8
        go_wp2_with fail
        refine (likeParts_same _ _ _ _ _ G _ rfl hG (Sees.ofOwn oz) (Sees.ofOwn og)).mono ?_
        rintro e w9 ⟨rfl, hb9⟩
        replace og := ownOver og hb9
        replace ou := ownOver ou hb9
        replace oz := ownOver oz hb9
        have B9 : Below w.heap.size w w9 := B8.trans (hb9.mono B8.size)
        clear hb9
        go_wp2_with fail
        go_ret
        exact ⟨rfl, B9⟩
      · have tb : (bad != 0) = true := by simpa using hb0
        clear hb0 E8 E9
        go_wp2_with fail
        go_ret
        exact ⟨rfl, B7⟩
end Go.Proofs.YtibcbhphkafgjaaDoor
