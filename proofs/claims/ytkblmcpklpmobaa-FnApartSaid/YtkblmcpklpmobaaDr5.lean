/- Draws of ticks (layer 8). No condition. -/
import Derived.Test.YtkblmcpklpmobaaDr4
import Derived.Test.YtkblmcpklpmobaaTo2
namespace Go.Proofs.Ytkblmcpklpmobaa
open Go.RowKit
set_option linter.unusedVariables false
set_option linter.unusedSimpArgs false

theorem madeZero (n : Nat) : (madeCells #[Value.int .i64 0, .int .i64 0, .int .i64 0] (n * 3)).toList = cells3 (List.replicate n (0, 0, 0)) := by
  have h1 : (madeCells #[Value.int .i64 0, .int .i64 0, .int .i64 0] (n * 3)).toList = List.replicate (n * 3) (Value.int .i64 0) := by
    apply List.ext_getElem?
    intro j
    by_cases hj : j < n * 3
    · have : ∀ r, r < 3 → ([Value.int .i64 0, .int .i64 0, .int .i64 0] : List Value)[r]?.getD default = Value.int .i64 0 := fun r hr => by
        rcases r with _ | _ | _ | r
        · rfl
        · rfl
        · rfl
        · omega
      simp [madeCells, hj, this (j % 3) (Nat.mod_lt _ (by omega))]
    · simp [madeCells, hj]
  rw [h1]
  clear h1
  induction n with
  | zero => rfl
  | succ n ih => rw [List.replicate_succ, cells3, ← ih, show (n + 1) * 3 = n * 3 + 1 + 1 + 1 by omega, List.replicate_succ, List.replicate_succ, List.replicate_succ]
/-- ticks drawn: in a block of their own -/
def GivesTk (b : Nat) (A : Option Addr) (n c : Nat) (l : List Int) (w : World) (e : Ending) (w' : World) : Prop := ∃ v T, e = .returned v ∧ T.length ≤ 151 ∧ I64s3 T ∧ w'.ownsRow w.heap.size 51 3 v T.length (cells3 T) ∧ Src w' b A n c l ∧ w.grownBy w' (some b)
theorem i64s3_snoc {L : List (Int × Int × Int)} {x y z : Int} (h : I64s3 L) (h1 : I64 x) (h2 : I64 y) (h3 : I64 z) : I64s3 (L ++ [(x, y, z)]) := fun q hq => by
  rcases List.mem_append.1 hq with hq | hq
  · exact h q hq
  · rw [List.mem_singleton] at hq; subst hq; exact ⟨h1, h2, h3⟩
theorem i64s3_take {L : List (Int × Int × Int)} {k : Nat} (h : I64s3 L) : I64s3 (L.take k) := fun q hq => h q (List.mem_of_mem_take hq)
theorem i64s3_rep (n : Nat) : I64s3 (List.replicate n (0, 0, 0)) := fun q hq => by
  rw [List.eq_of_mem_replicate hq]
  unfold I64
  simp
theorem rTicks_i64 (l : List (Int × Int × Int)) (s len lo hi : Int) : I64s3 (rTicks l s len lo hi).1 := by
  unfold rTicks
  split
  · split
    · rename_i hb
      split
      · intro q hq
        obtain ⟨x, hx, rfl⟩ := ticksIn_mem hq
        simp only [Bool.and_eq_true] at hb
        have ln := inB_iff.1 hb.1.1.2
        have a := inB_iff.1 hb.1.2
        have b := inB_iff.1 hb.2
        have := (keepL_mem hx).2
        have hd : Dig x := ⟨by omega, by omega⟩
        have m := mid_bd (s := s) hd ln.1 ln.2
        have h := heightOf_bd x
        unfold tickAt I64
        simp only
        omega
      · intro q hq; cases hq
    · intro q hq; cases hq
  · intro q hq; cases hq
theorem rTicks_150 (l : List (Int × Int × Int)) (s len lo hi : Int) : (rTicks l s len lo hi).1.length ≤ 150 := by
  unfold rTicks
  split
  · split
    · split
      · rw [ticksIn_length]; assumption
      · simp
    · simp
  · simp
set_option maxRecDepth 100000 in
set_option maxHeartbeats 8000000 in
theorem l08Draw_any (b : Nat) (A : Option Addr) (n c : Nat) (l : List Int) (w : World) (hl : l.length = n) (hn : n ≤ 1048576) (h8 : U8s l) (hS : Src w b A n c l) :
    Calls Try.prog 73 #[.pointer (some ⟨b, 0, none⟩)] w (GivesTk b A n c l w) := by
  have y0 := hS.inside
  obtain ⟨i0, hi', hz0, hz1, hz2⟩ := info_parts infoTickT
  go_enter Try.func73, Try.ntmps73
  go_wp2_with fail
  refine (l01Next_any _ b A n c l _ hl hn h8 (hS.alloc _)).mono ?_
  rintro e w1 ⟨v1, rfl, lo1, hi1, S1, g1⟩
  have o1 : w1.ownsRow w.heap.size 51 3 (.slice (some ⟨w.heap.size, 0, none⟩) 0 0) ([] : List (Int × Int × Int)).length (cells3 []) := ownGrown (World.ownsRow_made (base := w.heap.size) w #[] 0 (Nat.le_refl _) (Nat.zero_le _) rfl) g1 (.inr (by show some w.heap.size ≠ some b; intro e; injection e; omega))
  have G1 : w.grownBy w1 (some b) := grownTrans (World.grownBy_alloc w _ _) g1
  clear g1 hi1
  by_cases q1 : v1 = 0
  · have t1 : (v1 == 0) = true := beq_iff_eq.2 q1
    clear q1
    go_wp2_with fail
    refine (l07Valid_any b A n c l _ hl hn h8 S1).mono ?_
    rintro e w2 ⟨vg, L, rfl, L1, L12, HL, og, S2, g2⟩
    obtain ⟨gA, gc, rfl⟩ := ownShape og
    have o2 := ownGrown o1 g2 (ownNo (fun q hq => by have := (o1.lt q hq).1; omega))
    have G2 : w.grownBy w2 (some b) := grownTrans G1 g2
    have z1 := G1.size
    clear g2 o1 S1 G1
    go_wp2_with fail
    refine (l01Next_any _ b A n c l _ hl hn h8 S2).mono ?_
    rintro e w3 ⟨v3, rfl, lo3, hi3, S3, g3⟩
    have hv3 : v3 ≤ 39 := by omega
    have o3 := ownGrown o2 g3 (ownNo (fun q hq => by have := (o2.lt q hq).1; omega))
    have og3 := ownGrown og g3 (ownNo (fun q hq => by have := (og.lt q hq).1; omega))
    have G3 : w.grownBy w3 (some b) := grownTrans G2 g3
    clear g3 o2 og S2 G2 hi3
    have TO := fun W hW => sTicksOf_any gA L.length gc L 0 25000 (1000 + 100 * v3) 9999 W rfl (by omega) hW HL.i64
    have TI := Lib.hid (rTicks_i64 L 0 25000 (1000 + 100 * v3) 9999)
    have T150 := rTicks_150 L 0 25000 (1000 + 100 * v3) 9999
    obtain ⟨⟨T, code⟩, HV⟩ : ∃ p, Hid (rTicks L 0 25000 (1000 + 100 * v3) 9999 = p) := ⟨_, Lib.hid rfl⟩
    rw [HV.out] at TO TI T150
    simp only at TO TI T150
    go_wp2_with fail
    refine (TO _ (Sees.ofOwn og3)).mono ?_
    rintro e w4 ⟨vt, rfl, ot, hb4⟩
    obtain ⟨tA, tc, rfl⟩ := ownShape ot
    have o4 := ownOver o3 hb4
    have S4 := S3.over hb4
    have G4 : w.grownBy w4 (some b) := gBel G3 hb4
    have z3 := G3.size
    clear TO hb4 o3 S3 G3 og3
    by_cases q2 : code = 0
    · have t2 : (code == 0) = true := beq_iff_eq.2 q2
      clear q2
      by_cases q3 : 40 < T.length
      · rcases ownRow ot with ⟨_, hn0, _⟩ | ⟨g, cap, cur, hv, hbg, _, hmc, hcm, _, _⟩
        · omega
        injection hv with hA _ hc
        subst hA hc
        have m6 : (40 : Int) ≤ (tc : Int) := by omega
        go_wp2_with fail
        go_ret
        refine ⟨_, T.take 40, rfl, by rw [List.length_take]; omega, i64s3_take TI.out, ?_, S4, G4⟩
        rw [List.length_take, Nat.min_eq_left (by omega), ← cells3_take]
        exact ownLower (ownFront ot (by omega)) (by omega)
      · go_wp2_with fail
        clear ot
        refine (l01Next_any _ b A n c l _ hl hn h8 (S4)).mono ?_
        rintro e w30 ⟨v30, rfl, lo30, hi30, S30, g30⟩
        have hv30 : v30 ≤ 11 := by omega
        have o30 := ownGrown o4 g30 (ownNo (fun q hq => by have := (o4.lt q hq).1; omega))
        have G30 : w.grownBy w30 (some b) := grownTrans G4 g30
        clear g30 hi30
        go_wp2_with fail
        go_loopw [3, 6] (fun vo nv wr => ∃ (T : List (Int × Int × Int)) (y : Int), nv = .int .i64 y ∧ 0 ≤ y ∧ y ≤ 11 ∧ (T.length : Int) + y ≤ 11 ∧ I64s3 T ∧ wr.ownsRow w.heap.size 51 3 vo T.length (cells3 T) ∧ Src wr b A n c l ∧ w.grownBy wr (some b)) (fun _ nv _ => (intOf nv).toNat)
        case atStart => exact ⟨[], v30, rfl, lo30, hv30, by simp; omega, (fun p hp => by cases hp), o30, S30, G30⟩
        case round =>
          obtain ⟨T, y, rfl, yl, yh, hTy, HT, hown, hSr, hG⟩ := hrel
          have zr := hG.size
          have yr := hSr.inside
          have HT' := Lib.hid HT
          clear HT S30 G30 o30
          obtain ⟨A2, c2, rfl⟩ := ownShape hown
          by_cases hy : 0 < y
          · go_wp2_with fail
            refine (l01Next_any _ b A n c l _ hl hn h8 (hSr)).mono ?_
            rintro e w31 ⟨v31, rfl, lo31, hi31, S31, g31⟩
            have hv31 : v31 ≤ 8999 := by omega
            have o31 := ownGrown hown g31 (ownNo (fun q hq => by have := (hown.lt q hq).1; omega))
            have G31 : w.grownBy w31 (some b) := grownTrans hG g31
            clear g31 hi31
            go_wp2_with fail
            refine (l01Next_any _ b A n c l _ hl hn h8 (S31)).mono ?_
            rintro e w32 ⟨v32, rfl, lo32, hi32, S32, g32⟩
            have hv32 : v32 ≤ 1999 := by omega
            have o32 := ownGrown o31 g32 (ownNo (fun q hq => by have := (o31.lt q hq).1; omega))
            have G32 : w.grownBy w32 (some b) := grownTrans G31 g32
            clear g32 hi32
            go_wp2_with fail
            refine (l01Next_any _ b A n c l _ hl hn h8 (S32)).mono ?_
            rintro e w33 ⟨v33, rfl, lo33, hi33, S33, g33⟩
            have hv33 : v33 ≤ 4 := by omega
            have o33 := ownGrown o32 g33 (ownNo (fun q hq => by have := (o32.lt q hq).1; omega))
            have G33 : w.grownBy w33 (some b) := grownTrans G32 g33
            have z33 := G33.size
            clear g33 hi33 hown hSr hG o31 o32 S31 S32 G31 G32
            go_wp2_with (at_builtin; refine wpList_append_own_at _ rfl _ _ 40 rfl w.heap.size 51 i0 _ 3 24 Try.underlying40 hi' hz0 hz1 hz2 rfl (by decide) _ _ _ rfl (o33.alloc _) ⟨w33.heap.size, 0, none⟩ 1 1 [.int .i64 (1000 + v31), .int .i64 v32, .int .i64 v33] rfl rfl ?_ ?_ ?_ ?_ ?_ ?_; exact newsAt _ _ rfl _ _; (intro u hu; simp at hu; rcases hu with rfl | rfl | rfl <;> rfl); (unfold maxLen; omega); omega; (simp; omega); intro v' w34 hown1 hgr1 _ _)
            have S34 := (S33.alloc (.cells #[.int .i64 (1000 + v31), .int .i64 v32, .int .i64 v33] 51)).grown hgr1 (fun g hg => by have := (o33.lt g hg).1; omega)
            have G34 : w.grownBy w34 (some b) := gGrown (gAlloc G33 (.cells #[.int .i64 (1000 + v31), .int .i64 v32, .int .i64 v33] 51)) hgr1 (fun g hg => (o33.lt g hg).1)
            clear hgr1 o33 S33 G33
            go_wp2_with fail
            go_roundw
            case rel => exact ⟨T ++ [(1000 + v31, v32, v33)], y - 1, rfl, by omega, by omega, by simp; omega, i64s3_snoc HT'.out (by unfold I64; omega) (by unfold I64; omega) (by unfold I64; omega), by rw [cells3_append]; simpa [cells3] using hown1, S34, G34⟩
            case measure => simp [intOf]; omega
          · go_wp2_with fail
            refine (l01Next_any _ b A n c l _ hl hn h8 (hSr)).mono ?_
            rintro e w35 ⟨v35, rfl, lo35, hi35, S35, g35⟩
            have hv35 : v35 ≤ 29 := by omega
            have o35 := ownGrown hown g35 (ownNo (fun q hq => by have := (hown.lt q hq).1; omega))
            have G35 : w.grownBy w35 (some b) := grownTrans hG g35
            clear g35 hi35
            have z35 := G35.size
            by_cases q0 : v35 = 0
            · have t0 : (v35 == 0) = true := beq_iff_eq.2 q0
              clear q0
              go_wp2_with fail
              refine (l01Next_any _ b A n c l _ hl hn h8 (S35)).mono ?_
              rintro e w36 ⟨v36, rfl, lo36, hi36, S36, g36⟩
              have hv36 : v36 ≤ 1 := by omega
              have o36 := ownGrown o35 g36 (ownNo (fun q hq => by have := (o35.lt q hq).1; omega))
              have G36 : w.grownBy w36 (some b) := grownTrans G35 g36
              clear g36 hi36
              have z36 := G36.size
              rcases (show v36 = 0 ∨ v36 = 1 by omega) with rfl | rfl
              · have hmk : ∀ W : World, (Instr.makeSlice 40 (.int .i64 150) (.int .i64 150)).run Try.prog W = .ok (.slice (some ⟨W.heap.size, 0, none⟩) 150 150) (W.alloc (.cells (madeCells #[Value.int .i64 0, .int .i64 0, .int .i64 0] (150 * 3)) 51)) := fun W => by
                  have := makeRow (P := Try.prog) 40 51 i0 _ Try.underlying40 hi' hz0 150 (by rw [hz2]; omega) (by omega) W
                  rw [hz1] at this
                  exact this
                have hmz := Lib.hid (madeZero 150)
                have hms := Lib.hid (size_madeCells #[Value.int .i64 0, .int .i64 0, .int .i64 0] (150 * 3))
                generalize madeCells #[Value.int .i64 0, .int .i64 0, .int .i64 0] (150 * 3) = cs at *
                go_wp2_with (simp only [hmk])
                go_ret
                refine ⟨_, List.replicate 150 (0, 0, 0), rfl, by rw [List.length_replicate]; omega, i64s3_rep 150, ?_, S36.alloc _, gAlloc G36 _⟩
                rw [List.length_replicate, ← hmz.out]
                exact World.ownsRow_lit w36 cs 150 (by omega) (by unfold maxLen; omega) hms.out
              · have hmk : ∀ W : World, (Instr.makeSlice 40 (.int .i64 151) (.int .i64 151)).run Try.prog W = .ok (.slice (some ⟨W.heap.size, 0, none⟩) 151 151) (W.alloc (.cells (madeCells #[Value.int .i64 0, .int .i64 0, .int .i64 0] (151 * 3)) 51)) := fun W => by
                  have := makeRow (P := Try.prog) 40 51 i0 _ Try.underlying40 hi' hz0 151 (by rw [hz2]; omega) (by omega) W
                  rw [hz1] at this
                  exact this
                have hmz := Lib.hid (madeZero 151)
                have hms := Lib.hid (size_madeCells #[Value.int .i64 0, .int .i64 0, .int .i64 0] (151 * 3))
                generalize madeCells #[Value.int .i64 0, .int .i64 0, .int .i64 0] (151 * 3) = cs at *
                go_wp2_with (simp only [hmk])
                go_ret
                refine ⟨_, List.replicate 151 (0, 0, 0), rfl, by rw [List.length_replicate]; omega, i64s3_rep 151, ?_, S36.alloc _, gAlloc G36 _⟩
                rw [List.length_replicate, ← hmz.out]
                exact World.ownsRow_lit w36 cs 151 (by omega) (by unfold maxLen; omega) hms.out
            · have t0 : (v35 == 0) = false := by simpa using q0
              clear q0
              by_cases q1 : v35 = 1
              · have t1 : (v35 == 1) = true := beq_iff_eq.2 q1
                clear q1
                go_wp2_with fail
                refine (l01Pick_any _ _ _ _ b A n c l _ hl hn h8 (S35.alloc _) (Full.made _ _ _) ?_ ?_ ?_ ?_).mono ?_
                · first | exact nums_3 _ _ _ | exact nums_4 _ _ _ _ | exact nums_5 _ _ _ _ _ | exact nums_6 _ _ _ _ _ _ | exact nums_7 _ _ _ _ _ _ _ | exact nums_8 _ _ _ _ _ _ _ _
                · omega
                · omega
                · omega
                rintro e w37 ⟨v37, rfl, mem37, S37, g37⟩
                have i37 : I64 v37 := pick3 mem37 (by unfold I64; omega) (by unfold I64; omega) (by unfold I64; omega)
                have o37 := ownGrown (o35.alloc _) g37 (ownNo (fun q hq => by have := (o35.lt q hq).1; omega))
                have G37 : w.grownBy w37 (some b) := grownTrans (gAlloc G35 _) g37
                clear g37 mem37
                go_wp2_with fail
                refine (l01Next_any _ b A n c l _ hl hn h8 (S37)).mono ?_
                rintro e w38 ⟨v38, rfl, lo38, hi38, S38, g38⟩
                have hv38 : v38 ≤ 6 := by omega
                have o38 := ownGrown o37 g38 (ownNo (fun q hq => by have := (o37.lt q hq).1; omega))
                have G38 : w.grownBy w38 (some b) := grownTrans G37 g38
                clear g38 hi38
                have z38 := G38.size
                obtain ⟨hh, hhe⟩ : ∃ hh, hh = v38 - 1 := ⟨_, rfl⟩
                go_wp2_with (at_builtin; refine wpList_append_own_at _ rfl _ _ 40 rfl w.heap.size 51 i0 _ 3 24 Try.underlying40 hi' hz0 hz1 hz2 rfl (by decide) _ _ _ rfl (o38.alloc _) ⟨w38.heap.size, 0, none⟩ 1 1 [.int .i64 0, .int .i64 v37, .int .i64 (v38 - 1)] rfl rfl ?_ ?_ ?_ ?_ ?_ ?_; exact newsAt _ _ rfl _ _; (intro u hu; simp at hu; rcases hu with rfl | rfl | rfl <;> rfl); (unfold maxLen; omega); omega; (simp; omega); intro v' w39 hown1 hgr1 _ _)
                have S39 := (S38.alloc (.cells #[.int .i64 0, .int .i64 v37, .int .i64 (v38 - 1)] 51)).grown hgr1 (fun g hg => by have := (o38.lt g hg).1; omega)
                have G39 : w.grownBy w39 (some b) := gGrown (gAlloc G38 (.cells #[.int .i64 0, .int .i64 v37, .int .i64 (v38 - 1)] 51)) hgr1 (fun g hg => (o38.lt g hg).1)
                go_wp2_with fail
                go_ret
                exact ⟨_, T ++ [(0, v37, v38 - 1)], rfl, by simp; omega, i64s3_snoc HT'.out (by unfold I64; omega) i37 (by unfold I64; omega), by rw [cells3_append]; simpa [cells3] using hown1, S39, G39⟩
              · have t1 : (v35 == 1) = false := by simpa using q1
                clear q1
                go_wp2_with fail
                go_ret
                exact ⟨_, T, rfl, by omega, HT'.out, o35, S35, G35⟩
    · have t2 : (code == 0) = false := by simpa using q2
      clear q2
      go_wp2_with fail
      clear ot
      refine (l01Next_any _ b A n c l _ hl hn h8 (S4)).mono ?_
      rintro e w30 ⟨v30, rfl, lo30, hi30, S30, g30⟩
      have hv30 : v30 ≤ 11 := by omega
      have o30 := ownGrown o4 g30 (ownNo (fun q hq => by have := (o4.lt q hq).1; omega))
      have G30 : w.grownBy w30 (some b) := grownTrans G4 g30
      clear g30 hi30
      go_wp2_with fail
      go_loopw [3, 6] (fun vo nv wr => ∃ (T : List (Int × Int × Int)) (y : Int), nv = .int .i64 y ∧ 0 ≤ y ∧ y ≤ 11 ∧ (T.length : Int) + y ≤ 11 ∧ I64s3 T ∧ wr.ownsRow w.heap.size 51 3 vo T.length (cells3 T) ∧ Src wr b A n c l ∧ w.grownBy wr (some b)) (fun _ nv _ => (intOf nv).toNat)
      case atStart => exact ⟨[], v30, rfl, lo30, hv30, by simp; omega, (fun p hp => by cases hp), o30, S30, G30⟩
      case round =>
        obtain ⟨T, y, rfl, yl, yh, hTy, HT, hown, hSr, hG⟩ := hrel
        have zr := hG.size
        have yr := hSr.inside
        have HT' := Lib.hid HT
        clear HT S30 G30 o30
        obtain ⟨A2, c2, rfl⟩ := ownShape hown
        by_cases hy : 0 < y
        · go_wp2_with fail
          refine (l01Next_any _ b A n c l _ hl hn h8 (hSr)).mono ?_
          rintro e w31 ⟨v31, rfl, lo31, hi31, S31, g31⟩
          have hv31 : v31 ≤ 8999 := by omega
          have o31 := ownGrown hown g31 (ownNo (fun q hq => by have := (hown.lt q hq).1; omega))
          have G31 : w.grownBy w31 (some b) := grownTrans hG g31
          clear g31 hi31
          go_wp2_with fail
          refine (l01Next_any _ b A n c l _ hl hn h8 (S31)).mono ?_
          rintro e w32 ⟨v32, rfl, lo32, hi32, S32, g32⟩
          have hv32 : v32 ≤ 1999 := by omega
          have o32 := ownGrown o31 g32 (ownNo (fun q hq => by have := (o31.lt q hq).1; omega))
          have G32 : w.grownBy w32 (some b) := grownTrans G31 g32
          clear g32 hi32
          go_wp2_with fail
          refine (l01Next_any _ b A n c l _ hl hn h8 (S32)).mono ?_
          rintro e w33 ⟨v33, rfl, lo33, hi33, S33, g33⟩
          have hv33 : v33 ≤ 4 := by omega
          have o33 := ownGrown o32 g33 (ownNo (fun q hq => by have := (o32.lt q hq).1; omega))
          have G33 : w.grownBy w33 (some b) := grownTrans G32 g33
          have z33 := G33.size
          clear g33 hi33 hown hSr hG o31 o32 S31 S32 G31 G32
          go_wp2_with (at_builtin; refine wpList_append_own_at _ rfl _ _ 40 rfl w.heap.size 51 i0 _ 3 24 Try.underlying40 hi' hz0 hz1 hz2 rfl (by decide) _ _ _ rfl (o33.alloc _) ⟨w33.heap.size, 0, none⟩ 1 1 [.int .i64 (1000 + v31), .int .i64 v32, .int .i64 v33] rfl rfl ?_ ?_ ?_ ?_ ?_ ?_; exact newsAt _ _ rfl _ _; (intro u hu; simp at hu; rcases hu with rfl | rfl | rfl <;> rfl); (unfold maxLen; omega); omega; (simp; omega); intro v' w34 hown1 hgr1 _ _)
          have S34 := (S33.alloc (.cells #[.int .i64 (1000 + v31), .int .i64 v32, .int .i64 v33] 51)).grown hgr1 (fun g hg => by have := (o33.lt g hg).1; omega)
          have G34 : w.grownBy w34 (some b) := gGrown (gAlloc G33 (.cells #[.int .i64 (1000 + v31), .int .i64 v32, .int .i64 v33] 51)) hgr1 (fun g hg => (o33.lt g hg).1)
          clear hgr1 o33 S33 G33
          go_wp2_with fail
          go_roundw
          case rel => exact ⟨T ++ [(1000 + v31, v32, v33)], y - 1, rfl, by omega, by omega, by simp; omega, i64s3_snoc HT'.out (by unfold I64; omega) (by unfold I64; omega) (by unfold I64; omega), by rw [cells3_append]; simpa [cells3] using hown1, S34, G34⟩
          case measure => simp [intOf]; omega
        · go_wp2_with fail
          refine (l01Next_any _ b A n c l _ hl hn h8 (hSr)).mono ?_
          rintro e w35 ⟨v35, rfl, lo35, hi35, S35, g35⟩
          have hv35 : v35 ≤ 29 := by omega
          have o35 := ownGrown hown g35 (ownNo (fun q hq => by have := (hown.lt q hq).1; omega))
          have G35 : w.grownBy w35 (some b) := grownTrans hG g35
          clear g35 hi35
          have z35 := G35.size
          by_cases q0 : v35 = 0
          · have t0 : (v35 == 0) = true := beq_iff_eq.2 q0
            clear q0
            go_wp2_with fail
            refine (l01Next_any _ b A n c l _ hl hn h8 (S35)).mono ?_
            rintro e w36 ⟨v36, rfl, lo36, hi36, S36, g36⟩
            have hv36 : v36 ≤ 1 := by omega
            have o36 := ownGrown o35 g36 (ownNo (fun q hq => by have := (o35.lt q hq).1; omega))
            have G36 : w.grownBy w36 (some b) := grownTrans G35 g36
            clear g36 hi36
            have z36 := G36.size
            rcases (show v36 = 0 ∨ v36 = 1 by omega) with rfl | rfl
            · have hmk : ∀ W : World, (Instr.makeSlice 40 (.int .i64 150) (.int .i64 150)).run Try.prog W = .ok (.slice (some ⟨W.heap.size, 0, none⟩) 150 150) (W.alloc (.cells (madeCells #[Value.int .i64 0, .int .i64 0, .int .i64 0] (150 * 3)) 51)) := fun W => by
                have := makeRow (P := Try.prog) 40 51 i0 _ Try.underlying40 hi' hz0 150 (by rw [hz2]; omega) (by omega) W
                rw [hz1] at this
                exact this
              have hmz := Lib.hid (madeZero 150)
              have hms := Lib.hid (size_madeCells #[Value.int .i64 0, .int .i64 0, .int .i64 0] (150 * 3))
              generalize madeCells #[Value.int .i64 0, .int .i64 0, .int .i64 0] (150 * 3) = cs at *
              go_wp2_with (simp only [hmk])
              go_ret
              refine ⟨_, List.replicate 150 (0, 0, 0), rfl, by rw [List.length_replicate]; omega, i64s3_rep 150, ?_, S36.alloc _, gAlloc G36 _⟩
              rw [List.length_replicate, ← hmz.out]
              exact World.ownsRow_lit w36 cs 150 (by omega) (by unfold maxLen; omega) hms.out
            · have hmk : ∀ W : World, (Instr.makeSlice 40 (.int .i64 151) (.int .i64 151)).run Try.prog W = .ok (.slice (some ⟨W.heap.size, 0, none⟩) 151 151) (W.alloc (.cells (madeCells #[Value.int .i64 0, .int .i64 0, .int .i64 0] (151 * 3)) 51)) := fun W => by
                have := makeRow (P := Try.prog) 40 51 i0 _ Try.underlying40 hi' hz0 151 (by rw [hz2]; omega) (by omega) W
                rw [hz1] at this
                exact this
              have hmz := Lib.hid (madeZero 151)
              have hms := Lib.hid (size_madeCells #[Value.int .i64 0, .int .i64 0, .int .i64 0] (151 * 3))
              generalize madeCells #[Value.int .i64 0, .int .i64 0, .int .i64 0] (151 * 3) = cs at *
              go_wp2_with (simp only [hmk])
              go_ret
              refine ⟨_, List.replicate 151 (0, 0, 0), rfl, by rw [List.length_replicate]; omega, i64s3_rep 151, ?_, S36.alloc _, gAlloc G36 _⟩
              rw [List.length_replicate, ← hmz.out]
              exact World.ownsRow_lit w36 cs 151 (by omega) (by unfold maxLen; omega) hms.out
          · have t0 : (v35 == 0) = false := by simpa using q0
            clear q0
            by_cases q1 : v35 = 1
            · have t1 : (v35 == 1) = true := beq_iff_eq.2 q1
              clear q1
              go_wp2_with fail
              refine (l01Pick_any _ _ _ _ b A n c l _ hl hn h8 (S35.alloc _) (Full.made _ _ _) ?_ ?_ ?_ ?_).mono ?_
              · first | exact nums_3 _ _ _ | exact nums_4 _ _ _ _ | exact nums_5 _ _ _ _ _ | exact nums_6 _ _ _ _ _ _ | exact nums_7 _ _ _ _ _ _ _ | exact nums_8 _ _ _ _ _ _ _ _
              · omega
              · omega
              · omega
              rintro e w37 ⟨v37, rfl, mem37, S37, g37⟩
              have i37 : I64 v37 := pick3 mem37 (by unfold I64; omega) (by unfold I64; omega) (by unfold I64; omega)
              have o37 := ownGrown (o35.alloc _) g37 (ownNo (fun q hq => by have := (o35.lt q hq).1; omega))
              have G37 : w.grownBy w37 (some b) := grownTrans (gAlloc G35 _) g37
              clear g37 mem37
              go_wp2_with fail
              refine (l01Next_any _ b A n c l _ hl hn h8 (S37)).mono ?_
              rintro e w38 ⟨v38, rfl, lo38, hi38, S38, g38⟩
              have hv38 : v38 ≤ 6 := by omega
              have o38 := ownGrown o37 g38 (ownNo (fun q hq => by have := (o37.lt q hq).1; omega))
              have G38 : w.grownBy w38 (some b) := grownTrans G37 g38
              clear g38 hi38
              have z38 := G38.size
              obtain ⟨hh, hhe⟩ : ∃ hh, hh = v38 - 1 := ⟨_, rfl⟩
              go_wp2_with (at_builtin; refine wpList_append_own_at _ rfl _ _ 40 rfl w.heap.size 51 i0 _ 3 24 Try.underlying40 hi' hz0 hz1 hz2 rfl (by decide) _ _ _ rfl (o38.alloc _) ⟨w38.heap.size, 0, none⟩ 1 1 [.int .i64 0, .int .i64 v37, .int .i64 (v38 - 1)] rfl rfl ?_ ?_ ?_ ?_ ?_ ?_; exact newsAt _ _ rfl _ _; (intro u hu; simp at hu; rcases hu with rfl | rfl | rfl <;> rfl); (unfold maxLen; omega); omega; (simp; omega); intro v' w39 hown1 hgr1 _ _)
              have S39 := (S38.alloc (.cells #[.int .i64 0, .int .i64 v37, .int .i64 (v38 - 1)] 51)).grown hgr1 (fun g hg => by have := (o38.lt g hg).1; omega)
              have G39 : w.grownBy w39 (some b) := gGrown (gAlloc G38 (.cells #[.int .i64 0, .int .i64 v37, .int .i64 (v38 - 1)] 51)) hgr1 (fun g hg => (o38.lt g hg).1)
              go_wp2_with fail
              go_ret
              exact ⟨_, T ++ [(0, v37, v38 - 1)], rfl, by simp; omega, i64s3_snoc HT'.out (by unfold I64; omega) i37 (by unfold I64; omega), by rw [cells3_append]; simpa [cells3] using hown1, S39, G39⟩
            · have t1 : (v35 == 1) = false := by simpa using q1
              clear q1
              go_wp2_with fail
              go_ret
              exact ⟨_, T, rfl, by omega, HT'.out, o35, S35, G35⟩
  · have t1 : (v1 == 0) = false := by simpa using q1
    clear q1
    go_wp2_with fail
    refine (l01Next_any _ b A n c l _ hl hn h8 (S1)).mono ?_
    rintro e w30 ⟨v30, rfl, lo30, hi30, S30, g30⟩
    have hv30 : v30 ≤ 11 := by omega
    have o30 := ownGrown o1 g30 (ownNo (fun q hq => by have := (o1.lt q hq).1; omega))
    have G30 : w.grownBy w30 (some b) := grownTrans G1 g30
    clear g30 hi30
    go_wp2_with fail
    go_loopw [3, 6] (fun vo nv wr => ∃ (T : List (Int × Int × Int)) (y : Int), nv = .int .i64 y ∧ 0 ≤ y ∧ y ≤ 11 ∧ (T.length : Int) + y ≤ 11 ∧ I64s3 T ∧ wr.ownsRow w.heap.size 51 3 vo T.length (cells3 T) ∧ Src wr b A n c l ∧ w.grownBy wr (some b)) (fun _ nv _ => (intOf nv).toNat)
    case atStart => exact ⟨[], v30, rfl, lo30, hv30, by simp; omega, (fun p hp => by cases hp), o30, S30, G30⟩
    case round =>
      obtain ⟨T, y, rfl, yl, yh, hTy, HT, hown, hSr, hG⟩ := hrel
      have zr := hG.size
      have yr := hSr.inside
      have HT' := Lib.hid HT
      clear HT S30 G30 o30
      obtain ⟨A2, c2, rfl⟩ := ownShape hown
      by_cases hy : 0 < y
      · go_wp2_with fail
        refine (l01Next_any _ b A n c l _ hl hn h8 (hSr)).mono ?_
        rintro e w31 ⟨v31, rfl, lo31, hi31, S31, g31⟩
        have hv31 : v31 ≤ 8999 := by omega
        have o31 := ownGrown hown g31 (ownNo (fun q hq => by have := (hown.lt q hq).1; omega))
        have G31 : w.grownBy w31 (some b) := grownTrans hG g31
        clear g31 hi31
        go_wp2_with fail
        refine (l01Next_any _ b A n c l _ hl hn h8 (S31)).mono ?_
        rintro e w32 ⟨v32, rfl, lo32, hi32, S32, g32⟩
        have hv32 : v32 ≤ 1999 := by omega
        have o32 := ownGrown o31 g32 (ownNo (fun q hq => by have := (o31.lt q hq).1; omega))
        have G32 : w.grownBy w32 (some b) := grownTrans G31 g32
        clear g32 hi32
        go_wp2_with fail
        refine (l01Next_any _ b A n c l _ hl hn h8 (S32)).mono ?_
        rintro e w33 ⟨v33, rfl, lo33, hi33, S33, g33⟩
        have hv33 : v33 ≤ 4 := by omega
        have o33 := ownGrown o32 g33 (ownNo (fun q hq => by have := (o32.lt q hq).1; omega))
        have G33 : w.grownBy w33 (some b) := grownTrans G32 g33
        have z33 := G33.size
        clear g33 hi33 hown hSr hG o31 o32 S31 S32 G31 G32
        go_wp2_with (at_builtin; refine wpList_append_own_at _ rfl _ _ 40 rfl w.heap.size 51 i0 _ 3 24 Try.underlying40 hi' hz0 hz1 hz2 rfl (by decide) _ _ _ rfl (o33.alloc _) ⟨w33.heap.size, 0, none⟩ 1 1 [.int .i64 (1000 + v31), .int .i64 v32, .int .i64 v33] rfl rfl ?_ ?_ ?_ ?_ ?_ ?_; exact newsAt _ _ rfl _ _; (intro u hu; simp at hu; rcases hu with rfl | rfl | rfl <;> rfl); (unfold maxLen; omega); omega; (simp; omega); intro v' w34 hown1 hgr1 _ _)
        have S34 := (S33.alloc (.cells #[.int .i64 (1000 + v31), .int .i64 v32, .int .i64 v33] 51)).grown hgr1 (fun g hg => by have := (o33.lt g hg).1; omega)
        have G34 : w.grownBy w34 (some b) := gGrown (gAlloc G33 (.cells #[.int .i64 (1000 + v31), .int .i64 v32, .int .i64 v33] 51)) hgr1 (fun g hg => (o33.lt g hg).1)
        clear hgr1 o33 S33 G33
        go_wp2_with fail
        go_roundw
        case rel => exact ⟨T ++ [(1000 + v31, v32, v33)], y - 1, rfl, by omega, by omega, by simp; omega, i64s3_snoc HT'.out (by unfold I64; omega) (by unfold I64; omega) (by unfold I64; omega), by rw [cells3_append]; simpa [cells3] using hown1, S34, G34⟩
        case measure => simp [intOf]; omega
      · go_wp2_with fail
        refine (l01Next_any _ b A n c l _ hl hn h8 (hSr)).mono ?_
        rintro e w35 ⟨v35, rfl, lo35, hi35, S35, g35⟩
        have hv35 : v35 ≤ 29 := by omega
        have o35 := ownGrown hown g35 (ownNo (fun q hq => by have := (hown.lt q hq).1; omega))
        have G35 : w.grownBy w35 (some b) := grownTrans hG g35
        clear g35 hi35
        have z35 := G35.size
        by_cases q0 : v35 = 0
        · have t0 : (v35 == 0) = true := beq_iff_eq.2 q0
          clear q0
          go_wp2_with fail
          refine (l01Next_any _ b A n c l _ hl hn h8 (S35)).mono ?_
          rintro e w36 ⟨v36, rfl, lo36, hi36, S36, g36⟩
          have hv36 : v36 ≤ 1 := by omega
          have o36 := ownGrown o35 g36 (ownNo (fun q hq => by have := (o35.lt q hq).1; omega))
          have G36 : w.grownBy w36 (some b) := grownTrans G35 g36
          clear g36 hi36
          have z36 := G36.size
          rcases (show v36 = 0 ∨ v36 = 1 by omega) with rfl | rfl
          · have hmk : ∀ W : World, (Instr.makeSlice 40 (.int .i64 150) (.int .i64 150)).run Try.prog W = .ok (.slice (some ⟨W.heap.size, 0, none⟩) 150 150) (W.alloc (.cells (madeCells #[Value.int .i64 0, .int .i64 0, .int .i64 0] (150 * 3)) 51)) := fun W => by
              have := makeRow (P := Try.prog) 40 51 i0 _ Try.underlying40 hi' hz0 150 (by rw [hz2]; omega) (by omega) W
              rw [hz1] at this
              exact this
            have hmz := Lib.hid (madeZero 150)
            have hms := Lib.hid (size_madeCells #[Value.int .i64 0, .int .i64 0, .int .i64 0] (150 * 3))
            generalize madeCells #[Value.int .i64 0, .int .i64 0, .int .i64 0] (150 * 3) = cs at *
            go_wp2_with (simp only [hmk])
            go_ret
            refine ⟨_, List.replicate 150 (0, 0, 0), rfl, by rw [List.length_replicate]; omega, i64s3_rep 150, ?_, S36.alloc _, gAlloc G36 _⟩
            rw [List.length_replicate, ← hmz.out]
            exact World.ownsRow_lit w36 cs 150 (by omega) (by unfold maxLen; omega) hms.out
          · have hmk : ∀ W : World, (Instr.makeSlice 40 (.int .i64 151) (.int .i64 151)).run Try.prog W = .ok (.slice (some ⟨W.heap.size, 0, none⟩) 151 151) (W.alloc (.cells (madeCells #[Value.int .i64 0, .int .i64 0, .int .i64 0] (151 * 3)) 51)) := fun W => by
              have := makeRow (P := Try.prog) 40 51 i0 _ Try.underlying40 hi' hz0 151 (by rw [hz2]; omega) (by omega) W
              rw [hz1] at this
              exact this
            have hmz := Lib.hid (madeZero 151)
            have hms := Lib.hid (size_madeCells #[Value.int .i64 0, .int .i64 0, .int .i64 0] (151 * 3))
            generalize madeCells #[Value.int .i64 0, .int .i64 0, .int .i64 0] (151 * 3) = cs at *
            go_wp2_with (simp only [hmk])
            go_ret
            refine ⟨_, List.replicate 151 (0, 0, 0), rfl, by rw [List.length_replicate]; omega, i64s3_rep 151, ?_, S36.alloc _, gAlloc G36 _⟩
            rw [List.length_replicate, ← hmz.out]
            exact World.ownsRow_lit w36 cs 151 (by omega) (by unfold maxLen; omega) hms.out
        · have t0 : (v35 == 0) = false := by simpa using q0
          clear q0
          by_cases q1 : v35 = 1
          · have t1 : (v35 == 1) = true := beq_iff_eq.2 q1
            clear q1
            go_wp2_with fail
            refine (l01Pick_any _ _ _ _ b A n c l _ hl hn h8 (S35.alloc _) (Full.made _ _ _) ?_ ?_ ?_ ?_).mono ?_
            · first | exact nums_3 _ _ _ | exact nums_4 _ _ _ _ | exact nums_5 _ _ _ _ _ | exact nums_6 _ _ _ _ _ _ | exact nums_7 _ _ _ _ _ _ _ | exact nums_8 _ _ _ _ _ _ _ _
            · omega
            · omega
            · omega
            rintro e w37 ⟨v37, rfl, mem37, S37, g37⟩
            have i37 : I64 v37 := pick3 mem37 (by unfold I64; omega) (by unfold I64; omega) (by unfold I64; omega)
            have o37 := ownGrown (o35.alloc _) g37 (ownNo (fun q hq => by have := (o35.lt q hq).1; omega))
            have G37 : w.grownBy w37 (some b) := grownTrans (gAlloc G35 _) g37
            clear g37 mem37
            go_wp2_with fail
            refine (l01Next_any _ b A n c l _ hl hn h8 (S37)).mono ?_
            rintro e w38 ⟨v38, rfl, lo38, hi38, S38, g38⟩
            have hv38 : v38 ≤ 6 := by omega
            have o38 := ownGrown o37 g38 (ownNo (fun q hq => by have := (o37.lt q hq).1; omega))
            have G38 : w.grownBy w38 (some b) := grownTrans G37 g38
            clear g38 hi38
            have z38 := G38.size
            obtain ⟨hh, hhe⟩ : ∃ hh, hh = v38 - 1 := ⟨_, rfl⟩
            go_wp2_with (at_builtin; refine wpList_append_own_at _ rfl _ _ 40 rfl w.heap.size 51 i0 _ 3 24 Try.underlying40 hi' hz0 hz1 hz2 rfl (by decide) _ _ _ rfl (o38.alloc _) ⟨w38.heap.size, 0, none⟩ 1 1 [.int .i64 0, .int .i64 v37, .int .i64 (v38 - 1)] rfl rfl ?_ ?_ ?_ ?_ ?_ ?_; exact newsAt _ _ rfl _ _; (intro u hu; simp at hu; rcases hu with rfl | rfl | rfl <;> rfl); (unfold maxLen; omega); omega; (simp; omega); intro v' w39 hown1 hgr1 _ _)
            have S39 := (S38.alloc (.cells #[.int .i64 0, .int .i64 v37, .int .i64 (v38 - 1)] 51)).grown hgr1 (fun g hg => by have := (o38.lt g hg).1; omega)
            have G39 : w.grownBy w39 (some b) := gGrown (gAlloc G38 (.cells #[.int .i64 0, .int .i64 v37, .int .i64 (v38 - 1)] 51)) hgr1 (fun g hg => (o38.lt g hg).1)
            go_wp2_with fail
            go_ret
            exact ⟨_, T ++ [(0, v37, v38 - 1)], rfl, by simp; omega, i64s3_snoc HT'.out (by unfold I64; omega) i37 (by unfold I64; omega), by rw [cells3_append]; simpa [cells3] using hown1, S39, G39⟩
          · have t1 : (v35 == 1) = false := by simpa using q1
            clear q1
            go_wp2_with fail
            go_ret
            exact ⟨_, T, rfl, by omega, HT'.out, o35, S35, G35⟩
end Go.Proofs.Ytkblmcpklpmobaa
