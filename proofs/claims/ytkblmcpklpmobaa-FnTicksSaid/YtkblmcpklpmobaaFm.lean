/- The law FnMarks (layer 7). No condition. -/
import Derived.Test.YtkblmcpklpmobaaDr4
import Derived.Test.YtkblmcpklpmobaaMkP
import Derived.Test.YtkblmcpklpmobaaLike
namespace Go.Proofs.Ytkblmcpklpmobaa
open Go.RowKit
set_option linter.unusedVariables false
set_option linter.unusedSimpArgs false

theorem GivesGN.none {w w' : World} {e : Ending} (h : GivesGN gv1 0 w e w') : ∃ v L, e = .returned v ∧ L.length ≤ 12 ∧ I64s3 L ∧ w'.ownsRow w.heap.size 79 3 v L.length (cells3 L) ∧ Below w.heap.size w w' := by
  obtain ⟨v, L, ns, he, hn, _, h12, hL, ho, hb⟩ := h
  exact ⟨v, L, he, h12, hL, ho, hb⟩
theorem GivesGN.one {w w' : World} {e : Ending} (h : GivesGN gv2 1 w e w') : ∃ v L k, e = .returned (.tuple #[v, .int .i64 k]) ∧ I64 k ∧ L.length ≤ 12 ∧ I64s3 L ∧ w'.ownsRow w.heap.size 79 3 v L.length (cells3 L) ∧ Below w.heap.size w w' := by
  obtain ⟨v, L, ns, he, hn, hi, h12, hL, ho, hb⟩ := h
  obtain ⟨k, rfl⟩ := List.length_eq_one_iff.1 hn
  exact ⟨v, L, k, he, hi k (List.mem_singleton.2 rfl), h12, hL, ho, hb⟩
theorem GivesGN.two {w w' : World} {e : Ending} (h : GivesGN gv3 2 w e w') : ∃ v L a b, e = .returned (.tuple #[v, .int .i64 a, .int .i64 b]) ∧ I64 a ∧ I64 b ∧ L.length ≤ 12 ∧ I64s3 L ∧ w'.ownsRow w.heap.size 79 3 v L.length (cells3 L) ∧ Below w.heap.size w w' := by
  obtain ⟨v, L, ns, he, hn, hi, h12, hL, ho, hb⟩ := h
  match ns, hn with
  | [a, b], _ => exact ⟨v, L, a, b, he, hi a (by simp), hi b (by simp), h12, hL, ho, hb⟩
set_option maxRecDepth 100000 in
set_option maxHeartbeats 8000000 in
theorem fnMarks_walk (A : Option Addr) (n c : Nat) (l : List Int) (w : World) (hl : l.length = n) (_hc : n ≤ c) (hm : c ≤ maxLen) (hs : Sees w w.heap.size A (l.map (Value.int .u8))) (h8 : U8s l) :
    Calls Try.prog 3 #[.slice A n c] w fun e w' => e = .returned (.bool true) ∧ Below w.heap.size w w' := by
  unfold maxLen at hm
  have BG := fun W => big_small A n c W (by omega)
  by_cases hbig : 4096 < n
  · rw [show decide (4096 < n) = true from decide_eq_true hbig] at BG
    go_enter Try.func3, Try.ntmps3
    go_wp2_with (go_at_call 9; refine (BG _).mono ?_; rintro e w' ⟨rfl, rfl⟩)
    go_ret
    exact ⟨rfl, Below.refl _ _⟩
  · rw [show decide (4096 < n) = false from decide_eq_false hbig] at BG
    have hn : n ≤ 1048576 := by omega
    go_enter Try.func3, Try.ntmps3
    go_wp2_with (go_at_call 9; refine (BG _).mono ?_; rintro e w' ⟨rfl, rfl⟩)
    clear BG
    go_wp2_with fail
    refine ((DrawCountMarks_any A n c l _ hl hn h8 hs).mono fun e w' h => GivesGN.none h).mono ?_
    rintro e w1 ⟨g, G, rfl, g12, gI, og, hb1⟩
    obtain ⟨gA, gc, rfl⟩ := ownShape og
    have B1 : Below w.heap.size w w1 := (Below.refl w.heap.size w).trans (hb1.mono (Below.refl w.heap.size w).size)
    clear hb1
    have I1 := fun W hW => iCountMarks_any gA G.length gc G W rfl (by omega) hW gI
    have S1 := fun W hW => sCountMarks_any gA G.length gc G W rfl (by omega) hW gI
    obtain ⟨⟨m1, bad⟩, H1⟩ : ∃ p, Hid (rCount G = p) := ⟨_, Lib.hid rfl⟩
    rw [H1.out] at I1 S1
    simp only at I1 S1
    go_wp2_with fail
    refine (I1 _ (Sees.ofOwn og)).mono ?_
    rintro e w2 ⟨rfl, hb2⟩
    replace og := ownOver og hb2
    have B2 : Below w.heap.size w w2 := B1.trans (hb2.mono B1.size)
    clear hb2
    go_wp2_with fail
    refine (S1 _ (Sees.ofOwn og)).mono ?_
    rintro e w3 ⟨rfl, hb3⟩
    replace og := ownOver og hb3
    have B3 : Below w.heap.size w w3 := B2.trans (hb3.mono B2.size)
    clear hb3
    go_wp2_with fail
    refine ((DrawMarksOf_any A n c l _ hl hn h8 ((hs.over B3).wider B3.size)).mono fun e w' h => GivesGN.two h).mono ?_
    rintro e w4 ⟨a, L, fr, tl, rfl, ifr, ito, a12, aI, oa, hb4⟩
    replace og := ownOver og hb4
    obtain ⟨aA, ac, rfl⟩ := ownShape oa
    have B4 : Below w.heap.size w w4 := B3.trans (hb4.mono B3.size)
    clear hb4
    have I2 := fun W hW => iMarksOf_any aA L.length ac L fr tl W rfl (by omega) hW aI
    have S2 := fun W hW => sMarksOf_any aA L.length ac L fr tl W rfl (by omega) hW aI
    obtain ⟨⟨M, one⟩, H2⟩ : ∃ p, Hid (rMarks L fr tl = p) := ⟨_, Lib.hid rfl⟩
    rw [H2.out] at I2 S2
    simp only at I2 S2
    go_wp2_with fail
    refine (I2 _ (Sees.ofOwn oa)).mono ?_
    rintro e w5 ⟨x, rfl, ox, hb5⟩
    replace og := ownOver og hb5
    replace oa := ownOver oa hb5
    obtain ⟨xA, xc, rfl⟩ := ownShape ox
    have B5 : Below w.heap.size w w5 := B4.trans (hb5.mono B4.size)
    clear hb5
    go_wp2_with fail
    refine (S2 _ (Sees.ofOwn oa)).mono ?_
    rintro e w6 ⟨y, rfl, oy, hb6⟩
    replace og := ownOver og hb6
    replace oa := ownOver oa hb6
    replace ox := ownOver ox hb6
    obtain ⟨yA, yc, rfl⟩ := ownShape oy
    have B6 : Below w.heap.size w w6 := B5.trans (hb6.mono B5.size)
    clear hb6
    go_wp2_with fail
    refine ((DrawNearestMark_any A n c l _ hl hn h8 ((hs.over B6).wider B6.size)).mono fun e w' h => GivesGN.one h).mono ?_
    rintro e w7 ⟨b, K, k, rfl, ik, b12, bI, ob, hb7⟩
    replace og := ownOver og hb7
    replace oa := ownOver oa hb7
    replace ox := ownOver ox hb7
    replace oy := ownOver oy hb7
    obtain ⟨bA, bc, rfl⟩ := ownShape ob
    have B7 : Below w.heap.size w w7 := B6.trans (hb7.mono B6.size)
    clear hb7
    have I3 := fun W hW => iNearestMark_any bA K.length bc K k W rfl (by omega) hW bI ik
    have S3 := fun W hW => sNearestMark_any bA K.length bc K k W rfl (by omega) hW bI ik
    obtain ⟨⟨m3, three⟩, H3⟩ : ∃ p, Hid (rNearM K k = p) := ⟨_, Lib.hid rfl⟩
    rw [H3.out] at I3 S3
    simp only at I3 S3
    go_wp2_with fail
    refine (I3 _ (Sees.ofOwn ob)).mono ?_
    rintro e w8 ⟨rfl, hb8⟩
    replace og := ownOver og hb8
    replace oa := ownOver oa hb8
    replace ox := ownOver ox hb8
    replace oy := ownOver oy hb8
    replace ob := ownOver ob hb8
    have B8 : Below w.heap.size w w8 := B7.trans (hb8.mono B7.size)
    clear hb8
    go_wp2_with fail
    refine (S3 _ (Sees.ofOwn ob)).mono ?_
    rintro e w9 ⟨rfl, hb9⟩
    replace og := ownOver og hb9
    replace oa := ownOver oa hb9
    replace ox := ownOver ox hb9
    replace oy := ownOver oy hb9
    replace ob := ownOver ob hb9
    have B9 : Below w.heap.size w w9 := B8.trans (hb9.mono B8.size)
    clear hb9
    go_wp2_with fail
    refine ((DrawIsMark_any A n c l _ hl hn h8 ((hs.over B9).wider B9.size)).mono fun e w' h => GivesGN.one h).mono ?_
    rintro e w10 ⟨d, D, z, rfl, iz, d12, dI, od, hb10⟩
    replace og := ownOver og hb10
    replace oa := ownOver oa hb10
    replace ox := ownOver ox hb10
    replace oy := ownOver oy hb10
    replace ob := ownOver ob hb10
    obtain ⟨dA, dc, rfl⟩ := ownShape od
    have B10 : Below w.heap.size w w10 := B9.trans (hb10.mono B9.size)
    clear hb10
    have I4 := fun W hW => iIsMark_any dA D.length dc D z W rfl (by omega) hW dI
    have S4 := fun W hW => sIsMark_any dA D.length dc D z W rfl (by omega) hW dI iz
    obtain ⟨⟨m4, five⟩, H4⟩ : ∃ p, Hid (rMark D z = p) := ⟨_, Lib.hid rfl⟩
    rw [H4.out] at I4 S4
    simp only at I4 S4
    go_wp2_with fail
    refine (I4 _ (Sees.ofOwn od)).mono ?_
    rintro e w11 ⟨rfl, hb11⟩
    replace og := ownOver og hb11
    replace oa := ownOver oa hb11
    replace ox := ownOver ox hb11
    replace oy := ownOver oy hb11
    replace ob := ownOver ob hb11
    replace od := ownOver od hb11
    have B11 : Below w.heap.size w w11 := B10.trans (hb11.mono B10.size)
    clear hb11
    go_wp2_with fail
    refine (S4 _ (Sees.ofOwn od)).mono ?_
    rintro e w12 ⟨rfl, hb12⟩
    replace og := ownOver og hb12
    replace oa := ownOver oa hb12
    replace ox := ownOver ox hb12
    replace oy := ownOver oy hb12
    replace ob := ownOver ob hb12
    replace od := ownOver od hb12
    have B12 : Below w.heap.size w w12 := B11.trans (hb12.mono B11.size)
    clear hb12
    have hMl : M.length ≤ 1048576 := by have := rMarks_len L fr tl; rw [H2.out] at this; exact this
    have Hgb := Lib.hid (show bad = 0 → gradB G = true from fun h => by have := H1.out; unfold rCount at this; split at this; assumption; simp at this; omega)
    have Ig := fun W hW => iIsGraduation_any gA G.length gc G W rfl (by omega) hW gI
    have Sg := fun W hW => sIsGraduation_any gA G.length gc G W rfl (by omega) hW gI
    obtain ⟨gv, Hgv⟩ : ∃ p, Hid (gradB G = p) := ⟨_, Lib.hid rfl⟩
    rw [Hgv.out] at Ig Sg
    go_wp2_with fail
    refine (likeInts_same _ _ _ _ _ M _ rfl hMl (Sees.ofOwn ox) (Sees.ofOwn oy)).mono ?_
    rintro e w13 ⟨rfl, hb13⟩
    replace og := ownOver og hb13
    replace oa := ownOver oa hb13
    replace ox := ownOver ox hb13
    replace oy := ownOver oy hb13
    replace ob := ownOver ob hb13
    replace od := ownOver od hb13
    have B13 : Below w.heap.size w w13 := B12.trans (hb13.mono B12.size)
    clear hb13
    go_wp2_with fail
    refine (Ig _ (Sees.ofOwn og)).mono ?_
    rintro e w14 ⟨rfl, hb14⟩
    replace og := ownOver og hb14
    replace oa := ownOver oa hb14
    replace ox := ownOver ox hb14
    replace oy := ownOver oy hb14
    replace ob := ownOver ob hb14
    replace od := ownOver od hb14
    have B14 : Below w.heap.size w w14 := B13.trans (hb14.mono B13.size)
    clear hb14
    go_wp2_with fail
    refine (Sg _ (Sees.ofOwn og)).mono ?_
    rintro e w15 ⟨rfl, hb15⟩
    replace og := ownOver og hb15
    replace oa := ownOver oa hb15
    replace ox := ownOver ox hb15
    replace oy := ownOver oy hb15
    replace ob := ownOver ob hb15
    replace od := ownOver od hb15
    have B15 : Below w.heap.size w w15 := B14.trans (hb15.mono B14.size)
    clear hb15
    have N3 := Lib.hid (fun (h : three = 0) => near_mark (H3.out.trans (by rw [h])))
    have N2 := Lib.hid (fun (h : one = 0) => marks_in (H2.out.trans (by rw [h])))
    have J3 := fun W hW => iIsMark_any bA K.length bc K k W rfl (by omega) hW bI
    have J4 := fun W hW => iIsMark_any bA K.length bc K m3 W rfl (by omega) hW bI
    have N1 := Lib.hid (fun (h : bad = 0) (h2 : m1 ≤ 200) => rMarks_full (Hgb.out h) (by have := H1.out; rw [rCount, if_pos (Hgb.out h)] at this; injection this with this; omega))
    have N0 := Lib.hid (fun (h : bad = 0) => (show countOf G = m1 from by have := H1.out; rw [rCount, if_pos (Hgb.out h)] at this; injection this))
    clear I1 S1 I2 S2 I3 S3 I4 S4 Ig Sg hl h8 hs oy od
    by_cases h3 : three = 0
    · have t3 : (three == 0) = true := beq_iff_eq.2 h3
      obtain ⟨_, f1, f2⟩ := N3.out h3
      rw [f1] at J4
      rw [f2] at J3
      simp only at J3 J4
      have tm : (m3 == k) = decide (m3 = k) := rfl
      clear h3 f1 f2
      clear N3
      go_wp2_with fail
      refine (J3 _ (Sees.ofOwn ob)).mono ?_
      rintro e w16 ⟨rfl, hb16⟩
      replace og := ownOver og hb16
      replace oa := ownOver oa hb16
      replace ox := ownOver ox hb16
      replace ob := ownOver ob hb16
      have B16 : Below w.heap.size w w16 := B15.trans (hb16.mono B15.size)
      clear hb16
      go_wp2_with fail
      refine (J4 _ (Sees.ofOwn ob)).mono ?_
      rintro e w17 ⟨rfl, hb17⟩
      replace og := ownOver og hb17
      replace oa := ownOver oa hb17
      replace ox := ownOver ox hb17
      replace ob := ownOver ob hb17
      have B17 : Below w.heap.size w w17 := B16.trans (hb17.mono B16.size)
      clear hb17
      clear J3 J4 ob
      by_cases hmk : m3 = k
      · have tk : (m3 == k) = true := beq_iff_eq.2 hmk
        have tk2 : decide (m3 = k) = true := decide_eq_true hmk
        clear hmk tm
        by_cases h0 : one = 0
        · have t1 : (one == 0) = true := beq_iff_eq.2 h0
          have H0 := Lib.hid h0
          clear h0
          have ox2 := Sees.ofOwn ox
          obtain ⟨w0, rfl⟩ : ∃ w0 : World, w0 = w17 := ⟨_, rfl⟩
          have hw0 := B17.size
          go_wp2_with fail
          go_loopw [31] (fun iv wr => ∃ j : Nat, iv = .int .i64 j ∧ j ≤ M.length ∧ Below w0.heap.size w0 wr) (fun iv _ => M.length - (intOf iv).toNat)
          case atStart => exact ⟨0, rfl, Nat.zero_le _, Below.refl _ _⟩
          case round =>
            obtain ⟨j, rfl, hj, hW⟩ := hrel
            have hz := hW.size
            by_cases hlt : j < M.length
            · have i0 : (0 : Int) ≤ (j : Int) := by omega
              have i1 : (j : Int) < (M.length : Int) := by omega
              obtain ⟨mb, mo, u, rfl, hmb, hu, c0⟩ := ox2.one (k := j) hlt
              have d0 := (hW.cell (p := ⟨mb, mo + j, none⟩) hmb).trans c0
              obtain ⟨e1, e2, e3⟩ := (N2.out H0.out).1 u (List.mem_of_getElem? hu)
              have E1 := Lib.hid e1
              clear e1
              by_cases hj0 : j = 0
              · subst hj0
                have d00 : wr.cell? ⟨mb, mo, none⟩ = some (.int .i64 u) := d0
                have J5 := fun W hW => iIsMark_any aA L.length ac L u W rfl (by omega) hW aI
                rw [E1.out] at J5
                simp only at J5
                have oa3 := ownOver oa hW
                have t3 : decide (u < fr) = false := decide_eq_false (by omega)
                have t4 : decide (tl < u) = false := decide_eq_false (by omega)
                clear hu ox2
                go_wp2_with fail
                refine (J5 _ (Sees.ofOwn oa3)).mono ?_
                rintro e w9 ⟨rfl, hb9⟩
                have hW9 : Below w0.heap.size w0 w9 := hW.trans (hb9.mono hW.size)
                have d1 := (hW9.cell (p := ⟨mb, mo + 0, none⟩) hmb).trans c0
                have d10 : w9.cell? ⟨mb, mo, none⟩ = some (.int .i64 u) := d1
                clear d00
                clear hb9 d0 J5 oa3
                go_wp2_with fail
                go_quiet (fail)
                go_wp2_with fail
                go_roundw
                case rel => exact ⟨1, by go_num, by omega, belowDraws hW9 _⟩
                case measure => simp [intOf]; omega
              · obtain ⟨j', rfl⟩ : ∃ j', j = j' + 1 := ⟨j - 1, by omega⟩
                obtain ⟨mb', mo', u0, hA, hmb', hu0, c0'⟩ := ox2.one (k := j') (by omega)
                injection hA with hA
                injection hA with hA1 hA2
                subst hA1 hA2
                have d0' := (hW.cell (p := ⟨mb, mo + j', none⟩) hmb').trans c0'
                have lt0 : u0 < u := rise_at (N2.out H0.out).2.1 hu0 hu
                have i2 : (j' : Int) < (M.length : Int) := by omega
                have i3 : (0 : Int) ≤ (j' : Int) := by omega
                have n0 : ((j' : Int) + 1).toNat = j' + 1 := by omega
                have e0 : (j' : Int) + 1 - 1 = (j' : Int) := by omega
                have e4 : IntKind.i64.wrap ((j' : Int) + 1 - 1) = (j' : Int) := (IntWalk.i64_in _ (by omega)).trans e0
                have e5 : IntKind.i64.wrap (j' : Int) = (j' : Int) := IntWalk.i64_in _ (by omega)
                have t2 : decide (u ≤ u0) = false := decide_eq_false (by omega)
                clear hu0
                have J5 := fun W hW => iIsMark_any aA L.length ac L u W rfl (by omega) hW aI
                rw [E1.out] at J5
                simp only at J5
                have oa3 := ownOver oa hW
                have t3 : decide (u < fr) = false := decide_eq_false (by omega)
                have t4 : decide (tl < u) = false := decide_eq_false (by omega)
                clear hu ox2
                go_wp2_with fail
                refine (J5 _ (Sees.ofOwn oa3)).mono ?_
                rintro e w9 ⟨rfl, hb9⟩
                have hW9 : Below w0.heap.size w0 w9 := hW.trans (hb9.mono hW.size)
                have d1 := (hW9.cell (p := ⟨mb, mo + (j' + 1), none⟩) hmb).trans c0
                have d1' := (hW9.cell (p := ⟨mb, mo + j', none⟩) hmb').trans c0'
                clear hb9 d0 J5 oa3
                go_wp2_with fail
                go_quiet (fail)
                go_wp2_with fail
                go_roundw
                case rel => exact ⟨j' + 2, by go_num, by omega, belowDraws hW9 _⟩
                case measure => simp [intOf]; omega
            · obtain rfl : j = M.length := by omega
              replace og := ownOver og hW
              obtain ⟨w18, rfl⟩ : ∃ w18 : World, w18 = wr := ⟨_, rfl⟩
              have B18 : Below w.heap.size w w18 := B17.trans (hW.mono hw0)
              clear ox2 hW hz
              by_cases hb0 : bad = 0
              · have tb : (bad != 0) = false := by simpa using hb0
                have Hb0 := Lib.hid hb0
                clear hb0
                by_cases h200 : m1 ≤ 200
                · obtain ⟨e1, e2⟩ := N1.out Hb0.out h200
                  have I5 := fun W hW => iMarksOf_any gA G.length gc G 1000 9999 W rfl (by omega) hW gI
                  rw [e1] at I5
                  simp only at I5
                  rw [N0.out Hb0.out] at e2
                  have E2 := Lib.hid e2
                  clear e1 e2 N1
                  go_wp2_with fail
                  refine (I5 _ (Sees.ofOwn og)).mono ?_
                  rintro e w19 ⟨t, rfl, ot, hb19⟩
                  replace og := ownOver og hb19
                  obtain ⟨tA, tc, rfl⟩ := ownShape ot
                  have B19 : Below w.heap.size w w19 := B18.trans (hb19.mono B18.size)
                  clear hb19
                  have E3 : (((marks G).length : Int) == m1) = true := beq_iff_eq.2 E2.out
                  generalize marks G = mg at *
                  go_wp2_with fail
                  go_ret
                  exact ⟨rfl, B19⟩
                · have g200 : 200 < m1 := by omega
                  clear h200 N1
                  go_wp2_with fail
                  go_ret
                  exact ⟨rfl, B18⟩
              · have tb : (bad != 0) = true := by simpa using hb0
                clear hb0 N1
                go_wp2_with fail
                go_ret
                exact ⟨rfl, B18⟩
        · have t1 : (one == 0) = false := by simpa using h0
          clear h0 N2
          obtain ⟨w0, rfl⟩ : ∃ w0 : World, w0 = w17 := ⟨_, rfl⟩
          go_wp2_with fail
          go_loopw [31] (fun iv wr => iv = .int .i64 0 ∧ wr = w0) (fun iv _ => 0)
          case atStart => exact ⟨rfl, rfl⟩
          case round =>
            obtain ⟨rfl, rfl⟩ := hrel
            obtain ⟨w18, rfl⟩ : ∃ w18 : World, w18 = wr := ⟨_, rfl⟩
            have B18 := B17
            by_cases hb0 : bad = 0
            · have tb : (bad != 0) = false := by simpa using hb0
              have Hb0 := Lib.hid hb0
              clear hb0
              by_cases h200 : m1 ≤ 200
              · obtain ⟨e1, e2⟩ := N1.out Hb0.out h200
                have I5 := fun W hW => iMarksOf_any gA G.length gc G 1000 9999 W rfl (by omega) hW gI
                rw [e1] at I5
                simp only at I5
                rw [N0.out Hb0.out] at e2
                have E2 := Lib.hid e2
                clear e1 e2 N1
                go_wp2_with fail
                refine (I5 _ (Sees.ofOwn og)).mono ?_
                rintro e w19 ⟨t, rfl, ot, hb19⟩
                replace og := ownOver og hb19
                obtain ⟨tA, tc, rfl⟩ := ownShape ot
                have B19 : Below w.heap.size w w19 := B18.trans (hb19.mono B18.size)
                clear hb19
                have E3 : (((marks G).length : Int) == m1) = true := beq_iff_eq.2 E2.out
                generalize marks G = mg at *
                go_wp2_with fail
                go_ret
                exact ⟨rfl, B19⟩
              · have g200 : 200 < m1 := by omega
                clear h200 N1
                go_wp2_with fail
                go_ret
                exact ⟨rfl, B18⟩
            · have tb : (bad != 0) = true := by simpa using hb0
              clear hb0 N1
              go_wp2_with fail
              go_ret
              exact ⟨rfl, B18⟩
      · have tk : (m3 == k) = false := by simpa using hmk
        have tk2 : decide (m3 = k) = false := decide_eq_false hmk
        clear hmk tm
        by_cases h0 : one = 0
        · have t1 : (one == 0) = true := beq_iff_eq.2 h0
          have H0 := Lib.hid h0
          clear h0
          have ox2 := Sees.ofOwn ox
          obtain ⟨w0, rfl⟩ : ∃ w0 : World, w0 = w17 := ⟨_, rfl⟩
          have hw0 := B17.size
          go_wp2_with fail
          go_loopw [31] (fun iv wr => ∃ j : Nat, iv = .int .i64 j ∧ j ≤ M.length ∧ Below w0.heap.size w0 wr) (fun iv _ => M.length - (intOf iv).toNat)
          case atStart => exact ⟨0, rfl, Nat.zero_le _, Below.refl _ _⟩
          case round =>
            obtain ⟨j, rfl, hj, hW⟩ := hrel
            have hz := hW.size
            by_cases hlt : j < M.length
            · have i0 : (0 : Int) ≤ (j : Int) := by omega
              have i1 : (j : Int) < (M.length : Int) := by omega
              obtain ⟨mb, mo, u, rfl, hmb, hu, c0⟩ := ox2.one (k := j) hlt
              have d0 := (hW.cell (p := ⟨mb, mo + j, none⟩) hmb).trans c0
              obtain ⟨e1, e2, e3⟩ := (N2.out H0.out).1 u (List.mem_of_getElem? hu)
              have E1 := Lib.hid e1
              clear e1
              by_cases hj0 : j = 0
              · subst hj0
                have d00 : wr.cell? ⟨mb, mo, none⟩ = some (.int .i64 u) := d0
                have J5 := fun W hW => iIsMark_any aA L.length ac L u W rfl (by omega) hW aI
                rw [E1.out] at J5
                simp only at J5
                have oa3 := ownOver oa hW
                have t3 : decide (u < fr) = false := decide_eq_false (by omega)
                have t4 : decide (tl < u) = false := decide_eq_false (by omega)
                clear hu ox2
                go_wp2_with fail
                refine (J5 _ (Sees.ofOwn oa3)).mono ?_
                rintro e w9 ⟨rfl, hb9⟩
                have hW9 : Below w0.heap.size w0 w9 := hW.trans (hb9.mono hW.size)
                have d1 := (hW9.cell (p := ⟨mb, mo + 0, none⟩) hmb).trans c0
                have d10 : w9.cell? ⟨mb, mo, none⟩ = some (.int .i64 u) := d1
                clear d00
                clear hb9 d0 J5 oa3
                go_wp2_with fail
                go_quiet (fail)
                go_wp2_with fail
                go_roundw
                case rel => exact ⟨1, by go_num, by omega, belowDraws hW9 _⟩
                case measure => simp [intOf]; omega
              · obtain ⟨j', rfl⟩ : ∃ j', j = j' + 1 := ⟨j - 1, by omega⟩
                obtain ⟨mb', mo', u0, hA, hmb', hu0, c0'⟩ := ox2.one (k := j') (by omega)
                injection hA with hA
                injection hA with hA1 hA2
                subst hA1 hA2
                have d0' := (hW.cell (p := ⟨mb, mo + j', none⟩) hmb').trans c0'
                have lt0 : u0 < u := rise_at (N2.out H0.out).2.1 hu0 hu
                have i2 : (j' : Int) < (M.length : Int) := by omega
                have i3 : (0 : Int) ≤ (j' : Int) := by omega
                have n0 : ((j' : Int) + 1).toNat = j' + 1 := by omega
                have e0 : (j' : Int) + 1 - 1 = (j' : Int) := by omega
                have e4 : IntKind.i64.wrap ((j' : Int) + 1 - 1) = (j' : Int) := (IntWalk.i64_in _ (by omega)).trans e0
                have e5 : IntKind.i64.wrap (j' : Int) = (j' : Int) := IntWalk.i64_in _ (by omega)
                have t2 : decide (u ≤ u0) = false := decide_eq_false (by omega)
                clear hu0
                have J5 := fun W hW => iIsMark_any aA L.length ac L u W rfl (by omega) hW aI
                rw [E1.out] at J5
                simp only at J5
                have oa3 := ownOver oa hW
                have t3 : decide (u < fr) = false := decide_eq_false (by omega)
                have t4 : decide (tl < u) = false := decide_eq_false (by omega)
                clear hu ox2
                go_wp2_with fail
                refine (J5 _ (Sees.ofOwn oa3)).mono ?_
                rintro e w9 ⟨rfl, hb9⟩
                have hW9 : Below w0.heap.size w0 w9 := hW.trans (hb9.mono hW.size)
                have d1 := (hW9.cell (p := ⟨mb, mo + (j' + 1), none⟩) hmb).trans c0
                have d1' := (hW9.cell (p := ⟨mb, mo + j', none⟩) hmb').trans c0'
                clear hb9 d0 J5 oa3
                go_wp2_with fail
                go_quiet (fail)
                go_wp2_with fail
                go_roundw
                case rel => exact ⟨j' + 2, by go_num, by omega, belowDraws hW9 _⟩
                case measure => simp [intOf]; omega
            · obtain rfl : j = M.length := by omega
              replace og := ownOver og hW
              obtain ⟨w18, rfl⟩ : ∃ w18 : World, w18 = wr := ⟨_, rfl⟩
              have B18 : Below w.heap.size w w18 := B17.trans (hW.mono hw0)
              clear ox2 hW hz
              by_cases hb0 : bad = 0
              · have tb : (bad != 0) = false := by simpa using hb0
                have Hb0 := Lib.hid hb0
                clear hb0
                by_cases h200 : m1 ≤ 200
                · obtain ⟨e1, e2⟩ := N1.out Hb0.out h200
                  have I5 := fun W hW => iMarksOf_any gA G.length gc G 1000 9999 W rfl (by omega) hW gI
                  rw [e1] at I5
                  simp only at I5
                  rw [N0.out Hb0.out] at e2
                  have E2 := Lib.hid e2
                  clear e1 e2 N1
                  go_wp2_with fail
                  refine (I5 _ (Sees.ofOwn og)).mono ?_
                  rintro e w19 ⟨t, rfl, ot, hb19⟩
                  replace og := ownOver og hb19
                  obtain ⟨tA, tc, rfl⟩ := ownShape ot
                  have B19 : Below w.heap.size w w19 := B18.trans (hb19.mono B18.size)
                  clear hb19
                  have E3 : (((marks G).length : Int) == m1) = true := beq_iff_eq.2 E2.out
                  generalize marks G = mg at *
                  go_wp2_with fail
                  go_ret
                  exact ⟨rfl, B19⟩
                · have g200 : 200 < m1 := by omega
                  clear h200 N1
                  go_wp2_with fail
                  go_ret
                  exact ⟨rfl, B18⟩
              · have tb : (bad != 0) = true := by simpa using hb0
                clear hb0 N1
                go_wp2_with fail
                go_ret
                exact ⟨rfl, B18⟩
        · have t1 : (one == 0) = false := by simpa using h0
          clear h0 N2
          obtain ⟨w0, rfl⟩ : ∃ w0 : World, w0 = w17 := ⟨_, rfl⟩
          go_wp2_with fail
          go_loopw [31] (fun iv wr => iv = .int .i64 0 ∧ wr = w0) (fun iv _ => 0)
          case atStart => exact ⟨rfl, rfl⟩
          case round =>
            obtain ⟨rfl, rfl⟩ := hrel
            obtain ⟨w18, rfl⟩ : ∃ w18 : World, w18 = wr := ⟨_, rfl⟩
            have B18 := B17
            by_cases hb0 : bad = 0
            · have tb : (bad != 0) = false := by simpa using hb0
              have Hb0 := Lib.hid hb0
              clear hb0
              by_cases h200 : m1 ≤ 200
              · obtain ⟨e1, e2⟩ := N1.out Hb0.out h200
                have I5 := fun W hW => iMarksOf_any gA G.length gc G 1000 9999 W rfl (by omega) hW gI
                rw [e1] at I5
                simp only at I5
                rw [N0.out Hb0.out] at e2
                have E2 := Lib.hid e2
                clear e1 e2 N1
                go_wp2_with fail
                refine (I5 _ (Sees.ofOwn og)).mono ?_
                rintro e w19 ⟨t, rfl, ot, hb19⟩
                replace og := ownOver og hb19
                obtain ⟨tA, tc, rfl⟩ := ownShape ot
                have B19 : Below w.heap.size w w19 := B18.trans (hb19.mono B18.size)
                clear hb19
                have E3 : (((marks G).length : Int) == m1) = true := beq_iff_eq.2 E2.out
                generalize marks G = mg at *
                go_wp2_with fail
                go_ret
                exact ⟨rfl, B19⟩
              · have g200 : 200 < m1 := by omega
                clear h200 N1
                go_wp2_with fail
                go_ret
                exact ⟨rfl, B18⟩
            · have tb : (bad != 0) = true := by simpa using hb0
              clear hb0 N1
              go_wp2_with fail
              go_ret
              exact ⟨rfl, B18⟩
    · have t3 : (three == 0) = false := by simpa using h3
      clear h3 N3 J3 J4 ob
      by_cases h0 : one = 0
      · have t1 : (one == 0) = true := beq_iff_eq.2 h0
        have H0 := Lib.hid h0
        clear h0
        have ox2 := Sees.ofOwn ox
        obtain ⟨w0, rfl⟩ : ∃ w0 : World, w0 = w15 := ⟨_, rfl⟩
        have hw0 := B15.size
        go_wp2_with fail
        go_loopw [31] (fun iv wr => ∃ j : Nat, iv = .int .i64 j ∧ j ≤ M.length ∧ Below w0.heap.size w0 wr) (fun iv _ => M.length - (intOf iv).toNat)
        case atStart => exact ⟨0, rfl, Nat.zero_le _, Below.refl _ _⟩
        case round =>
          obtain ⟨j, rfl, hj, hW⟩ := hrel
          have hz := hW.size
          by_cases hlt : j < M.length
          · have i0 : (0 : Int) ≤ (j : Int) := by omega
            have i1 : (j : Int) < (M.length : Int) := by omega
            obtain ⟨mb, mo, u, rfl, hmb, hu, c0⟩ := ox2.one (k := j) hlt
            have d0 := (hW.cell (p := ⟨mb, mo + j, none⟩) hmb).trans c0
            obtain ⟨e1, e2, e3⟩ := (N2.out H0.out).1 u (List.mem_of_getElem? hu)
            have E1 := Lib.hid e1
            clear e1
            by_cases hj0 : j = 0
            · subst hj0
              have d00 : wr.cell? ⟨mb, mo, none⟩ = some (.int .i64 u) := d0
              have J5 := fun W hW => iIsMark_any aA L.length ac L u W rfl (by omega) hW aI
              rw [E1.out] at J5
              simp only at J5
              have oa3 := ownOver oa hW
              have t3 : decide (u < fr) = false := decide_eq_false (by omega)
              have t4 : decide (tl < u) = false := decide_eq_false (by omega)
              clear hu ox2
              go_wp2_with fail
              refine (J5 _ (Sees.ofOwn oa3)).mono ?_
              rintro e w9 ⟨rfl, hb9⟩
              have hW9 : Below w0.heap.size w0 w9 := hW.trans (hb9.mono hW.size)
              have d1 := (hW9.cell (p := ⟨mb, mo + 0, none⟩) hmb).trans c0
              have d10 : w9.cell? ⟨mb, mo, none⟩ = some (.int .i64 u) := d1
              clear d00
              clear hb9 d0 J5 oa3
              go_wp2_with fail
              go_quiet (fail)
              go_wp2_with fail
              go_roundw
              case rel => exact ⟨1, by go_num, by omega, belowDraws hW9 _⟩
              case measure => simp [intOf]; omega
            · obtain ⟨j', rfl⟩ : ∃ j', j = j' + 1 := ⟨j - 1, by omega⟩
              obtain ⟨mb', mo', u0, hA, hmb', hu0, c0'⟩ := ox2.one (k := j') (by omega)
              injection hA with hA
              injection hA with hA1 hA2
              subst hA1 hA2
              have d0' := (hW.cell (p := ⟨mb, mo + j', none⟩) hmb').trans c0'
              have lt0 : u0 < u := rise_at (N2.out H0.out).2.1 hu0 hu
              have i2 : (j' : Int) < (M.length : Int) := by omega
              have i3 : (0 : Int) ≤ (j' : Int) := by omega
              have n0 : ((j' : Int) + 1).toNat = j' + 1 := by omega
              have e0 : (j' : Int) + 1 - 1 = (j' : Int) := by omega
              have e4 : IntKind.i64.wrap ((j' : Int) + 1 - 1) = (j' : Int) := (IntWalk.i64_in _ (by omega)).trans e0
              have e5 : IntKind.i64.wrap (j' : Int) = (j' : Int) := IntWalk.i64_in _ (by omega)
              have t2 : decide (u ≤ u0) = false := decide_eq_false (by omega)
              clear hu0
              have J5 := fun W hW => iIsMark_any aA L.length ac L u W rfl (by omega) hW aI
              rw [E1.out] at J5
              simp only at J5
              have oa3 := ownOver oa hW
              have t3 : decide (u < fr) = false := decide_eq_false (by omega)
              have t4 : decide (tl < u) = false := decide_eq_false (by omega)
              clear hu ox2
              go_wp2_with fail
              refine (J5 _ (Sees.ofOwn oa3)).mono ?_
              rintro e w9 ⟨rfl, hb9⟩
              have hW9 : Below w0.heap.size w0 w9 := hW.trans (hb9.mono hW.size)
              have d1 := (hW9.cell (p := ⟨mb, mo + (j' + 1), none⟩) hmb).trans c0
              have d1' := (hW9.cell (p := ⟨mb, mo + j', none⟩) hmb').trans c0'
              clear hb9 d0 J5 oa3
              go_wp2_with fail
              go_quiet (fail)
              go_wp2_with fail
              go_roundw
              case rel => exact ⟨j' + 2, by go_num, by omega, belowDraws hW9 _⟩
              case measure => simp [intOf]; omega
          · obtain rfl : j = M.length := by omega
            replace og := ownOver og hW
            obtain ⟨w16, rfl⟩ : ∃ w16 : World, w16 = wr := ⟨_, rfl⟩
            have B16 : Below w.heap.size w w16 := B15.trans (hW.mono hw0)
            clear ox2 hW hz
            by_cases hb0 : bad = 0
            · have tb : (bad != 0) = false := by simpa using hb0
              have Hb0 := Lib.hid hb0
              clear hb0
              by_cases h200 : m1 ≤ 200
              · obtain ⟨e1, e2⟩ := N1.out Hb0.out h200
                have I5 := fun W hW => iMarksOf_any gA G.length gc G 1000 9999 W rfl (by omega) hW gI
                rw [e1] at I5
                simp only at I5
                rw [N0.out Hb0.out] at e2
                have E2 := Lib.hid e2
                clear e1 e2 N1
                go_wp2_with fail
                refine (I5 _ (Sees.ofOwn og)).mono ?_
                rintro e w17 ⟨t, rfl, ot, hb17⟩
                replace og := ownOver og hb17
                obtain ⟨tA, tc, rfl⟩ := ownShape ot
                have B17 : Below w.heap.size w w17 := B16.trans (hb17.mono B16.size)
                clear hb17
                have E3 : (((marks G).length : Int) == m1) = true := beq_iff_eq.2 E2.out
                generalize marks G = mg at *
                go_wp2_with fail
                go_ret
                exact ⟨rfl, B17⟩
              · have g200 : 200 < m1 := by omega
                clear h200 N1
                go_wp2_with fail
                go_ret
                exact ⟨rfl, B16⟩
            · have tb : (bad != 0) = true := by simpa using hb0
              clear hb0 N1
              go_wp2_with fail
              go_ret
              exact ⟨rfl, B16⟩
      · have t1 : (one == 0) = false := by simpa using h0
        clear h0 N2
        obtain ⟨w0, rfl⟩ : ∃ w0 : World, w0 = w15 := ⟨_, rfl⟩
        go_wp2_with fail
        go_loopw [31] (fun iv wr => iv = .int .i64 0 ∧ wr = w0) (fun iv _ => 0)
        case atStart => exact ⟨rfl, rfl⟩
        case round =>
          obtain ⟨rfl, rfl⟩ := hrel
          obtain ⟨w16, rfl⟩ : ∃ w16 : World, w16 = wr := ⟨_, rfl⟩
          have B16 := B15
          by_cases hb0 : bad = 0
          · have tb : (bad != 0) = false := by simpa using hb0
            have Hb0 := Lib.hid hb0
            clear hb0
            by_cases h200 : m1 ≤ 200
            · obtain ⟨e1, e2⟩ := N1.out Hb0.out h200
              have I5 := fun W hW => iMarksOf_any gA G.length gc G 1000 9999 W rfl (by omega) hW gI
              rw [e1] at I5
              simp only at I5
              rw [N0.out Hb0.out] at e2
              have E2 := Lib.hid e2
              clear e1 e2 N1
              go_wp2_with fail
              refine (I5 _ (Sees.ofOwn og)).mono ?_
              rintro e w17 ⟨t, rfl, ot, hb17⟩
              replace og := ownOver og hb17
              obtain ⟨tA, tc, rfl⟩ := ownShape ot
              have B17 : Below w.heap.size w w17 := B16.trans (hb17.mono B16.size)
              clear hb17
              have E3 : (((marks G).length : Int) == m1) = true := beq_iff_eq.2 E2.out
              generalize marks G = mg at *
              go_wp2_with fail
              go_ret
              exact ⟨rfl, B17⟩
            · have g200 : 200 < m1 := by omega
              clear h200 N1
              go_wp2_with fail
              go_ret
              exact ⟨rfl, B16⟩
          · have tb : (bad != 0) = true := by simpa using hb0
            clear hb0 N1
            go_wp2_with fail
            go_ret
            exact ⟨rfl, B16⟩
end Go.Proofs.Ytkblmcpklpmobaa
