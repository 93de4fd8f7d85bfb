/- The law FnChosen (layer 7). No condition. -/
import Derived.Test.YthnjiiodpjielaaFc0
namespace Go.Proofs.Ythnjiiodpjielaa
open Go.RowKit
set_option linter.unusedVariables false
set_option linter.unusedSimpArgs false

set_option maxRecDepth 100000 in
set_option maxHeartbeats 8000000 in
theorem fnChosen_walk (A : Option Addr) (n c : Nat) (l : List Int) (w : World) (hl : l.length = n) (_hc : n ≤ c) (hm : c ≤ maxLen) (hs : Sees w w.heap.size A (l.map (Value.int .u8))) (h8 : U8s l) :
    Calls Try.prog 3 #[.slice A n c] w fun e w' => e = .returned (.bool true) ∧ Below w.heap.size w w' := by
  unfold maxLen at hm
  have BG := fun W => big_small A n c W (by omega)
  by_cases hbig : 4096 < n
  · rw [show decide (4096 < n) = true from decide_eq_true hbig] at BG
    go_enter Try.func3, Try.ntmps3
    go_wp2_with (go_at_call 8; refine (BG _).mono ?_; rintro e w' ⟨rfl, rfl⟩)
    go_ret
    exact ⟨rfl, Below.refl _ _⟩
  · rw [show decide (4096 < n) = false from decide_eq_false hbig] at BG
    have hn : n ≤ 1048576 := by omega
    go_enter Try.func3, Try.ntmps3
    go_wp2_with (go_at_call 8; refine (BG _).mono ?_; rintro e w' ⟨rfl, rfl⟩)
    clear BG
    go_wp2_with fail
    refine (DrawChooseGraduation_any A n c l _ hl hn h8 hs).mono ?_
    rintro e w1 ⟨sc, len, lim, rfl, hb1⟩
    have B1 : Below w.heap.size w w1 := (Below.refl w.heap.size w).trans (hb1.mono (Below.refl w.heap.size w).size)
    clear hb1
    have I1 := fun W => iChooseGraduation_any sc len lim W
    have S1 := fun W => sChooseGraduation_any sc len lim W
    obtain ⟨⟨T, bad⟩, H1⟩ : ∃ p, Hid (rChoose sc len lim = p) := ⟨_, Lib.hid rfl⟩
    rw [H1.out] at I1 S1
    simp only at I1 S1
    go_wp2_with fail
    refine (I1 _).mono ?_
    rintro e w2 ⟨x, rfl, ox, hb2⟩
    obtain ⟨xA, xc, rfl⟩ := ownShape ox
    have B2 : Below w.heap.size w w2 := B1.trans (hb2.mono B1.size)
    clear hb2
    go_wp2_with fail
    refine (S1 _).mono ?_
    rintro e w3 ⟨y, rfl, oy, hb3⟩
    replace ox := ownOver ox hb3
    obtain ⟨yA, yc, rfl⟩ := ownShape oy
    have B3 : Below w.heap.size w w3 := B2.trans (hb3.mono B2.size)
    clear hb3
    go_wp2_with fail
    refine (DrawFinestStep_any A n c l _ hl hn h8 ((hs.over B3).wider B3.size)).mono ?_
    rintro e w4 ⟨a2, b2, fr, tl, z2, rfl, hb4⟩
    replace ox := ownOver ox hb4
    replace oy := ownOver oy hb4
    have B4 : Below w.heap.size w w4 := B3.trans (hb4.mono B3.size)
    clear hb4
    have I2 := fun W => iFinestStep_any a2 b2 fr tl z2 W
    have S2 := fun W => sFinestStep_any a2 b2 fr tl z2 W
    obtain ⟨⟨m2, one⟩, H2⟩ : ∃ p, Hid (rFinest a2 b2 fr tl z2 = p) := ⟨_, Lib.hid rfl⟩
    rw [H2.out] at I2 S2
    simp only at I2 S2
    go_wp2_with fail
    refine (I2 _).mono ?_
    rintro e w5 ⟨rfl, hb5⟩
    replace ox := ownOver ox hb5
    replace oy := ownOver oy hb5
    have B5 : Below w.heap.size w w5 := B4.trans (hb5.mono B4.size)
    clear hb5
    go_wp2_with fail
    refine (S2 _).mono ?_
    rintro e w6 ⟨rfl, hb6⟩
    replace ox := ownOver ox hb6
    replace oy := ownOver oy hb6
    have B6 : Below w.heap.size w w6 := B5.trans (hb6.mono B5.size)
    clear hb6
    go_wp2_with fail
    refine (DrawLeast_any A n c l _ hl hn h8 ((hs.over B6).wider B6.size)).mono ?_
    rintro e w7 ⟨g, G, x3, y3, rfl, g12, gI, og, hb7⟩
    replace ox := ownOver ox hb7
    replace oy := ownOver oy hb7
    obtain ⟨gA, gc, rfl⟩ := ownShape og
    have B7 : Below w.heap.size w w7 := B6.trans (hb7.mono B6.size)
    clear hb7
    have I3 := fun W hW => iLeastDistance_any gA G.length gc G x3 y3 W rfl (by omega) hW gI
    have S3 := fun W hW => sLeastDistance_any gA G.length gc G x3 y3 W rfl (by omega) hW gI
    obtain ⟨⟨d, three⟩, H3⟩ : ∃ p, Hid (rLeast G x3 y3 = p) := ⟨_, Lib.hid rfl⟩
    rw [H3.out] at I3 S3
    simp only at I3 S3
    go_wp2_with fail
    refine (I3 _ (Sees.ofOwn og)).mono ?_
    rintro e w8 ⟨rfl, hb8⟩
    replace ox := ownOver ox hb8
    replace oy := ownOver oy hb8
    replace og := ownOver og hb8
    have B8 : Below w.heap.size w w8 := B7.trans (hb8.mono B7.size)
    clear hb8
    go_wp2_with fail
    refine (S3 _ (Sees.ofOwn og)).mono ?_
    rintro e w9 ⟨rfl, hb9⟩
    replace ox := ownOver ox hb9
    replace oy := ownOver oy hb9
    replace og := ownOver og hb9
    have B9 : Below w.heap.size w w9 := B8.trans (hb9.mono B8.size)
    clear hb9
    have hTl : T.length ≤ 1048576 := by have := rChoose_len sc len lim; rw [H1.out] at this; exact this
    have N1 := Lib.hid (fun (h : bad = 0) => choose_ok (H1.out.trans (by rw [h])))
    have N2 := Lib.hid (fun (h : one = 0) => finest_ok (H2.out.trans (by rw [h])))
    have N3 := Lib.hid (fun (h : three = 0) => least_ok (H3.out.trans (by rw [h])))
    clear I1 S1 I2 S2 I3 S3 hl h8 hs og
    go_wp2_with fail
    refine (likeParts_same _ _ _ _ _ T _ rfl hTl (Sees.ofOwn ox) (Sees.ofOwn oy)).mono ?_
    rintro e w10 ⟨rfl, hb10⟩
    replace ox := ownOver ox hb10
    replace oy := ownOver oy hb10
    have B10 : Below w.heap.size w w10 := B9.trans (hb10.mono B9.size)
    clear hb10
    clear oy
    by_cases h3 : three = 0
    · have t3 : (three == 0) = true := beq_iff_eq.2 h3
      have hd0 := N3.out h3
      clear h3 N3
      by_cases h2 : one = 0
      · have t2 : (one == 0) = true := beq_iff_eq.2 h2
        obtain ⟨m1, m2', hm, hf1, hf2, hf3⟩ := N2.out h2
        have tm : ((tl - fr) % m2 != 0) = false := by simp [hm]
        clear h2 N2 hm
        by_cases h1 : bad = 0
        · have t1 : (bad != 0) = false := by simpa using h1
          obtain ⟨hg, h3, hTI, hlim, hT⟩ := N1.out h1
          have IG := fun W hW => iIsGraduation_any xA T.length xc T W rfl (by omega) hW hTI
          rw [hg] at IG
          have HT := Lib.hid hT
          have HT3 := Lib.hid h3
          have t3' : ((T.length : Int) != 3) = false := by rw [h3]; rfl
          have l1 := hlim.1
          have l2 := hlim.2
          have hT3a : 3 ≤ T.length := by omega
          have hT3b : T.length ≤ 3 := by omega
          clear h1 hT h3 hg hlim N1
          go_wp2_with fail
          refine (IG _ (Sees.ofOwn ox)).mono ?_
          rintro e w11 ⟨rfl, hb11⟩
          replace ox := ownOver ox hb11
          have B11 : Below w.heap.size w w11 := B10.trans (hb11.mono B10.size)
          clear hb11
          have ox2 := Sees.ofOwn ox
          obtain ⟨w0, rfl⟩ : ∃ w0 : World, w0 = w11 := ⟨_, rfl⟩
          go_wp2_with fail
          go_loopw [26] (fun iv wr => ∃ j : Nat, iv = .int .i64 j ∧ j ≤ T.length ∧ Below w0.heap.size w0 wr) (fun iv _ => T.length - (intOf iv).toNat)
          case atStart => exact ⟨0, rfl, Nat.zero_le _, Below.refl _ _⟩
          case round =>
            obtain ⟨j, rfl, hj, hW⟩ := hrel
            have hz := hW.size
            by_cases hlt : j < T.length
            · have i0 : (0 : Int) ≤ (j : Int) := by omega
              have i1 : (j : Int) < (T.length : Int) := by omega
              obtain ⟨tb, tof, p, rfl, htb, hp, c0, c1, c2⟩ := ox2.three (k := j) hlt
              obtain ⟨e1, qq, e2, e3⟩ := HT.out p (List.mem_of_getElem? hp)
              obtain ⟨p0, p1, p2⟩ := p
              simp only at c0 c1 c2 e1 e2 e3
              have d0 := (hW.cell (p := ⟨tb, tof + j * 3, none⟩) htb).trans c0
              have d1 := (hW.cell (p := ⟨tb, tof + j * 3 + 1, none⟩) htb).trans c1
              have d2 := (hW.cell (p := ⟨tb, tof + j * 3 + 2, none⟩) htb).trans c2
              have htr : tb < wr.heap.size := by omega
              have F1 := fun W => iFinestStep_any sc len p0 p1 lim W
              have F2 := fun W => iFinestStep_any sc len p0 p1 (lim / 2) W
              rw [e1] at F1
              rw [e2] at F2
              simp only at F1 F2
              have ed : lim.tdiv 2 = lim / 2 := Int.tdiv_eq_ediv_of_nonneg l1
              have ew : IntKind.i64.wrap (lim / 2) = lim / 2 := IntWalk.i64_in _ (by omega)
              have tq : decide (p2 < qq) = false := decide_eq_false (by omega)
              clear e1 e2 hp c0 c1 c2 ox2
              go_wp2_with fail
              go_region_held3 (fun w' => w'.cell? ⟨tb, tof + j * 3, none⟩ = some (.int .i64 p0) ∧ w'.cell? ⟨tb, tof + j * 3 + 1, none⟩ = some (.int .i64 p1)) (go_keep) (first | (go_at_call 13; (with_reducible refine (F1 _).mono ?_); rintro e w8 ⟨rfl, hb8⟩; have hB8 : Below wr.heap.size wr w8 := Below.trans (by repeat' (first | (with_reducible exact Below.refl _ _) | (with_reducible assumption) | (with_reducible refine Below.alloc ?_ ?_ _) | (with_reducible refine Below.drew ?_) | (with_reducible refine belowDraws ?_ _) | (with_reducible refine Below.setCell ?_ ?_ _) | omega | (simp; done) | (simp; omega))) (hb8.mono (by first | omega | (simp; done) | (simp; omega))); have hz8 := hB8.size; have q80 := (hB8.cell (p := ⟨tb, tof + j * 3, none⟩) htr).trans d0; have q81 := (hB8.cell (p := ⟨tb, tof + j * 3 + 1, none⟩) htr).trans d1; have q82 := (hB8.cell (p := ⟨tb, tof + j * 3 + 2, none⟩) htr).trans d2; clear hb8))
              go_wp2_with fail
              go_region_held3 (fun w' => w'.cell? ⟨tb, tof + j * 3, none⟩ = some (.int .i64 p0) ∧ w'.cell? ⟨tb, tof + j * 3 + 1, none⟩ = some (.int .i64 p1)) (go_keep) (first | (go_at_call 13; (with_reducible refine (F2 _).mono ?_); rintro e w9 ⟨rfl, hb9⟩; have hB9 : Below wr.heap.size wr w9 := Below.trans (by repeat' (first | (with_reducible exact Below.refl _ _) | (with_reducible assumption) | (with_reducible refine Below.alloc ?_ ?_ _) | (with_reducible refine Below.drew ?_) | (with_reducible refine belowDraws ?_ _) | (with_reducible refine Below.setCell ?_ ?_ _) | omega | (simp; done) | (simp; omega))) (hb9.mono (by first | omega | (simp; done) | (simp; omega))); have hz9 := hB9.size; have q90 := (hB9.cell (p := ⟨tb, tof + j * 3, none⟩) htr).trans d0; have q91 := (hB9.cell (p := ⟨tb, tof + j * 3 + 1, none⟩) htr).trans d1; have q92 := (hB9.cell (p := ⟨tb, tof + j * 3 + 2, none⟩) htr).trans d2; clear hb9))
              go_wp2_with fail
              all_goals go_roundw
              all_goals first
                | (case rel => exact ⟨j + 1, by go_num, by omega, hW.trans (hB9.mono hz)⟩)
                | (case measure => simp [intOf]; omega)
            · obtain rfl : j = T.length := by omega
              go_wp2_with fail
              go_ret
              exact ⟨rfl, B11.trans (hW.mono B11.size)⟩
        · have t1 : (bad != 0) = true := by simpa using h1
          clear h1 N1
          go_wp2_with fail
          go_ret
          exact ⟨rfl, B10⟩
      · have t2 : (one == 0) = false := by simpa using h2
        clear h2 N2
        by_cases h1 : bad = 0
        · have t1 : (bad != 0) = false := by simpa using h1
          obtain ⟨hg, h3, hTI, hlim, hT⟩ := N1.out h1
          have IG := fun W hW => iIsGraduation_any xA T.length xc T W rfl (by omega) hW hTI
          rw [hg] at IG
          have HT := Lib.hid hT
          have HT3 := Lib.hid h3
          have t3' : ((T.length : Int) != 3) = false := by rw [h3]; rfl
          have l1 := hlim.1
          have l2 := hlim.2
          have hT3a : 3 ≤ T.length := by omega
          have hT3b : T.length ≤ 3 := by omega
          clear h1 hT h3 hg hlim N1
          go_wp2_with fail
          refine (IG _ (Sees.ofOwn ox)).mono ?_
          rintro e w11 ⟨rfl, hb11⟩
          replace ox := ownOver ox hb11
          have B11 : Below w.heap.size w w11 := B10.trans (hb11.mono B10.size)
          clear hb11
          have ox2 := Sees.ofOwn ox
          obtain ⟨w0, rfl⟩ : ∃ w0 : World, w0 = w11 := ⟨_, rfl⟩
          go_wp2_with fail
          go_loopw [26] (fun iv wr => ∃ j : Nat, iv = .int .i64 j ∧ j ≤ T.length ∧ Below w0.heap.size w0 wr) (fun iv _ => T.length - (intOf iv).toNat)
          case atStart => exact ⟨0, rfl, Nat.zero_le _, Below.refl _ _⟩
          case round =>
            obtain ⟨j, rfl, hj, hW⟩ := hrel
            have hz := hW.size
            by_cases hlt : j < T.length
            · have i0 : (0 : Int) ≤ (j : Int) := by omega
              have i1 : (j : Int) < (T.length : Int) := by omega
              obtain ⟨tb, tof, p, rfl, htb, hp, c0, c1, c2⟩ := ox2.three (k := j) hlt
              obtain ⟨e1, qq, e2, e3⟩ := HT.out p (List.mem_of_getElem? hp)
              obtain ⟨p0, p1, p2⟩ := p
              simp only at c0 c1 c2 e1 e2 e3
              have d0 := (hW.cell (p := ⟨tb, tof + j * 3, none⟩) htb).trans c0
              have d1 := (hW.cell (p := ⟨tb, tof + j * 3 + 1, none⟩) htb).trans c1
              have d2 := (hW.cell (p := ⟨tb, tof + j * 3 + 2, none⟩) htb).trans c2
              have htr : tb < wr.heap.size := by omega
              have F1 := fun W => iFinestStep_any sc len p0 p1 lim W
              have F2 := fun W => iFinestStep_any sc len p0 p1 (lim / 2) W
              rw [e1] at F1
              rw [e2] at F2
              simp only at F1 F2
              have ed : lim.tdiv 2 = lim / 2 := Int.tdiv_eq_ediv_of_nonneg l1
              have ew : IntKind.i64.wrap (lim / 2) = lim / 2 := IntWalk.i64_in _ (by omega)
              have tq : decide (p2 < qq) = false := decide_eq_false (by omega)
              clear e1 e2 hp c0 c1 c2 ox2
              go_wp2_with fail
              go_region_held3 (fun w' => w'.cell? ⟨tb, tof + j * 3, none⟩ = some (.int .i64 p0) ∧ w'.cell? ⟨tb, tof + j * 3 + 1, none⟩ = some (.int .i64 p1)) (go_keep) (first | (go_at_call 13; (with_reducible refine (F1 _).mono ?_); rintro e w8 ⟨rfl, hb8⟩; have hB8 : Below wr.heap.size wr w8 := Below.trans (by repeat' (first | (with_reducible exact Below.refl _ _) | (with_reducible assumption) | (with_reducible refine Below.alloc ?_ ?_ _) | (with_reducible refine Below.drew ?_) | (with_reducible refine belowDraws ?_ _) | (with_reducible refine Below.setCell ?_ ?_ _) | omega | (simp; done) | (simp; omega))) (hb8.mono (by first | omega | (simp; done) | (simp; omega))); have hz8 := hB8.size; have q80 := (hB8.cell (p := ⟨tb, tof + j * 3, none⟩) htr).trans d0; have q81 := (hB8.cell (p := ⟨tb, tof + j * 3 + 1, none⟩) htr).trans d1; have q82 := (hB8.cell (p := ⟨tb, tof + j * 3 + 2, none⟩) htr).trans d2; clear hb8))
              go_wp2_with fail
              go_region_held3 (fun w' => w'.cell? ⟨tb, tof + j * 3, none⟩ = some (.int .i64 p0) ∧ w'.cell? ⟨tb, tof + j * 3 + 1, none⟩ = some (.int .i64 p1)) (go_keep) (first | (go_at_call 13; (with_reducible refine (F2 _).mono ?_); rintro e w9 ⟨rfl, hb9⟩; have hB9 : Below wr.heap.size wr w9 := Below.trans (by repeat' (first | (with_reducible exact Below.refl _ _) | (with_reducible assumption) | (with_reducible refine Below.alloc ?_ ?_ _) | (with_reducible refine Below.drew ?_) | (with_reducible refine belowDraws ?_ _) | (with_reducible refine Below.setCell ?_ ?_ _) | omega | (simp; done) | (simp; omega))) (hb9.mono (by first | omega | (simp; done) | (simp; omega))); have hz9 := hB9.size; have q90 := (hB9.cell (p := ⟨tb, tof + j * 3, none⟩) htr).trans d0; have q91 := (hB9.cell (p := ⟨tb, tof + j * 3 + 1, none⟩) htr).trans d1; have q92 := (hB9.cell (p := ⟨tb, tof + j * 3 + 2, none⟩) htr).trans d2; clear hb9))
              go_wp2_with fail
              all_goals go_roundw
              all_goals first
                | (case rel => exact ⟨j + 1, by go_num, by omega, hW.trans (hB9.mono hz)⟩)
                | (case measure => simp [intOf]; omega)
            · obtain rfl : j = T.length := by omega
              go_wp2_with fail
              go_ret
              exact ⟨rfl, B11.trans (hW.mono B11.size)⟩
        · have t1 : (bad != 0) = true := by simpa using h1
          clear h1 N1
          go_wp2_with fail
          go_ret
          exact ⟨rfl, B10⟩
    · have t3 : (three == 0) = false := by simpa using h3
      clear h3 N3
      by_cases h2 : one = 0
      · have t2 : (one == 0) = true := beq_iff_eq.2 h2
        obtain ⟨m1, m2', hm, hf1, hf2, hf3⟩ := N2.out h2
        have tm : ((tl - fr) % m2 != 0) = false := by simp [hm]
        clear h2 N2 hm
        by_cases h1 : bad = 0
        · have t1 : (bad != 0) = false := by simpa using h1
          obtain ⟨hg, h3, hTI, hlim, hT⟩ := N1.out h1
          have IG := fun W hW => iIsGraduation_any xA T.length xc T W rfl (by omega) hW hTI
          rw [hg] at IG
          have HT := Lib.hid hT
          have HT3 := Lib.hid h3
          have t3' : ((T.length : Int) != 3) = false := by rw [h3]; rfl
          have l1 := hlim.1
          have l2 := hlim.2
          have hT3a : 3 ≤ T.length := by omega
          have hT3b : T.length ≤ 3 := by omega
          clear h1 hT h3 hg hlim N1
          go_wp2_with fail
          refine (IG _ (Sees.ofOwn ox)).mono ?_
          rintro e w11 ⟨rfl, hb11⟩
          replace ox := ownOver ox hb11
          have B11 : Below w.heap.size w w11 := B10.trans (hb11.mono B10.size)
          clear hb11
          have ox2 := Sees.ofOwn ox
          obtain ⟨w0, rfl⟩ : ∃ w0 : World, w0 = w11 := ⟨_, rfl⟩
          go_wp2_with fail
          go_loopw [26] (fun iv wr => ∃ j : Nat, iv = .int .i64 j ∧ j ≤ T.length ∧ Below w0.heap.size w0 wr) (fun iv _ => T.length - (intOf iv).toNat)
          case atStart => exact ⟨0, rfl, Nat.zero_le _, Below.refl _ _⟩
          case round =>
            obtain ⟨j, rfl, hj, hW⟩ := hrel
            have hz := hW.size
            by_cases hlt : j < T.length
            · have i0 : (0 : Int) ≤ (j : Int) := by omega
              have i1 : (j : Int) < (T.length : Int) := by omega
              obtain ⟨tb, tof, p, rfl, htb, hp, c0, c1, c2⟩ := ox2.three (k := j) hlt
              obtain ⟨e1, qq, e2, e3⟩ := HT.out p (List.mem_of_getElem? hp)
              obtain ⟨p0, p1, p2⟩ := p
              simp only at c0 c1 c2 e1 e2 e3
              have d0 := (hW.cell (p := ⟨tb, tof + j * 3, none⟩) htb).trans c0
              have d1 := (hW.cell (p := ⟨tb, tof + j * 3 + 1, none⟩) htb).trans c1
              have d2 := (hW.cell (p := ⟨tb, tof + j * 3 + 2, none⟩) htb).trans c2
              have htr : tb < wr.heap.size := by omega
              have F1 := fun W => iFinestStep_any sc len p0 p1 lim W
              have F2 := fun W => iFinestStep_any sc len p0 p1 (lim / 2) W
              rw [e1] at F1
              rw [e2] at F2
              simp only at F1 F2
              have ed : lim.tdiv 2 = lim / 2 := Int.tdiv_eq_ediv_of_nonneg l1
              have ew : IntKind.i64.wrap (lim / 2) = lim / 2 := IntWalk.i64_in _ (by omega)
              have tq : decide (p2 < qq) = false := decide_eq_false (by omega)
              clear e1 e2 hp c0 c1 c2 ox2
              go_wp2_with fail
              go_region_held3 (fun w' => w'.cell? ⟨tb, tof + j * 3, none⟩ = some (.int .i64 p0) ∧ w'.cell? ⟨tb, tof + j * 3 + 1, none⟩ = some (.int .i64 p1)) (go_keep) (first | (go_at_call 13; (with_reducible refine (F1 _).mono ?_); rintro e w8 ⟨rfl, hb8⟩; have hB8 : Below wr.heap.size wr w8 := Below.trans (by repeat' (first | (with_reducible exact Below.refl _ _) | (with_reducible assumption) | (with_reducible refine Below.alloc ?_ ?_ _) | (with_reducible refine Below.drew ?_) | (with_reducible refine belowDraws ?_ _) | (with_reducible refine Below.setCell ?_ ?_ _) | omega | (simp; done) | (simp; omega))) (hb8.mono (by first | omega | (simp; done) | (simp; omega))); have hz8 := hB8.size; have q80 := (hB8.cell (p := ⟨tb, tof + j * 3, none⟩) htr).trans d0; have q81 := (hB8.cell (p := ⟨tb, tof + j * 3 + 1, none⟩) htr).trans d1; have q82 := (hB8.cell (p := ⟨tb, tof + j * 3 + 2, none⟩) htr).trans d2; clear hb8))
              go_wp2_with fail
              go_region_held3 (fun w' => w'.cell? ⟨tb, tof + j * 3, none⟩ = some (.int .i64 p0) ∧ w'.cell? ⟨tb, tof + j * 3 + 1, none⟩ = some (.int .i64 p1)) (go_keep) (first | (go_at_call 13; (with_reducible refine (F2 _).mono ?_); rintro e w9 ⟨rfl, hb9⟩; have hB9 : Below wr.heap.size wr w9 := Below.trans (by repeat' (first | (with_reducible exact Below.refl _ _) | (with_reducible assumption) | (with_reducible refine Below.alloc ?_ ?_ _) | (with_reducible refine Below.drew ?_) | (with_reducible refine belowDraws ?_ _) | (with_reducible refine Below.setCell ?_ ?_ _) | omega | (simp; done) | (simp; omega))) (hb9.mono (by first | omega | (simp; done) | (simp; omega))); have hz9 := hB9.size; have q90 := (hB9.cell (p := ⟨tb, tof + j * 3, none⟩) htr).trans d0; have q91 := (hB9.cell (p := ⟨tb, tof + j * 3 + 1, none⟩) htr).trans d1; have q92 := (hB9.cell (p := ⟨tb, tof + j * 3 + 2, none⟩) htr).trans d2; clear hb9))
              go_wp2_with fail
              all_goals go_roundw
              all_goals first
                | (case rel => exact ⟨j + 1, by go_num, by omega, hW.trans (hB9.mono hz)⟩)
                | (case measure => simp [intOf]; omega)
            · obtain rfl : j = T.length := by omega
              go_wp2_with fail
              go_ret
              exact ⟨rfl, B11.trans (hW.mono B11.size)⟩
        · have t1 : (bad != 0) = true := by simpa using h1
          clear h1 N1
          go_wp2_with fail
          go_ret
          exact ⟨rfl, B10⟩
      · have t2 : (one == 0) = false := by simpa using h2
        clear h2 N2
        by_cases h1 : bad = 0
        · have t1 : (bad != 0) = false := by simpa using h1
          obtain ⟨hg, h3, hTI, hlim, hT⟩ := N1.out h1
          have IG := fun W hW => iIsGraduation_any xA T.length xc T W rfl (by omega) hW hTI
          rw [hg] at IG
          have HT := Lib.hid hT
          have HT3 := Lib.hid h3
          have t3' : ((T.length : Int) != 3) = false := by rw [h3]; rfl
          have l1 := hlim.1
          have l2 := hlim.2
          have hT3a : 3 ≤ T.length := by omega
          have hT3b : T.length ≤ 3 := by omega
          clear h1 hT h3 hg hlim N1
          go_wp2_with fail
          refine (IG _ (Sees.ofOwn ox)).mono ?_
          rintro e w11 ⟨rfl, hb11⟩
          replace ox := ownOver ox hb11
          have B11 : Below w.heap.size w w11 := B10.trans (hb11.mono B10.size)
          clear hb11
          have ox2 := Sees.ofOwn ox
          obtain ⟨w0, rfl⟩ : ∃ w0 : World, w0 = w11 := ⟨_, rfl⟩
          go_wp2_with fail
          go_loopw [26] (fun iv wr => ∃ j : Nat, iv = .int .i64 j ∧ j ≤ T.length ∧ Below w0.heap.size w0 wr) (fun iv _ => T.length - (intOf iv).toNat)
          case atStart => exact ⟨0, rfl, Nat.zero_le _, Below.refl _ _⟩
          case round =>
            obtain ⟨j, rfl, hj, hW⟩ := hrel
            have hz := hW.size
            by_cases hlt : j < T.length
            · have i0 : (0 : Int) ≤ (j : Int) := by omega
              have i1 : (j : Int) < (T.length : Int) := by omega
              obtain ⟨tb, tof, p, rfl, htb, hp, c0, c1, c2⟩ := ox2.three (k := j) hlt
              obtain ⟨e1, qq, e2, e3⟩ := HT.out p (List.mem_of_getElem? hp)
              obtain ⟨p0, p1, p2⟩ := p
              simp only at c0 c1 c2 e1 e2 e3
              have d0 := (hW.cell (p := ⟨tb, tof + j * 3, none⟩) htb).trans c0
              have d1 := (hW.cell (p := ⟨tb, tof + j * 3 + 1, none⟩) htb).trans c1
              have d2 := (hW.cell (p := ⟨tb, tof + j * 3 + 2, none⟩) htb).trans c2
              have htr : tb < wr.heap.size := by omega
              have F1 := fun W => iFinestStep_any sc len p0 p1 lim W
              have F2 := fun W => iFinestStep_any sc len p0 p1 (lim / 2) W
              rw [e1] at F1
              rw [e2] at F2
              simp only at F1 F2
              have ed : lim.tdiv 2 = lim / 2 := Int.tdiv_eq_ediv_of_nonneg l1
              have ew : IntKind.i64.wrap (lim / 2) = lim / 2 := IntWalk.i64_in _ (by omega)
              have tq : decide (p2 < qq) = false := decide_eq_false (by omega)
              clear e1 e2 hp c0 c1 c2 ox2
              go_wp2_with fail
              go_region_held3 (fun w' => w'.cell? ⟨tb, tof + j * 3, none⟩ = some (.int .i64 p0) ∧ w'.cell? ⟨tb, tof + j * 3 + 1, none⟩ = some (.int .i64 p1)) (go_keep) (first | (go_at_call 13; (with_reducible refine (F1 _).mono ?_); rintro e w8 ⟨rfl, hb8⟩; have hB8 : Below wr.heap.size wr w8 := Below.trans (by repeat' (first | (with_reducible exact Below.refl _ _) | (with_reducible assumption) | (with_reducible refine Below.alloc ?_ ?_ _) | (with_reducible refine Below.drew ?_) | (with_reducible refine belowDraws ?_ _) | (with_reducible refine Below.setCell ?_ ?_ _) | omega | (simp; done) | (simp; omega))) (hb8.mono (by first | omega | (simp; done) | (simp; omega))); have hz8 := hB8.size; have q80 := (hB8.cell (p := ⟨tb, tof + j * 3, none⟩) htr).trans d0; have q81 := (hB8.cell (p := ⟨tb, tof + j * 3 + 1, none⟩) htr).trans d1; have q82 := (hB8.cell (p := ⟨tb, tof + j * 3 + 2, none⟩) htr).trans d2; clear hb8))
              go_wp2_with fail
              go_region_held3 (fun w' => w'.cell? ⟨tb, tof + j * 3, none⟩ = some (.int .i64 p0) ∧ w'.cell? ⟨tb, tof + j * 3 + 1, none⟩ = some (.int .i64 p1)) (go_keep) (first | (go_at_call 13; (with_reducible refine (F2 _).mono ?_); rintro e w9 ⟨rfl, hb9⟩; have hB9 : Below wr.heap.size wr w9 := Below.trans (by repeat' (first | (with_reducible exact Below.refl _ _) | (with_reducible assumption) | (with_reducible refine Below.alloc ?_ ?_ _) | (with_reducible refine Below.drew ?_) | (with_reducible refine belowDraws ?_ _) | (with_reducible refine Below.setCell ?_ ?_ _) | omega | (simp; done) | (simp; omega))) (hb9.mono (by first | omega | (simp; done) | (simp; omega))); have hz9 := hB9.size; have q90 := (hB9.cell (p := ⟨tb, tof + j * 3, none⟩) htr).trans d0; have q91 := (hB9.cell (p := ⟨tb, tof + j * 3 + 1, none⟩) htr).trans d1; have q92 := (hB9.cell (p := ⟨tb, tof + j * 3 + 2, none⟩) htr).trans d2; clear hb9))
              go_wp2_with fail
              all_goals go_roundw
              all_goals first
                | (case rel => exact ⟨j + 1, by go_num, by omega, hW.trans (hB9.mono hz)⟩)
                | (case measure => simp [intOf]; omega)
            · obtain rfl : j = T.length := by omega
              go_wp2_with fail
              go_ret
              exact ⟨rfl, B11.trans (hW.mono B11.size)⟩
        · have t1 : (bad != 0) = true := by simpa using h1
          clear h1 N1
          go_wp2_with fail
          go_ret
          exact ⟨rfl, B10⟩
end Go.Proofs.Ythnjiiodpjielaa
