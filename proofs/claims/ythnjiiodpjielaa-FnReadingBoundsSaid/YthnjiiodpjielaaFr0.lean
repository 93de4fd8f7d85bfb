/- The plain law of FnReadingBounds: a figure in its spread, a bound that falls with the errors. No program in sight. -/
import Derived.Test.YthnjiiodpjielaaRb
namespace Go.Proofs.Ythnjiiodpjielaa
set_option linter.unusedVariables false
set_option linter.unusedSimpArgs false

theorem bel_at {n u : Int} (h1 : -31457280 ≤ u) (h2 : u ≤ 31457280) (h : u < hiN n) : bel u ≤ n := by
  have a := (bel_edge h1 h2).1.2
  simp only [hiP, decide_eq_false_iff_not] at a
  rcases Int.lt_or_le n (bel u) with hc | hc
  · have c := hiN_mono (show n ≤ bel u - 1 by omega)
    omega
  · exact hc
theorem bel_lt {u : Int} (h1 : -31457280 ≤ u) (h2 : u ≤ 31457280) : u < hiN (bel u) := by
  have a := (bel_edge h1 h2).1.1
  simpa only [hiP, decide_eq_true_eq] using a
theorem abv_at {n v : Int} (h1 : -31457280 ≤ v) (h2 : v ≤ 31457280) (h : v ≤ loN n) : abv v ≤ n := by
  have a := (abv_edge h1 h2).1.2
  simp only [loP, decide_eq_false_iff_not] at a
  rcases Int.lt_or_le n (abv v) with hc | hc
  · have c := loN_mono (show n ≤ abv v - 1 by omega)
    omega
  · exact hc
theorem abv_le {v : Int} (h1 : -31457280 ≤ v) (h2 : v ≤ 31457280) : v ≤ loN (abv v) := by
  have a := (abv_edge h1 h2).1.1
  simpa only [loP, decide_eq_true_eq] using a
theorem abv_gt {n v : Int} (h1 : -31457280 ≤ v) (h2 : v ≤ 31457280) (h : loN n < v) : n < abv v := by
  have a := abv_le h1 h2
  rcases Int.lt_or_le n (abv v) with hc | hc
  · exact hc
  · have c := loN_mono hc
    omega
/-- the number of a figure -/
theorem fig_num {d t : Int} (hd : Dig d) : ∃ n : Int, nD n = d ∧ nT n = t ∧ loN n = fL d t ∧ hiN n = fU d t := by
  obtain ⟨d1, d2⟩ := hd
  obtain ⟨e1, e2⟩ := n_of (t := t) (i := d - 1000) (by omega) (by omega)
  have e3 : (1000 : Int) + (d - 1000) = d := by omega
  rw [e3] at e1
  exact ⟨9000 * t + (d - 1000), e1, e2, by rw [loN, e1, e2], by rw [hiN, e1, e2]⟩
theorem fL_lt_fU {d t : Int} (hd : Dig d) : fL d t < fU d t := by
  have := dL_lt_dU hd
  unfold fL fU
  omega
/-- what a spread says -/
theorem spread_says {d t un a b c e : Int} (h : rSpread d t un = ((a, b), (c, e), 0)) : figB d t = true ∧ (0 ≤ un ∧ un ≤ 1048576) ∧ unitsB (fL d t - un) = true ∧ unitsB (fU d t + un) = true ∧ figB a b = true ∧ figB c e = true ∧ a = nD (bel (fL d t - un) - 1) ∧ b = nT (bel (fL d t - un) - 1) ∧ c = nD (abv (fU d t + un)) ∧ e = nT (abv (fU d t + un)) := by
  unfold rSpread at h
  split at h
  · rename_i hf
    split at h
    · rename_i hu
      unfold rSpan at h
      split at h
      · rename_i hk
        simp only [Bool.and_eq_true] at hk
        split at h
        · rename_i hg
          simp only [Bool.and_eq_true] at hg
          simp only [Prod.mk.injEq] at h
          obtain ⟨⟨h1, h2⟩, ⟨h3, h4⟩, -⟩ := h
          rw [h1, h2] at hg
          rw [h3, h4] at hg
          exact ⟨hf, inB_iff.1 hu, hk.1, hk.2, hg.1, hg.2, h1.symm, h2.symm, h3.symm, h4.symm⟩
        · simp at h
      · simp at h
    · simp at h
  · simp at h
theorem spread_is {d t un : Int} (h1 : figB d t = true) (h2 : 0 ≤ un ∧ un ≤ 1048576) (h3 : unitsB (fL d t - un) = true) (h4 : unitsB (fU d t + un) = true) (h5 : figB (nD (bel (fL d t - un) - 1)) (nT (bel (fL d t - un) - 1)) = true) (h6 : figB (nD (abv (fU d t + un))) (nT (abv (fU d t + un))) = true) :
    rSpread d t un = ((nD (bel (fL d t - un) - 1), nT (bel (fL d t - un) - 1)), (nD (abv (fU d t + un)), nT (abv (fU d t + un))), 0) := by
  rw [rSpread, if_pos h1, if_pos (inB_iff.2 h2), rSpan, if_pos (by rw [h3, h4]; rfl), if_pos (by rw [h5, h6]; rfl)]
theorem figB_num {n : Int} : figB (nD n) (nT n) = true ↔ -30 ≤ nT n ∧ nT n ≤ 30 := by
  rw [figB_iff]
  exact ⟨fun h => h.2, fun h => ⟨nD_dig n, h⟩⟩
theorem nT_mono {n m : Int} (h : n ≤ m) : nT n ≤ nT m := by unfold nT; omega
/-- a figure lies in its spread -/
theorem spread_holds {d t un a b c e : Int} (h : rSpread d t un = ((a, b), (c, e), 0)) : 10000 * b + a ≤ 10000 * t + d ∧ 10000 * t + d ≤ 10000 * e + c := by
  obtain ⟨hf, hu, k1, k2, g1, g2, ea, eb, ec, ee⟩ := spread_says h
  obtain ⟨u1, u2⟩ := inB_iff.1 k1
  obtain ⟨v1, v2⟩ := inB_iff.1 k2
  have hd := (figB_iff.1 hf).1
  have hl := fL_lt_fU (t := t) hd
  obtain ⟨n, e1, e2, e3, e4⟩ := fig_num (t := t) hd
  have b1 := bel_at (n := n) u1 u2 (by omega)
  have b2 := abv_gt (n := n) v1 v2 (by omega)
  have o1 := nOrd (show bel (fL d t - un) - 1 ≤ n by omega)
  have o2 := nOrd (show n ≤ abv (fU d t + un) by omega)
  rw [e1, e2] at o1 o2
  rw [ea, eb, ec, ee]
  exact ⟨o1, o2⟩
/-- fewer units spread less -/
theorem spread_less {d t un uw a b c e : Int} (h : rSpread d t un = ((a, b), (c, e), 0)) (h0 : 0 ≤ uw) (h1 : uw ≤ un) :
    ∃ p q r v : Int, rSpread d t uw = ((p, q), (r, v), 0) ∧ 10000 * b + a ≤ 10000 * q + p ∧ 10000 * v + r ≤ 10000 * e + c := by
  obtain ⟨hf, hu, k1, k2, g1, g2, ea, eb, ec, ee⟩ := spread_says h
  obtain ⟨u1, u2⟩ := inB_iff.1 k1
  obtain ⟨v1, v2⟩ := inB_iff.1 k2
  obtain ⟨hd, t1, t2⟩ := figB_iff.1 hf
  have hl := fL_lt_fU (t := t) hd
  obtain ⟨n, e1, e2, e3, e4⟩ := fig_num (t := t) hd
  have x1 : -31457280 ≤ fL d t - uw := by omega
  have x2 : fL d t - uw ≤ 31457280 := by omega
  have y1 : -31457280 ≤ fU d t + uw := by omega
  have y2 : fU d t + uw ≤ 31457280 := by omega
  have b1 := bel_at (n := n) x1 x2 (by omega)
  have b2 := abv_gt (n := n) y1 y2 (by omega)
  have b3 : bel (fL d t - un) ≤ bel (fL d t - uw) := bel_at u1 u2 (by have := bel_lt x1 x2; omega)
  have b4 : abv (fU d t + uw) ≤ abv (fU d t + un) := abv_at y1 y2 (by have := abv_le v1 v2; omega)
  rw [ea, eb] at g1
  rw [ec, ee] at g2
  rw [ea, eb, ec, ee]
  have f1 := figB_num.1 g1
  have f2 := figB_num.1 g2
  have m1 := nT_mono (show bel (fL d t - un) - 1 ≤ bel (fL d t - uw) - 1 by omega)
  have m2 := nT_mono (show bel (fL d t - uw) - 1 ≤ n by omega)
  have m3 := nT_mono (show n ≤ abv (fU d t + uw) by omega)
  have m4 := nT_mono b4
  rw [e2] at m2 m3
  refine ⟨_, _, _, _, spread_is hf ⟨h0, by omega⟩ (inB_iff.2 ⟨x1, x2⟩) (inB_iff.2 ⟨y1, y2⟩) (figB_num.2 ⟨by omega, by omega⟩) (figB_num.2 ⟨by omega, by omega⟩), nOrd (by omega), nOrd b4⟩
theorem ceil_most {x l u : Int} (hl : 0 < l) (h : x ≤ l * u) : ceilDiv x l ≤ u := by
  have hb := (ceilDiv_bd (a := x) hl).2
  have : l * ceilDiv x l < l * (u + 1) := by rw [Int.mul_add]; omega
  have := Int.lt_of_mul_lt_mul_left this (by omega)
  omega
theorem relOut_at {da db s P : Int} (h : 0 ≤ da * P - db) (h1 : pS s = P) (h2 : pS (-s) = 1) : relOut da db s = ceilDiv (1000000 * (da * P - db)) db := by
  unfold relOut
  rw [h1, h2, Int.mul_one, Int.max_eq_left (by omega)]
theorem relOut_zero {da db : Int} (h : db ≤ da) : relOut da db 0 = ceilDiv (1000000 * (da - db)) db := by
  rw [relOut_at (P := 1) (by omega) (by decide) (by decide), Int.mul_one]
theorem relOut_one {da db : Int} (ha : Dig da) (hb : Dig db) : relOut da db 1 = ceilDiv (1000000 * (da * 10 - db)) db :=
  relOut_at (by have := ha.1; have := hb.2; omega) (by decide) (by decide)
/-- x of y at most n ten thousandths of a hundredth -/
theorem out_less {x y X Y n : Int} (hy : 0 < y) (hY : 0 < Y) (hX : 0 ≤ X) (hn : ceilDiv (1000000 * (X - Y)) Y = n) (k : Int) (hk : 0 < k) (h1 : k * x ≤ X) (h2 : Y ≤ k * y) : ceilDiv (1000000 * (x - y)) y ≤ n := by
  have hb := (ceilDiv_bd (a := 1000000 * (X - Y)) hY).1
  rw [hn] at hb
  have e : Y * (n + 1000000) = Y * n + 1000000 * Y := by rw [Int.mul_add]; omega
  have hN : 0 ≤ n + 1000000 := by
    rcases Int.lt_or_le (n + 1000000) 0 with hc | hc
    · have := Int.mul_le_mul_of_nonneg_left (show n + 1000000 ≤ -1 by omega) (show 0 ≤ Y by omega)
      omega
    · exact hc
  have m := Int.mul_le_mul_of_nonneg_right h2 hN
  have f : k * (1000000 * x) ≤ k * (y * (n + 1000000)) := by
    rw [← Int.mul_assoc k y]
    have : k * (1000000 * x) = 1000000 * (k * x) := by rw [← Int.mul_assoc, Int.mul_comm k, Int.mul_assoc]
    omega
  have g := Int.le_of_mul_le_mul_left f hk
  apply ceil_most hy
  have : y * (n + 1000000) = y * n + 1000000 * y := by rw [Int.mul_add]; omega
  omega
theorem rel_less {ha ta lb tb xa xt yb yt n : Int} (d1 : Dig ha) (d2 : Dig lb) (d3 : Dig xa) (d4 : Dig yb) (h1 : 10000 * ta + ha ≤ 10000 * xt + xa) (h2 : 10000 * yt + yb ≤ 10000 * tb + lb) (h3 : 10000 * tb + lb ≤ 10000 * ta + ha) (h : rRel xa xt yb yt = (n, 0)) :
    ∃ m, rRel ha ta lb tb = (m, 0) ∧ m ≤ n := by
  obtain ⟨p1, p2⟩ := d1
  obtain ⟨q1, q2⟩ := d2
  obtain ⟨r1, r2⟩ := d3
  obtain ⟨s1, s2⟩ := d4
  rw [rRel] at h
  split at h
  · simp at h
  · rename_i c1
    split at h
    · omega
    · rename_i c2
      split at h
      · simp at h
      · rename_i c3
        simp only [Prod.mk.injEq, and_true] at h
        have key : relOut ha lb (ta - tb) ≤ n := by
          rcases (show (ta - tb = 0 ∧ xt - yt = 0 ∧ ta = xt ∧ tb = yt) ∨ (ta - tb = 0 ∧ xt - yt = 1 ∧ xt = ta + 1 ∧ yt = tb) ∨ (ta - tb = 0 ∧ xt - yt = 1 ∧ xt = ta ∧ tb = yt + 1) ∨ (ta - tb = 1 ∧ xt - yt = 1 ∧ ta = xt ∧ tb = yt) by omega) with ⟨z1, z2, z3, z4⟩ | ⟨z1, z2, z3, z4⟩ | ⟨z1, z2, z3, z4⟩ | ⟨z1, z2, z3, z4⟩
          · rw [z1, relOut_zero (by omega)]
            rw [z2, relOut_zero (by omega)] at h
            exact out_less (by omega) (by omega) (by omega) h 1 (by omega) (by omega) (by omega)
          · rw [z1, relOut_zero (by omega)]
            rw [z2, relOut_one ⟨r1, r2⟩ ⟨s1, s2⟩] at h
            exact out_less (by omega) (by omega) (by omega) h 1 (by omega) (by omega) (by omega)
          · rw [z1, relOut_zero (by omega)]
            rw [z2, relOut_one ⟨r1, r2⟩ ⟨s1, s2⟩] at h
            exact out_less (by omega) (by omega) (by omega) h 10 (by omega) (by omega) (by omega)
          · rw [z1, relOut_one ⟨p1, p2⟩ ⟨q1, q2⟩]
            rw [z2, relOut_one ⟨r1, r2⟩ ⟨s1, s2⟩] at h
            exact out_less (by omega) (by omega) (by omega) h 1 (by omega) (by omega) (by omega)
        refine ⟨relOut ha lb (ta - tb), ?_, key⟩
        rw [rRel, if_neg (by omega), if_neg (by omega), if_neg (by omega)]
theorem errU_less {s l a b c : Int} (hl : 0 < l) (ha : 0 ≤ a) (hb : 0 ≤ b) (hc : 0 ≤ c) : 0 ≤ errU s l a b 0 ∧ errU s l a b 0 ≤ errU s l a b c := by
  have hD : 0 ≤ decades s := by unfold decades; split <;> (try split) <;> (try split) <;> (try split) <;> omega
  have m := Int.mul_le_mul_of_nonneg_right (show (2 * a + b + 0) * 1048576 ≤ (2 * a + b + c) * 1048576 by omega) hD
  have z := Int.mul_nonneg (show 0 ≤ (2 * a + b + 0) * 1048576 by omega) hD
  unfold errU
  constructor
  · have hb := (ceilDiv_bd (a := (2 * a + b + 0) * 1048576 * decades s) hl).1
    rcases Int.lt_or_le (ceilDiv ((2 * a + b + 0) * 1048576 * decades s) l) 0 with hc | hc
    · have := Int.mul_le_mul_of_nonneg_left (show ceilDiv ((2 * a + b + 0) * 1048576 * decades s) l ≤ -1 by omega) (show 0 ≤ l by omega)
      omega
    · exact hc
  · exact ceil_most hl (Int.le_trans m (ceilDiv_bd hl).1)
/-- fewer errors, no greater bound -/
theorem bound_less {s len a b c d t n : Int} (h : rBound s len a b c d t = (n, 0)) : ∃ m, rBound s len a b 0 d t = (m, 0) ∧ m ≤ n := by
  rw [rBound] at h
  split at h
  · rename_i h1
    split at h
    · rename_i h2
      split at h
      · rename_i h3
        simp only [Bool.and_eq_true] at h1 h2
        obtain ⟨⟨x1, x2⟩, ⟨x3, x4⟩, x5, x6⟩ := areErrorsB_iff.1 h1.2
        obtain ⟨l1, l2⟩ := inB_iff.1 h2.2
        obtain ⟨w0, w1⟩ := errU_less (s := s) (l := len) (a := a) (b := b) (c := c) (by omega) x1 x3 x5
        rcases hs : rSpread d t (errU s len a b c) with ⟨⟨p, q⟩, ⟨r, v⟩, z⟩
        rw [hs] at h h3
        simp only at h h3
        subst h3
        obtain ⟨p2, q2, r2, v2, e2, o1, o2⟩ := spread_less hs w0 w1
        obtain ⟨f1, f2, f3⟩ := rSpread_ok hs
        obtain ⟨g1, g2, g3⟩ := rSpread_ok e2
        obtain ⟨m, hm, hmn⟩ := rel_less (figB_iff.1 g2).1 (figB_iff.1 g1).1 (figB_iff.1 f2).1 (figB_iff.1 f1).1 o2 o1 g3 h
        refine ⟨m, ?_, hmn⟩
        rw [rBound, if_pos (by rw [h1.1, areErrorsB_iff.2 ⟨⟨x1, x2⟩, ⟨x3, x4⟩, by omega, by omega⟩]; rfl), if_pos (by rw [h2.1, h2.2]; rfl), e2, if_pos rfl]
        exact hm
      · rename_i h3
        simp only [Prod.mk.injEq] at h
        exact absurd h.2 h3
    · simp at h
  · simp at h
end Go.Proofs.Ythnjiiodpjielaa
