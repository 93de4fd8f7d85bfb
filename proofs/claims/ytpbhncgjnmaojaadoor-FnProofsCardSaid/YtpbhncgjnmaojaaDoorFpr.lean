/- The law FnProofs (layer 9). No condition. -/
import Derived.Test.YtpbhncgjnmaojaaDoorDrO
import Derived.Test.YtpbhncgjnmaojaaDoorLx
import Derived.Test.YtpbhncgjnmaojaaDoorLike
namespace Go.Proofs.YtpbhncgjnmaojaaDoor
open Go.RowKit
set_option linter.unusedVariables false
set_option linter.unusedSimpArgs false

theorem coll_sym {p q : Int × Int × Int} (h : (rColl p q).2 = 0) : rColl q p = rColl p q ∧ rColl p p = (true, 0) := by
  unfold rColl at h ⊢
  split at h
  · rename_i h0
    obtain ⟨h1, h2⟩ := h0
    rw [if_pos ⟨h2, h1⟩, if_pos ⟨h1, h2⟩, if_pos ⟨h1, h1⟩, hitB_sym q.1.toNat]
    refine ⟨rfl, ?_⟩
    have hb := okL_iff.1 h1
    have h3 := (labLen_bd (n := p.1.toNat) (by omega) (by omega)).1
    have : hitB p.1.toNat p.2.1 p.1.toNat p.2.1 = true := by
      unfold hitB endL endR
      simp only [Bool.and_eq_true, decide_eq_true_eq]
      omega
    rw [this]
  · cases h
theorem dec_last {n : Nat} (h : n % 10 ≠ 0) : ∃ L u, Lib.decDigits n = L ++ [u] ∧ u ≠ 48 := by
  by_cases hn : n < 10
  · exact ⟨[], _, dec_small hn, fun e => h (by have := (digit_zero hn).1 e; omega)⟩
  · exact ⟨_, _, dec_more hn, fun e => h ((digit_zero (by omega)).1 e)⟩
theorem text_ok {p : Int × Int × Int} {t : List UInt8} (h : rText p = (t, 0)) : 1 ≤ t.length ∧ t.length ≤ 4 ∧ ∃ u, t[t.length - 1]? = some u ∧ u ≠ 48 := by
  rw [rText] at h
  split at h
  · rename_i h0
    simp only [Prod.mk.injEq, and_true] at h
    subst h
    have hb := okL_iff.1 h0
    have h3 := labLen_bd (n := p.1.toNat) (by omega) (by omega)
    unfold labLen at h3
    refine ⟨h3.1, h3.2, ?_⟩
    obtain ⟨L, u, e, hu⟩ := dec_last (stripped_last (n := p.1.toNat) (by omega) (by omega))
    refine ⟨u, ?_, hu⟩
    show (Lib.decDigits _)[(Lib.decDigits _).length - 1]? = _
    rw [e]
    simp
  · simp at h
/-- what the comparisons of the law lean on -/
theorem proof_ok {T : List (Int × Int × Int)} {V : List Int} {b : Bool} (h : rIsProof T V = (b, 0)) : ∃ P : List Int, rProof T = (P, 0) ∧ rIsProof T P = (true, 0) ∧ P.length = T.length + 1 ∧ I64s P ∧ (b = true → V.length = T.length + 1 ∧ vA P T.length ≤ vA V T.length) := by
  rw [rIsProof] at h
  split at h
  · rename_i h0
    simp only [Prod.mk.injEq, and_true] at h
    obtain ⟨h40, hok⟩ := ckL_zero h0
    have hl := dpP_length (R := RL T) (Lf := LL T) (Wt := WL T) (n := T.length) T.length
    have key : ∀ x ∈ dpP (RL T) (LL T) (WL T) T.length T.length, 0 ≤ x ∧ x ≤ 1640 := by
      intro x hx
      obtain ⟨j, hj⟩ := List.getElem?_of_mem hx
      have hjl : j < T.length + 1 := by
        rw [← hl]
        rcases Nat.lt_or_ge j (dpP (RL T) (LL T) (WL T) T.length T.length).length with h | h
        · exact h
        · rw [List.getElem?_eq_none h] at hj; cases hj
      rw [dpP_at (by omega : j ≤ T.length)] at hj
      have := dpL_bd rfl h40 hok j (by omega)
      injection hj with hj
      omega
    refine ⟨dpP (RL T) (LL T) (WL T) T.length T.length, by rw [rProof, if_pos h0], ?_, hl, fun x hx => by have := key x hx; unfold I64; omega, fun hb => ?_⟩
    · rw [rIsProof, if_pos h0]
      have e1 : prB T (dpP (RL T) (LL T) (WL T) T.length T.length) = true := by
        unfold prB
        rw [hl, dp_proof (LL_RL T)]
        simp only [Bool.and_true, Bool.and_eq_true, decide_eq_true_eq, List.all_eq_true, true_and]
        refine ⟨?_, fun x hx => ?_⟩
        · rw [vA, List.getD_eq_getElem?_getD, dpP_at (Nat.zero_le _)]
          exact dpV_zero
        · have := key x hx
          omega
      rw [e1]
    · subst hb
      unfold prB at h
      simp only [Bool.and_eq_true, decide_eq_true_eq] at h
      refine ⟨h.1, ?_⟩
      have := prTo_least (LL_RL T) h.2.1 h.2.2.2 T.length (Nat.le_refl _)
      have e2 : vA (dpP (RL T) (LL T) (WL T) T.length T.length) T.length = dpV (RL T) (LL T) (WL T) T.length T.length := by
        rw [vA, List.getD_eq_getElem?_getD, dpP_at (Nat.le_refl _)]; rfl
      omega
  · rename_i h0
    simp only [Prod.mk.injEq] at h
    exact absurd h.2 h0
theorem text_fine {t : List UInt8} {u : UInt8} (l1 : 1 ≤ t.length) (l2 : t.length ≤ 4) (hu : t[t.length - 1]? = some u) (hu2 : u ≠ 48) (hi : t.length - 1 < (ByteArray.mk t.toArray).size) : (decide ((t.length : Int) < 1) || decide (4 < (t.length : Int)) || (((ByteArray.mk t.toArray)[t.length - 1]'hi).toNat : Int) == 48) = false := by
  rw [decide_eq_false (show ¬ (t.length : Int) < 1 by omega), decide_eq_false (show ¬ 4 < (t.length : Int) by omega)]
  have e : (ByteArray.mk t.toArray)[t.length - 1]'hi = u := by
    show t.toArray[t.length - 1] = u
    rw [List.getElem_toArray]
    exact (List.getElem?_eq_some_iff.1 hu).2
  rw [e]
  have h : u.toNat ≠ 48 := fun h => hu2 (UInt8.toNat_inj.1 (by rw [h]; rfl))
  simp
  omega
theorem ownCap {w : World} {base size n c : Nat} {A : Option Addr} {e : TypeId} {xs : List Value} (h : w.ownsRow base e size (.slice A n c) n xs) : n ≤ c ∧ c ≤ 9223372036854775807 := by
  rcases ownRow h with ⟨hv, h2, _⟩ | ⟨g', cap', cur, hv, hb, F, h1, h2, _⟩
  · injection hv with _ h3 h4
    subst h3 h4
    exact ⟨Nat.le_refl _, by omega⟩
  · injection hv with _ _ h3
    subst h3
    exact ⟨h1, by unfold maxLen at h2; omega⟩
set_option maxRecDepth 100000 in
set_option maxHeartbeats 16000000 in
theorem fnProofs_walk (A : Option Addr) (n c : Nat) (l : List Int) (w : World) (hl : l.length = n) (_hc : n ≤ c) (hm : c ≤ maxLen) (hs : Sees w w.heap.size A (l.map (Value.int .u8))) (h8 : U8s l) (hT : Lib.TabIs Tryd.prog w "internal/strconv.uint64pow10" .u64 Lib.pow10Tab) :
    Calls Tryd.prog 9 #[.slice A n c] w fun e w' => e = .returned (.bool true) ∧ Below w.heap.size w w' := by
  have hT : Tab w := hT
  unfold maxLen at hm
  have BG := fun W => big_small A n c W (by omega)
  by_cases hbig : 4096 < n
  · rw [show decide (4096 < n) = true from decide_eq_true hbig] at BG
    go_enter Tryd.func9, Tryd.ntmps9
    go_wp2_with (go_at_call 33; refine (BG _).mono ?_; rintro e w' ⟨rfl, rfl⟩)
    go_ret
    exact ⟨rfl, Below.refl _ _⟩
  · rw [show decide (4096 < n) = false from decide_eq_false hbig] at BG
    have hn : n ≤ 1048576 := by omega
    go_enter Tryd.func9, Tryd.ntmps9
    go_wp2_with (go_at_call 33; refine (BG _).mono ?_; rintro e w' ⟨rfl, rfl⟩)
    clear BG
    go_wp2_with fail
    refine (DrawIsProof_any A n c l _ hl hn h8 hs).mono ?_
    rintro e w1 ⟨tv, vv, T, V, rfl, hT41, IT, hV, IV, ot, ov, hb1⟩
    have hd1 : Below w.heap.size w w1 := Below.trans (by repeat' (first | (with_reducible exact Below.refl _ _) | (with_reducible assumption) | (with_reducible refine Below.alloc ?_ ?_ _) | (with_reducible refine Below.drew ?_) | (with_reducible refine belowDraws ?_ _) | (with_reducible refine Below.setCell ?_ ?_ _) | omega | (simp; done) | (simp; omega))) (hb1.mono (by first | omega | (simp; done) | (simp; omega)))
    obtain ⟨tA, tc, rfl⟩ := ownShape ot
    obtain ⟨vA, vc, rfl⟩ := ownShape ov
    have B1 : Below w.heap.size w w1 := (Below.refl w.heap.size w).trans (hd1.mono (Below.refl w.heap.size w).size)
    have hz1 := B1.size
    clear hb1 hd1
    have HIV := Lib.hid IV
    clear IT IV
    obtain ⟨hv1, hv2⟩ := ownCap ov
    have I1 := fun W (h : Sees W W.heap.size tA (cells3 T)) (h2 : Sees W W.heap.size vA (V.map (Value.int .i64))) (h3 : Tab W) => iIsProof_any tA T.length tc T vA V.length vc V W rfl (by omega) h rfl hv1 (by omega) hv2 h2 HIV.out h3
    have S1 := fun W (h : Sees W W.heap.size tA (cells3 T)) (h2 : Sees W W.heap.size vA (V.map (Value.int .i64))) => sIsProof_any tA T.length tc T vA V.length vc V W rfl (by omega) h rfl hv1 (by omega) hv2 h2 HIV.out
    obtain ⟨⟨pb, c1⟩, H1⟩ : ∃ p, Hid (rIsProof T V = p) := ⟨_, Lib.hid rfl⟩
    rw [H1.out] at I1 S1
    simp only at I1 S1
    go_wp2_with fail
    refine (I1 _ (Sees.ofOwn ot) (Sees.ofOwn ov) (hT.over B1)).mono ?_
    rintro e w2 ⟨rfl, hb2⟩
    have hd2 : Below w1.heap.size w1 w2 := Below.trans (by repeat' (first | (with_reducible exact Below.refl _ _) | (with_reducible assumption) | (with_reducible refine Below.alloc ?_ ?_ _) | (with_reducible refine Below.drew ?_) | (with_reducible refine belowDraws ?_ _) | (with_reducible refine Below.setCell ?_ ?_ _) | omega | (simp; done) | (simp; omega))) (hb2.mono (by first | omega | (simp; done) | (simp; omega)))
    replace ot := ownOver ot hd2
    replace ov := ownOver ov hd2
    have B2 : Below w.heap.size w w2 := B1.trans (hd2.mono B1.size)
    have hz2 := B2.size
    clear hb2 hd2
    go_wp2_with fail
    refine (S1 _ (Sees.ofOwn ot) (Sees.ofOwn ov)).mono ?_
    rintro e w3 ⟨rfl, hb3⟩
    have hd3 : Below w2.heap.size w2 w3 := Below.trans (by repeat' (first | (with_reducible exact Below.refl _ _) | (with_reducible assumption) | (with_reducible refine Below.alloc ?_ ?_ _) | (with_reducible refine Below.drew ?_) | (with_reducible refine belowDraws ?_ _) | (with_reducible refine Below.setCell ?_ ?_ _) | omega | (simp; done) | (simp; omega))) (hb3.mono (by first | omega | (simp; done) | (simp; omega)))
    replace ot := ownOver ot hd3
    replace ov := ownOver ov hd3
    have B3 : Below w.heap.size w w3 := B2.trans (hd3.mono B2.size)
    have hz3 := B3.size
    clear hb3 hd3
    go_wp2_with fail
    refine (DrawDoCollide_any A n c l _ hl hn h8 ?_).mono ?_
    · first | exact hs | exact (hs.over (by repeat' (first | (with_reducible exact Below.refl _ _) | (with_reducible assumption) | (with_reducible refine Below.alloc ?_ ?_ _) | (with_reducible refine Below.drew ?_) | (with_reducible refine belowDraws ?_ _) | (with_reducible refine Below.setCell ?_ ?_ _) | omega | (simp; done) | (simp; omega)))).wider (by first | omega | (simp; done) | (simp; omega))
    rintro e w4 ⟨x, y, z, x', y', z', rfl, i1, i2, i3, i4, i5, i6, hb4⟩
    have hd4 : Below w3.heap.size w3 w4 := Below.trans (by repeat' (first | (with_reducible exact Below.refl _ _) | (with_reducible assumption) | (with_reducible refine Below.alloc ?_ ?_ _) | (with_reducible refine Below.drew ?_) | (with_reducible refine belowDraws ?_ _) | (with_reducible refine Below.setCell ?_ ?_ _) | omega | (simp; done) | (simp; omega))) (hb4.mono (by first | omega | (simp; done) | (simp; omega)))
    replace ot := ownOver ot hd4
    replace ov := ownOver ov hd4
    have B4 : Below w.heap.size w w4 := B3.trans (hd4.mono B3.size)
    have hz4 := B4.size
    clear hb4 hd4
    clear i1 i2 i3 i4 i5 i6
    have I2 := fun W (h : Tab W) => iDoCollide_any x y z x' y' z' W h
    have S2 := fun W => sDoCollide_any x y z x' y' z' W
    obtain ⟨⟨cb, c2⟩, H2⟩ : ∃ p, Hid (rColl (x, y, z) (x', y', z') = p) := ⟨_, Lib.hid rfl⟩
    rw [H2.out] at I2 S2
    simp only at I2 S2
    go_wp2_with fail
    refine (I2 _ (hT.over (by repeat' (first | (with_reducible exact Below.refl _ _) | (with_reducible assumption) | (with_reducible refine Below.alloc ?_ ?_ _) | (with_reducible refine Below.drew ?_) | (with_reducible refine belowDraws ?_ _) | (with_reducible refine Below.setCell ?_ ?_ _) | omega | (simp; done) | (simp; omega))))).mono ?_
    rintro e w5 ⟨rfl, hb5⟩
    have hl5_0 : w4.heap.size < w5.heap.size := Nat.lt_of_lt_of_le (by first | omega | (simp; done) | (simp; omega)) hb5.size
    have q5_00 : w5.cell? ⟨w4.heap.size, 0, none⟩ = some (.int .i64 x) := (by rw [hb5.cell (by first | omega | (simp; done) | (simp; omega))]; simp [go_sem, *])
    have q5_01 : w5.cell? ⟨w4.heap.size, 1, none⟩ = some (.int .i64 y) := (by rw [hb5.cell (by first | omega | (simp; done) | (simp; omega))]; simp [go_sem, *])
    have q5_02 : w5.cell? ⟨w4.heap.size, 2, none⟩ = some (.int .i64 z) := (by rw [hb5.cell (by first | omega | (simp; done) | (simp; omega))]; simp [go_sem, *])
    have hl5_1 : (w4.heap.size + 1) < w5.heap.size := Nat.lt_of_lt_of_le (by first | omega | (simp; done) | (simp; omega)) hb5.size
    have q5_10 : w5.cell? ⟨(w4.heap.size + 1), 0, none⟩ = some (.int .i64 x') := (by rw [hb5.cell (by first | omega | (simp; done) | (simp; omega))]; simp [go_sem, *])
    have q5_11 : w5.cell? ⟨(w4.heap.size + 1), 1, none⟩ = some (.int .i64 y') := (by rw [hb5.cell (by first | omega | (simp; done) | (simp; omega))]; simp [go_sem, *])
    have q5_12 : w5.cell? ⟨(w4.heap.size + 1), 2, none⟩ = some (.int .i64 z') := (by rw [hb5.cell (by first | omega | (simp; done) | (simp; omega))]; simp [go_sem, *])
    have hd5 : Below w4.heap.size w4 w5 := Below.trans (by repeat' (first | (with_reducible exact Below.refl _ _) | (with_reducible assumption) | (with_reducible refine Below.alloc ?_ ?_ _) | (with_reducible refine Below.drew ?_) | (with_reducible refine belowDraws ?_ _) | (with_reducible refine Below.setCell ?_ ?_ _) | omega | (simp; done) | (simp; omega))) (hb5.mono (by first | omega | (simp; done) | (simp; omega)))
    replace ot := ownOver ot hd5
    replace ov := ownOver ov hd5
    have B5 : Below w.heap.size w w5 := B4.trans (hd5.mono B4.size)
    have hz5 := B5.size
    clear hb5 hd5
    go_wp2_with fail
    refine (S2 _).mono ?_
    rintro e w6 ⟨rfl, hb6⟩
    have hl6_0 : w4.heap.size < w6.heap.size := Nat.lt_of_lt_of_le (by first | omega | (simp; done) | (simp; omega)) hb6.size
    have q6_00 : w6.cell? ⟨w4.heap.size, 0, none⟩ = some (.int .i64 x) := (by rw [hb6.cell (by first | omega | (simp; done) | (simp; omega))]; simp [go_sem, *])
    have q6_01 : w6.cell? ⟨w4.heap.size, 1, none⟩ = some (.int .i64 y) := (by rw [hb6.cell (by first | omega | (simp; done) | (simp; omega))]; simp [go_sem, *])
    have q6_02 : w6.cell? ⟨w4.heap.size, 2, none⟩ = some (.int .i64 z) := (by rw [hb6.cell (by first | omega | (simp; done) | (simp; omega))]; simp [go_sem, *])
    have hl6_1 : (w4.heap.size + 1) < w6.heap.size := Nat.lt_of_lt_of_le (by first | omega | (simp; done) | (simp; omega)) hb6.size
    have q6_10 : w6.cell? ⟨(w4.heap.size + 1), 0, none⟩ = some (.int .i64 x') := (by rw [hb6.cell (by first | omega | (simp; done) | (simp; omega))]; simp [go_sem, *])
    have q6_11 : w6.cell? ⟨(w4.heap.size + 1), 1, none⟩ = some (.int .i64 y') := (by rw [hb6.cell (by first | omega | (simp; done) | (simp; omega))]; simp [go_sem, *])
    have q6_12 : w6.cell? ⟨(w4.heap.size + 1), 2, none⟩ = some (.int .i64 z') := (by rw [hb6.cell (by first | omega | (simp; done) | (simp; omega))]; simp [go_sem, *])
    have hd6 : Below w5.heap.size w5 w6 := Below.trans (by repeat' (first | (with_reducible exact Below.refl _ _) | (with_reducible assumption) | (with_reducible refine Below.alloc ?_ ?_ _) | (with_reducible refine Below.drew ?_) | (with_reducible refine belowDraws ?_ _) | (with_reducible refine Below.setCell ?_ ?_ _) | omega | (simp; done) | (simp; omega))) (hb6.mono (by first | omega | (simp; done) | (simp; omega)))
    replace ot := ownOver ot hd6
    replace ov := ownOver ov hd6
    have B6 : Below w.heap.size w w6 := B5.trans (hd6.mono B5.size)
    have hz6 := B6.size
    clear q5_00 q5_01 q5_02 q5_10 q5_11 q5_12 hl5_0 hl5_1
    clear hb6 hd6
    go_wp2_with fail
    refine (DrawLabelText_any A n c l _ hl hn h8 ?_).mono ?_
    · first | exact hs | exact (hs.over (by repeat' (first | (with_reducible exact Below.refl _ _) | (with_reducible assumption) | (with_reducible refine Below.alloc ?_ ?_ _) | (with_reducible refine Below.drew ?_) | (with_reducible refine belowDraws ?_ _) | (with_reducible refine Below.setCell ?_ ?_ _) | omega | (simp; done) | (simp; omega)))).wider (by first | omega | (simp; done) | (simp; omega))
    rintro e w7 ⟨x3, y3, z3, rfl, i1, i2, i3, hb7⟩
    have hl7_0 : w4.heap.size < w7.heap.size := Nat.lt_of_lt_of_le (by first | omega | (simp; done) | (simp; omega)) hb7.size
    have q7_00 : w7.cell? ⟨w4.heap.size, 0, none⟩ = some (.int .i64 x) := (by rw [hb7.cell (by first | omega | (simp; done) | (simp; omega))]; simp [go_sem, *])
    have q7_01 : w7.cell? ⟨w4.heap.size, 1, none⟩ = some (.int .i64 y) := (by rw [hb7.cell (by first | omega | (simp; done) | (simp; omega))]; simp [go_sem, *])
    have q7_02 : w7.cell? ⟨w4.heap.size, 2, none⟩ = some (.int .i64 z) := (by rw [hb7.cell (by first | omega | (simp; done) | (simp; omega))]; simp [go_sem, *])
    have hl7_1 : (w4.heap.size + 1) < w7.heap.size := Nat.lt_of_lt_of_le (by first | omega | (simp; done) | (simp; omega)) hb7.size
    have q7_10 : w7.cell? ⟨(w4.heap.size + 1), 0, none⟩ = some (.int .i64 x') := (by rw [hb7.cell (by first | omega | (simp; done) | (simp; omega))]; simp [go_sem, *])
    have q7_11 : w7.cell? ⟨(w4.heap.size + 1), 1, none⟩ = some (.int .i64 y') := (by rw [hb7.cell (by first | omega | (simp; done) | (simp; omega))]; simp [go_sem, *])
    have q7_12 : w7.cell? ⟨(w4.heap.size + 1), 2, none⟩ = some (.int .i64 z') := (by rw [hb7.cell (by first | omega | (simp; done) | (simp; omega))]; simp [go_sem, *])
    have hd7 : Below w6.heap.size w6 w7 := Below.trans (by repeat' (first | (with_reducible exact Below.refl _ _) | (with_reducible assumption) | (with_reducible refine Below.alloc ?_ ?_ _) | (with_reducible refine Below.drew ?_) | (with_reducible refine belowDraws ?_ _) | (with_reducible refine Below.setCell ?_ ?_ _) | omega | (simp; done) | (simp; omega))) (hb7.mono (by first | omega | (simp; done) | (simp; omega)))
    replace ot := ownOver ot hd7
    replace ov := ownOver ov hd7
    have B7 : Below w.heap.size w w7 := B6.trans (hd7.mono B6.size)
    have hz7 := B7.size
    clear q6_00 q6_01 q6_02 q6_10 q6_11 q6_12 hl6_0 hl6_1
    clear hb7 hd7
    clear i1 i2 i3
    have I3 := fun W (h : Tab W) => iLabelText_any x3 y3 z3 W h
    have S3 := fun W => sLabelText_any x3 y3 z3 W
    obtain ⟨⟨tx, c3⟩, H3⟩ : ∃ p, Hid (rText (x3, y3, z3) = p) := ⟨_, Lib.hid rfl⟩
    rw [H3.out] at I3 S3
    simp only at I3 S3
    go_wp2_with fail
    refine (I3 _ (hT.over (by repeat' (first | (with_reducible exact Below.refl _ _) | (with_reducible assumption) | (with_reducible refine Below.alloc ?_ ?_ _) | (with_reducible refine Below.drew ?_) | (with_reducible refine belowDraws ?_ _) | (with_reducible refine Below.setCell ?_ ?_ _) | omega | (simp; done) | (simp; omega))))).mono ?_
    rintro e w8 ⟨rfl, hb8⟩
    have hl8_0 : w4.heap.size < w8.heap.size := Nat.lt_of_lt_of_le (by first | omega | (simp; done) | (simp; omega)) hb8.size
    have q8_00 : w8.cell? ⟨w4.heap.size, 0, none⟩ = some (.int .i64 x) := (by rw [hb8.cell (by first | omega | (simp; done) | (simp; omega))]; simp [go_sem, *])
    have q8_01 : w8.cell? ⟨w4.heap.size, 1, none⟩ = some (.int .i64 y) := (by rw [hb8.cell (by first | omega | (simp; done) | (simp; omega))]; simp [go_sem, *])
    have q8_02 : w8.cell? ⟨w4.heap.size, 2, none⟩ = some (.int .i64 z) := (by rw [hb8.cell (by first | omega | (simp; done) | (simp; omega))]; simp [go_sem, *])
    have hl8_1 : (w4.heap.size + 1) < w8.heap.size := Nat.lt_of_lt_of_le (by first | omega | (simp; done) | (simp; omega)) hb8.size
    have q8_10 : w8.cell? ⟨(w4.heap.size + 1), 0, none⟩ = some (.int .i64 x') := (by rw [hb8.cell (by first | omega | (simp; done) | (simp; omega))]; simp [go_sem, *])
    have q8_11 : w8.cell? ⟨(w4.heap.size + 1), 1, none⟩ = some (.int .i64 y') := (by rw [hb8.cell (by first | omega | (simp; done) | (simp; omega))]; simp [go_sem, *])
    have q8_12 : w8.cell? ⟨(w4.heap.size + 1), 2, none⟩ = some (.int .i64 z') := (by rw [hb8.cell (by first | omega | (simp; done) | (simp; omega))]; simp [go_sem, *])
    have hl8_2 : w7.heap.size < w8.heap.size := Nat.lt_of_lt_of_le (by first | omega | (simp; done) | (simp; omega)) hb8.size
    have q8_20 : w8.cell? ⟨w7.heap.size, 0, none⟩ = some (.int .i64 x3) := (by rw [hb8.cell (by first | omega | (simp; done) | (simp; omega))]; simp [go_sem, *])
    have q8_21 : w8.cell? ⟨w7.heap.size, 1, none⟩ = some (.int .i64 y3) := (by rw [hb8.cell (by first | omega | (simp; done) | (simp; omega))]; simp [go_sem, *])
    have q8_22 : w8.cell? ⟨w7.heap.size, 2, none⟩ = some (.int .i64 z3) := (by rw [hb8.cell (by first | omega | (simp; done) | (simp; omega))]; simp [go_sem, *])
    have hd8 : Below w7.heap.size w7 w8 := Below.trans (by repeat' (first | (with_reducible exact Below.refl _ _) | (with_reducible assumption) | (with_reducible refine Below.alloc ?_ ?_ _) | (with_reducible refine Below.drew ?_) | (with_reducible refine belowDraws ?_ _) | (with_reducible refine Below.setCell ?_ ?_ _) | omega | (simp; done) | (simp; omega))) (hb8.mono (by first | omega | (simp; done) | (simp; omega)))
    replace ot := ownOver ot hd8
    replace ov := ownOver ov hd8
    have B8 : Below w.heap.size w w8 := B7.trans (hd8.mono B7.size)
    have hz8 := B8.size
    clear q7_00 q7_01 q7_02 q7_10 q7_11 q7_12 hl7_0 hl7_1
    clear hb8 hd8
    go_wp2_with fail
    refine (S3 _).mono ?_
    rintro e w9 ⟨rfl, hb9⟩
    have hl9_0 : w4.heap.size < w9.heap.size := Nat.lt_of_lt_of_le (by first | omega | (simp; done) | (simp; omega)) hb9.size
    have q9_00 : w9.cell? ⟨w4.heap.size, 0, none⟩ = some (.int .i64 x) := (by rw [hb9.cell (by first | omega | (simp; done) | (simp; omega))]; simp [go_sem, *])
    have q9_01 : w9.cell? ⟨w4.heap.size, 1, none⟩ = some (.int .i64 y) := (by rw [hb9.cell (by first | omega | (simp; done) | (simp; omega))]; simp [go_sem, *])
    have q9_02 : w9.cell? ⟨w4.heap.size, 2, none⟩ = some (.int .i64 z) := (by rw [hb9.cell (by first | omega | (simp; done) | (simp; omega))]; simp [go_sem, *])
    have hl9_1 : (w4.heap.size + 1) < w9.heap.size := Nat.lt_of_lt_of_le (by first | omega | (simp; done) | (simp; omega)) hb9.size
    have q9_10 : w9.cell? ⟨(w4.heap.size + 1), 0, none⟩ = some (.int .i64 x') := (by rw [hb9.cell (by first | omega | (simp; done) | (simp; omega))]; simp [go_sem, *])
    have q9_11 : w9.cell? ⟨(w4.heap.size + 1), 1, none⟩ = some (.int .i64 y') := (by rw [hb9.cell (by first | omega | (simp; done) | (simp; omega))]; simp [go_sem, *])
    have q9_12 : w9.cell? ⟨(w4.heap.size + 1), 2, none⟩ = some (.int .i64 z') := (by rw [hb9.cell (by first | omega | (simp; done) | (simp; omega))]; simp [go_sem, *])
    have hl9_2 : w7.heap.size < w9.heap.size := Nat.lt_of_lt_of_le (by first | omega | (simp; done) | (simp; omega)) hb9.size
    have q9_20 : w9.cell? ⟨w7.heap.size, 0, none⟩ = some (.int .i64 x3) := (by rw [hb9.cell (by first | omega | (simp; done) | (simp; omega))]; simp [go_sem, *])
    have q9_21 : w9.cell? ⟨w7.heap.size, 1, none⟩ = some (.int .i64 y3) := (by rw [hb9.cell (by first | omega | (simp; done) | (simp; omega))]; simp [go_sem, *])
    have q9_22 : w9.cell? ⟨w7.heap.size, 2, none⟩ = some (.int .i64 z3) := (by rw [hb9.cell (by first | omega | (simp; done) | (simp; omega))]; simp [go_sem, *])
    have hd9 : Below w8.heap.size w8 w9 := Below.trans (by repeat' (first | (with_reducible exact Below.refl _ _) | (with_reducible assumption) | (with_reducible refine Below.alloc ?_ ?_ _) | (with_reducible refine Below.drew ?_) | (with_reducible refine belowDraws ?_ _) | (with_reducible refine Below.setCell ?_ ?_ _) | omega | (simp; done) | (simp; omega))) (hb9.mono (by first | omega | (simp; done) | (simp; omega)))
    replace ot := ownOver ot hd9
    replace ov := ownOver ov hd9
    have B9 : Below w.heap.size w w9 := B8.trans (hd9.mono B8.size)
    have hz9 := B9.size
    clear q8_00 q8_01 q8_02 q8_10 q8_11 q8_12 q8_20 q8_21 q8_22 hl8_0 hl8_1 hl8_2
    clear hb9 hd9
    clear I1 S1 I2 S2 I3 S3 hl h8 hs
    have C2 := Lib.hid (fun (h : c2 = 0) => coll_sym (p := (x, y, z)) (q := (x', y', z')) (by rw [H2.out, h]))
    go_upto_if 105 with fail
    go_cut [] (fun wx => wx.ownsRow w.heap.size 26 3 (.slice tA T.length tc) T.length (cells3 T) ∧ wx.ownsRow w.heap.size 2 1 (.slice vA V.length vc) V.length (V.map (Value.int .i64)) ∧ Below w.heap.size w wx)
    case first =>
      by_cases h2 : c2 = 0
      · obtain ⟨e1, e2⟩ := C2.out h2
        have e3 : rColl (x', y', z') (x, y, z) = (cb, 0) := by rw [e1, H2.out, h2]
        have J2 := fun W (h : Tab W) => iDoCollide_any x' y' z' x y z W h
        have K2 := fun W (h : Tab W) => iDoCollide_any x y z x y z W h
        rw [e3] at J2
        rw [e2] at K2
        simp only at J2 K2
        have t2 : (c2 == 0) = true := beq_iff_eq.2 h2
        clear C2 e1 e2 e3 h2 H2 H1 H3
        go_wp2_with fail
        refine (J2 _ (hT.over (by repeat' (first | (with_reducible exact Below.refl _ _) | (with_reducible assumption) | (with_reducible refine Below.alloc ?_ ?_ _) | (with_reducible refine Below.drew ?_) | (with_reducible refine belowDraws ?_ _) | (with_reducible refine Below.setCell ?_ ?_ _) | omega | (simp; done) | (simp; omega))))).mono ?_
        rintro e w10 ⟨rfl, hb10⟩
        have hl10_0 : w4.heap.size < w10.heap.size := Nat.lt_of_lt_of_le (by first | omega | (simp; done) | (simp; omega)) hb10.size
        have q10_00 : w10.cell? ⟨w4.heap.size, 0, none⟩ = some (.int .i64 x) := (by rw [hb10.cell (by first | omega | (simp; done) | (simp; omega))]; simp [go_sem, *])
        have q10_01 : w10.cell? ⟨w4.heap.size, 1, none⟩ = some (.int .i64 y) := (by rw [hb10.cell (by first | omega | (simp; done) | (simp; omega))]; simp [go_sem, *])
        have q10_02 : w10.cell? ⟨w4.heap.size, 2, none⟩ = some (.int .i64 z) := (by rw [hb10.cell (by first | omega | (simp; done) | (simp; omega))]; simp [go_sem, *])
        have hl10_1 : (w4.heap.size + 1) < w10.heap.size := Nat.lt_of_lt_of_le (by first | omega | (simp; done) | (simp; omega)) hb10.size
        have q10_10 : w10.cell? ⟨(w4.heap.size + 1), 0, none⟩ = some (.int .i64 x') := (by rw [hb10.cell (by first | omega | (simp; done) | (simp; omega))]; simp [go_sem, *])
        have q10_11 : w10.cell? ⟨(w4.heap.size + 1), 1, none⟩ = some (.int .i64 y') := (by rw [hb10.cell (by first | omega | (simp; done) | (simp; omega))]; simp [go_sem, *])
        have q10_12 : w10.cell? ⟨(w4.heap.size + 1), 2, none⟩ = some (.int .i64 z') := (by rw [hb10.cell (by first | omega | (simp; done) | (simp; omega))]; simp [go_sem, *])
        have hd10 : Below w9.heap.size w9 w10 := Below.trans (by repeat' (first | (with_reducible exact Below.refl _ _) | (with_reducible assumption) | (with_reducible refine Below.alloc ?_ ?_ _) | (with_reducible refine Below.drew ?_) | (with_reducible refine belowDraws ?_ _) | (with_reducible refine Below.setCell ?_ ?_ _) | omega | (simp; done) | (simp; omega))) (hb10.mono (by first | omega | (simp; done) | (simp; omega)))
        replace ot := ownOver ot hd10
        replace ov := ownOver ov hd10
        have B10 : Below w.heap.size w w10 := B9.trans (hd10.mono B9.size)
        have hz10 := B10.size
        clear q9_00 q9_01 q9_02 q9_10 q9_11 q9_12 hl9_0 hl9_1
        clear hb10 hd10
        go_wp2_with fail
        refine (K2 _ (hT.over (by repeat' (first | (with_reducible exact Below.refl _ _) | (with_reducible assumption) | (with_reducible refine Below.alloc ?_ ?_ _) | (with_reducible refine Below.drew ?_) | (with_reducible refine belowDraws ?_ _) | (with_reducible refine Below.setCell ?_ ?_ _) | omega | (simp; done) | (simp; omega))))).mono ?_
        rintro e w11 ⟨rfl, hb11⟩
        have hl11_0 : w4.heap.size < w11.heap.size := Nat.lt_of_lt_of_le (by first | omega | (simp; done) | (simp; omega)) hb11.size
        have q11_00 : w11.cell? ⟨w4.heap.size, 0, none⟩ = some (.int .i64 x) := (by rw [hb11.cell (by first | omega | (simp; done) | (simp; omega))]; simp [go_sem, *])
        have q11_01 : w11.cell? ⟨w4.heap.size, 1, none⟩ = some (.int .i64 y) := (by rw [hb11.cell (by first | omega | (simp; done) | (simp; omega))]; simp [go_sem, *])
        have q11_02 : w11.cell? ⟨w4.heap.size, 2, none⟩ = some (.int .i64 z) := (by rw [hb11.cell (by first | omega | (simp; done) | (simp; omega))]; simp [go_sem, *])
        have hl11_1 : (w4.heap.size + 1) < w11.heap.size := Nat.lt_of_lt_of_le (by first | omega | (simp; done) | (simp; omega)) hb11.size
        have q11_10 : w11.cell? ⟨(w4.heap.size + 1), 0, none⟩ = some (.int .i64 x') := (by rw [hb11.cell (by first | omega | (simp; done) | (simp; omega))]; simp [go_sem, *])
        have q11_11 : w11.cell? ⟨(w4.heap.size + 1), 1, none⟩ = some (.int .i64 y') := (by rw [hb11.cell (by first | omega | (simp; done) | (simp; omega))]; simp [go_sem, *])
        have q11_12 : w11.cell? ⟨(w4.heap.size + 1), 2, none⟩ = some (.int .i64 z') := (by rw [hb11.cell (by first | omega | (simp; done) | (simp; omega))]; simp [go_sem, *])
        have hd11 : Below w10.heap.size w10 w11 := Below.trans (by repeat' (first | (with_reducible exact Below.refl _ _) | (with_reducible assumption) | (with_reducible refine Below.alloc ?_ ?_ _) | (with_reducible refine Below.drew ?_) | (with_reducible refine belowDraws ?_ _) | (with_reducible refine Below.setCell ?_ ?_ _) | omega | (simp; done) | (simp; omega))) (hb11.mono (by first | omega | (simp; done) | (simp; omega)))
        replace ot := ownOver ot hd11
        replace ov := ownOver ov hd11
        have B11 : Below w.heap.size w w11 := B10.trans (hd11.mono B10.size)
        have hz11 := B11.size
        clear q10_00 q10_01 q10_02 q10_10 q10_11 q10_12 hl10_0 hl10_1
        clear hb11 hd11
        clear J2 K2
        go_wp2_with fail
        go_meet
        exact ⟨ot, ov, by repeat' (first | (with_reducible exact Below.refl _ _) | (with_reducible assumption) | (with_reducible refine Below.alloc ?_ ?_ _) | (with_reducible refine Below.drew ?_) | (with_reducible refine belowDraws ?_ _) | (with_reducible refine Below.setCell ?_ ?_ _) | omega | (simp; done) | (simp; omega))⟩
      · have t2 : (c2 == 0) = false := by simpa using h2
        clear C2 H2 H1 H3 h2
        go_wp2_with fail
        go_meet
        exact ⟨ot, ov, B9⟩
    case rest =>
    obtain ⟨ot, ov, BX⟩ := hcut
    obtain ⟨wz, rfl⟩ : ∃ w0 : World, w0 = wc := ⟨_, rfl⟩
    clear C2 H2 q9_00 q9_01 q9_02 q9_10 q9_11 q9_12 q9_20 q9_21 q9_22 hl9_0 hl9_1 hl9_2 B1 hz1 B2 hz2 B3 hz3 B4 hz4 B5 hz5 B6 hz6 B7 hz7 B8 hz8 B9 hz9
    have zz := BX.size
    go_upto_region 19 with fail
    go_cut [152] (fun s1 wx => s1 = .bool false ∧ wx = wz)
    case first =>
      by_cases h3 : c3 = 0
      · have t3 : (c3 == 0) = true := beq_iff_eq.2 h3
        obtain ⟨l1, l2, u, hu, hu2⟩ := text_ok (H3.out.trans (by rw [h3]))
        clear H3 H1 h3
        go_wp2_with fail
        go_meet
        refine ⟨?_, rfl⟩
        exact congrArg Value.bool (text_fine l1 l2 hu hu2 _)
      · have t3 : (c3 == 0) = false := by simpa using h3
        clear H3 H1 h3
        go_wp2_with fail
        go_meet
        exact ⟨rfl, rfl⟩
    case rest =>
    obtain ⟨rfl, rfl⟩ := hcut
    clear H3
    by_cases h1 : c1 = 0
    · have t1 : (c1 != 0) = false := by simpa using h1
      obtain ⟨P, hP, hIP, hPl, hIv, hge⟩ := proof_ok (H1.out.trans (by rw [h1]))
      have I4 := fun W (h : Sees W W.heap.size tA (cells3 T)) (h3 : Tab W) => iLabelProof_any tA T.length tc T W rfl (by omega) h h3
      rw [hP] at I4
      simp only at I4
      have HGE := Lib.hid hge
      have HPL := Lib.hid hPl
      have hP42 : P.length ≤ 42 := by omega
      have HPI := Lib.hid hIv
      clear H1 h1 hP hge hIv hPl
      go_wp2_with fail
      refine (I4 _ (Sees.ofOwn ot) (hT.over BX)).mono ?_
      rintro e wy ⟨pv, rfl, op, by4⟩
      obtain ⟨pA, pc, rfl⟩ := ownShape op
      replace ot := ownOver ot by4
      replace ov := ownOver ov by4
      have BY : Below w.heap.size w wy := BX.trans (by4.mono zz)
      have zy := BY.size
      obtain ⟨hp1, hp2⟩ := ownCap op
      have J4 := fun W (h : Sees W W.heap.size tA (cells3 T)) (h2 : Sees W W.heap.size pA (P.map (Value.int .i64))) (h3 : Tab W) => iIsProof_any tA T.length tc T pA P.length pc P W rfl (by omega) h rfl hp1 (by omega) hp2 h2 HPI.out h3
      rw [hIP] at J4
      simp only at J4
      clear by4 I4 hIP
      go_wp2_with fail
      refine (J4 _ (Sees.ofOwn ot) (Sees.ofOwn op) (hT.over BY)).mono ?_
      rintro e wq ⟨rfl, bq⟩
      replace op := ownOver op bq
      replace ov := ownOver ov bq
      have BQ : Below w.heap.size w wq := BY.trans (bq.mono zy)
      clear bq J4 ot BY BX
      cases pb with
      | false =>
        go_wp2_with fail
        go_quiet (fail)
        all_goals go_wp2_with fail
        all_goals go_ret
        all_goals exact ⟨rfl, by repeat' (first | (with_reducible exact Below.refl _ _) | (with_reducible assumption) | (with_reducible refine Below.alloc ?_ ?_ _) | (with_reducible refine Below.drew ?_) | (with_reducible refine belowDraws ?_ _) | (with_reducible refine Below.setCell ?_ ?_ _) | omega | (simp; done) | (simp; omega))⟩
      | true =>
        obtain ⟨g1, g2⟩ := HGE.out rfl
        obtain ⟨gv, rfl, hgv⟩ := ownAddr ov (by omega) (by simp) (by decide)
        have hPl := HPL.out
        obtain ⟨gp, rfl, hgp⟩ := ownAddr op (by omega) (by simp) (by decide)
        obtain ⟨x1, hx1⟩ : ∃ x, V[T.length]? = some x := ⟨_, List.getElem?_eq_getElem (by omega)⟩
        obtain ⟨x2, hx2⟩ : ∃ x, P[T.length]? = some x := ⟨_, List.getElem?_eq_getElem (by omega)⟩
        have k1 : wq.cell? ⟨gv, T.length, none⟩ = some (.int .i64 x1) := ownAt ov _ _ (by rw [List.getElem?_map, hx1]; rfl)
        have k2 : wq.cell? ⟨gp, T.length, none⟩ = some (.int .i64 x2) := ownAt op _ _ (by rw [List.getElem?_map, hx2]; rfl)
        rw [vA, vA, List.getD_eq_getElem?_getD, List.getD_eq_getElem?_getD, hx1, hx2] at g2
        simp only [Option.getD_some] at g2
        have d1 : decide (x2 ≤ x1) = true := decide_eq_true g2
        have j1 : (T.length : Int) < (V.length : Int) := by omega
        have j2 : (T.length : Int) < (P.length : Int) := by omega
        have j0 : (0 : Int) ≤ (T.length : Int) := by omega
        have jn : ((T.length : Int)).toNat = T.length := Int.toNat_natCast _
        clear hx1 hx2 g2 HGE ov op hPl g1
        go_wp2_with fail
        go_quiet (fail)
        all_goals go_wp2_with fail
        all_goals go_ret
        all_goals exact ⟨rfl, by repeat' (first | (with_reducible exact Below.refl _ _) | (with_reducible assumption) | (with_reducible refine Below.alloc ?_ ?_ _) | (with_reducible refine Below.drew ?_) | (with_reducible refine belowDraws ?_ _) | (with_reducible refine Below.setCell ?_ ?_ _) | omega | (simp; done) | (simp; omega))⟩
    · have t1 : (c1 != 0) = true := by simpa using h1
      clear H1 h1
      go_wp2_with fail
      go_ret
      exact ⟨rfl, BX⟩
end Go.Proofs.YtpbhncgjnmaojaaDoor
