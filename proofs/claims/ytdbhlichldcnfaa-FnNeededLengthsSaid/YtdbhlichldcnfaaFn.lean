/- The law FnNeededLengths (layer 6). No condition. -/
import Derived.Test.YtdbhlichldcnfaaDr2
import Derived.Test.YtdbhlichldcnfaaNl2
import Derived.Test.YtdbhlichldcnfaaFe
namespace Go.Proofs.Ytdbhlichldcnfaa
open Go.RowKit
set_option linter.unusedVariables false
set_option linter.unusedSimpArgs false

theorem needAt_ok {s d1 d2 t eye : Int} : ∀ (f : Nat) (k n : Int), needAt s d1 d2 t eye f k = (n, 0) → k ≤ n ∧ n + 100 ≤ k + 100 * (f : Int) ∧ (n - k) % 100 = 0 ∧ apartB s d1 d2 t n eye = true ∧ (n ≠ k → k + 100 ≤ n ∧ apartB s d1 d2 t (n - 100) eye = false)
  | 0, k, n, h => by simp [needAt] at h
  | f + 1, k, n, h => by
    by_cases ha : apartB s d1 d2 t k eye = true
    · rw [needAt_yes ha] at h
      simp only [Prod.mk.injEq, and_true] at h
      subst h
      exact ⟨Int.le_refl _, by omega, by omega, ha, fun hne => absurd rfl hne⟩
    · have ha' : apartB s d1 d2 t k eye = false := by simpa using ha
      rw [needAt_no ha'] at h
      obtain ⟨h1, h2, h3, h4, h5⟩ := needAt_ok f (k + 100) n h
      refine ⟨by omega, by omega, by omega, h4, fun hne => ⟨by omega, ?_⟩⟩
      by_cases e : n = k + 100
      · rw [e, show k + 100 - 100 = k by omega]; exact ha'
      · exact (h5 e).2
theorem rNeed_ok {s d t eye parts n : Int} (h : rNeed s d t eye parts = (n, 0)) :
    figB d t = true ∧ (1 ≤ parts ∧ parts ≤ 4) ∧ cutT d t parts = t ∧ Dig (cutD d parts) ∧ Dig (nextD d parts) ∧ (0 ≤ s ∧ s ≤ 5) ∧ (s = 5 → t = 0) ∧ (0 ≤ t ∧ t ≤ 2) ∧ (0 ≤ eye ∧ eye ≤ 200) ∧
      (100 ≤ n ∧ n ≤ 100000) ∧ apartB s (cutD d parts) (nextD d parts) t n eye = true ∧ (n ≠ 100 → 200 ≤ n ∧ apartB s (cutD d parts) (nextD d parts) t (n - 100) eye = false) := by
  unfold rNeed at h
  split at h
  · rename_i hf
    split at h
    · rename_i ho
      split at h
      · simp at h
      · rename_i hb
        simp only [needOk, Bool.and_eq_true] at ho
        obtain ⟨o1, o2, o3, o4⟩ := ho
        have p := inB_iff.1 o3
        have q := inB_iff.1 o4
        have r := inB_iff.1 o1
        have hd := (figB_iff.1 hf).1
        obtain ⟨c1, c2, c3, c4⟩ := cut_of (t := t) hd p.1 p.2
        have dd := decades_bd s
        obtain ⟨n1, n2, n3, n4, n5⟩ := needAt_ok 1000 100 n h
        refine ⟨hf, p, by omega, c1, ⟨by omega, by omega⟩, r, fun h5 => ?_, ⟨q.1, by omega⟩, inB_iff.1 o2, ⟨n1, by omega⟩, n4, fun hne => ⟨by have := (n5 hne).1; omega, (n5 hne).2⟩⟩
        subst h5
        rw [show decades 5 = 1 from rfl] at q
        omega
    · simp at h
  · simp at h
theorem ckPlace_fit {s len d t : Int} (hd : Dig d) (hs : 0 ≤ s ∧ s ≤ 5) (h5 : s = 5 → t = 0) (ht : 0 ≤ t ∧ t ≤ 2) (hl : 1 ≤ len ∧ len ≤ 100000) : ckPlace s len d t = 0 := by
  have : ckShown s d t = 0 := by
    rw [ckShown, if_pos (figB_iff.2 ⟨hd, by omega, by omega⟩), if_pos (inB_iff.2 hs), if_neg (fun h => h.2 (h5 h.1))]
  rw [ckPlace, if_pos this, if_pos (inB_iff.2 hl)]
set_option maxHeartbeats 400000 in
theorem limited_ok (d t : Int) (w : World) (h : figB d t = true) :
    Calls Try.prog 94 #[.agg #[.int .i64 d, .int .i64 t]] w fun e w' => e = .returned (.tuple #[.agg #[.int .i64 d, .int .i64 t], .int .i64 0]) ∧ Below w.heap.size w w' := by
  have I := fun W => iIsFigure_any d t W
  rw [h] at I
  go_enter Try.func94, Try.ntmps94
  go_wp2_with (go_at_call 73; (with_reducible refine (I _).mono ?_); rintro e w' ⟨rfl, rfl⟩)
  (refine bodyPost_ret (v := .tuple #[.agg #[.int .i64 d, .int .i64 t], .int .i64 0]) ?_ rfl ?_; (focus (simp [results, Try.results94, go_sem, *])); exact ⟨rfl, by repeat' (first | (with_reducible exact Below.refl _ _) | (with_reducible assumption) | (with_reducible refine Below.alloc ?_ ?_ _) | (with_reducible refine Below.drew ?_) | (with_reducible refine belowDraws ?_ _) | (with_reducible refine Below.setCell ?_ ?_ _) | omega | (simp; done) | (simp; omega))⟩)
set_option maxHeartbeats 2000000 in
theorem iRoundFigure_ok (d t parts : Int) (w : World) (h : figB d t = true) (p1 : 1 ≤ parts) (p2 : parts ≤ 4) (hc : figB (cutD d parts) (cutT d t parts) = true) :
    Calls Try.prog 46 #[.agg #[.int .i64 d, .int .i64 t], .int .i64 parts] w fun e w' => e = .returned (.tuple #[.agg #[.int .i64 (cutD d parts), .int .i64 (cutT d t parts)], .int .i64 0]) ∧ Below w.heap.size w w' := by
  have I := fun W => iIsFigure_any d t W
  rw [h] at I
  have hf := figB_iff.1 h
  have R := fun W => roundFigure_any d t parts W hf.1 (by omega) (by omega) p1 p2
  have L := fun W => limited_ok (cutD d parts) (cutT d t parts) W hc
  have hp : inB parts 1 4 = true := inB_iff.2 ⟨p1, p2⟩
  generalize cutD d parts = cd at *
  generalize cutT d t parts = ct at *
  clear h hf hc
  go_enter Try.func46, Try.ntmps46
  go_wp2_with (first
    | (go_at_call 73; (with_reducible refine (I _).mono ?_); rintro e w' ⟨rfl, rfl⟩)
    | (go_at_call 63; refine (within_any _ _ _ _).mono ?_; rintro e w' ⟨rfl, rfl⟩)
    | (go_at_call 76; refine (R _).mono ?_; rintro e w1 ⟨rfl, hb1⟩; have hB1 : Below w.heap.size w w1 := Below.trans (by repeat' (first | exact Below.refl _ _ | assumption | refine Below.alloc ?_ (by first | omega | (simp; done) | (simp; omega)) _ | refine Below.drew ?_ | refine Below.setCell ?_ (by first | omega | (simp; done) | (simp; omega)) _)) (hb1.mono (by first | omega | (simp; done) | (simp; omega))); have hz1 := hB1.size; have hl1_0 : (w.heap.size + 1) < w1.heap.size := Nat.lt_of_lt_of_le (by first | omega | (simp; done) | (simp; omega)) hb1.size; have q1_00 : w1.cell? ⟨(w.heap.size + 1), 0, none⟩ = some (.int .i64 0) := (by rw [hb1.cell (by first | omega | (simp; done) | (simp; omega))]; simp [go_sem, *]); have r1_00 : w1.frozen? ⟨(w.heap.size + 1), 0, none⟩ = false := (by rw [hb1.frozen (by first | omega | (simp; done) | (simp; omega))]; simp [go_sem, *]); have q1_01 : w1.cell? ⟨(w.heap.size + 1), 1, none⟩ = some (.int .i64 0) := (by rw [hb1.cell (by first | omega | (simp; done) | (simp; omega))]; simp [go_sem, *]); have r1_01 : w1.frozen? ⟨(w.heap.size + 1), 1, none⟩ = false := (by rw [hb1.frozen (by first | omega | (simp; done) | (simp; omega))]; simp [go_sem, *]); clear hb1)
    | (go_at_call 94; refine (L _).mono ?_; rintro e w2 ⟨rfl, hb2⟩; have hB2 : Below w.heap.size w w2 := Below.trans (by repeat' (first | exact Below.refl _ _ | assumption | refine Below.alloc ?_ (by first | omega | (simp; done) | (simp; omega)) _ | refine Below.drew ?_ | refine Below.setCell ?_ (by first | omega | (simp; done) | (simp; omega)) _)) (hb2.mono (by first | omega | (simp; done) | (simp; omega))); have hz2 := hB2.size; have hl2_0 : (w.heap.size + 1) < w2.heap.size := Nat.lt_of_lt_of_le (by first | omega | (simp; done) | (simp; omega)) hb2.size; have q2_00 : w2.cell? ⟨(w.heap.size + 1), 0, none⟩ = some (.int .i64 0) := (by rw [hb2.cell (by first | omega | (simp; done) | (simp; omega))]; simp [go_sem, *]); have r2_00 : w2.frozen? ⟨(w.heap.size + 1), 0, none⟩ = false := (by rw [hb2.frozen (by first | omega | (simp; done) | (simp; omega))]; simp [go_sem, *]); have q2_01 : w2.cell? ⟨(w.heap.size + 1), 1, none⟩ = some (.int .i64 0) := (by rw [hb2.cell (by first | omega | (simp; done) | (simp; omega))]; simp [go_sem, *]); have r2_01 : w2.frozen? ⟨(w.heap.size + 1), 1, none⟩ = false := (by rw [hb2.frozen (by first | omega | (simp; done) | (simp; omega))]; simp [go_sem, *]); clear hb2))
  (refine bodyPost_ret (v := .tuple #[.agg #[.int .i64 cd, .int .i64 ct], .int .i64 0]) ?_ rfl ?_; (focus (simp [results, Try.results46, go_sem, *])); exact ⟨rfl, by repeat' (first | (with_reducible exact Below.refl _ _) | (with_reducible assumption) | (with_reducible refine Below.alloc ?_ ?_ _) | (with_reducible refine Below.drew ?_) | (with_reducible refine belowDraws ?_ _) | (with_reducible refine Below.setCell ?_ ?_ _) | omega | (simp; done) | (simp; omega))⟩)
set_option maxHeartbeats 400000 in
theorem iPowerOfTen_ok (n : Int) (w : World) (h1 : 0 ≤ n) (h2 : n ≤ 12) :
    Calls Try.prog 47 #[.int .i64 n] w fun e w' => e = .returned (.tuple #[.int .i64 (p10 n.toNat), .int .i64 0]) ∧ w = w' := by
  have T := fun W => ten_any n W h1 h2
  have hp : inB n 0 12 = true := inB_iff.2 ⟨h1, h2⟩
  generalize p10 n.toNat = u at *
  go_enter Try.func47, Try.ntmps47
  go_wp2_with (first
    | (go_at_call 63; refine (within_any _ _ _ _).mono ?_; rintro e w' ⟨rfl, rfl⟩)
    | (go_at_call 77; refine (T _).mono ?_; rintro e w' ⟨rfl, rfl⟩))
  go_ret2
  exact ⟨rfl, rfl⟩
set_option maxHeartbeats 2000000 in
theorem iPlaceOf_ok (s d t len : Int) (w : World) (hd : Dig d) (ht : -1000 ≤ t ∧ t ≤ 1000) (h1 : 1 ≤ len) (h2 : len ≤ 100000) (hc : ckPlace s len d t = 0) :
    Calls Try.prog 48 #[.int .i64 s, .agg #[.int .i64 d, .int .i64 t], .int .i64 len] w fun e w' => e = .returned (.tuple #[.agg #[.int .i64 (plL s d t len), .int .i64 (plU s d t len)], .int .i64 0]) ∧ Below w.heap.size w w' := by
  have C := fun b W c0 c1 => checkPlace_one s len d t 0 b W hc c0 c1
  have L := fun W => place_any s d t len W hd (by omega) (by omega) h1 h2
  generalize plL s d t len = x at *
  generalize plU s d t len = y at *
  clear hc hd
  have BX : True := trivial
  go_enter Try.func48, Try.ntmps48
  go_wp2_with (first
    | (go_at_call 95; refine (C _ _ (by simp [go_sem]) (by simp [go_sem])).mono ?_; rintro e w1 ⟨rfl, hb1⟩; have hB1 : Below w.heap.size w w1 := Below.trans (by repeat' (first | exact Below.refl _ _ | assumption | refine Below.alloc ?_ (by first | omega | (simp; done) | (simp; omega)) _ | refine Below.drew ?_ | refine Below.setCell ?_ (by first | omega | (simp; done) | (simp; omega)) _)) (hb1.mono (by first | omega | (simp; done) | (simp; omega))); have hz1 := hB1.size; have hl1_0 : w.heap.size < w1.heap.size := Nat.lt_of_lt_of_le (by first | omega | (simp; done) | (simp; omega)) hb1.size; have q1_00 : w1.cell? ⟨w.heap.size, 0, none⟩ = some (.int .i64 d) := (by rw [hb1.cell (by first | omega | (simp; done) | (simp; omega))]; simp [go_sem, *]); have r1_00 : w1.frozen? ⟨w.heap.size, 0, none⟩ = false := (by rw [hb1.frozen (by first | omega | (simp; done) | (simp; omega))]; simp [go_sem, *]); have q1_01 : w1.cell? ⟨w.heap.size, 1, none⟩ = some (.int .i64 t) := (by rw [hb1.cell (by first | omega | (simp; done) | (simp; omega))]; simp [go_sem, *]); have r1_01 : w1.frozen? ⟨w.heap.size, 1, none⟩ = false := (by rw [hb1.frozen (by first | omega | (simp; done) | (simp; omega))]; simp [go_sem, *]); have hl1_1 : (w.heap.size + 1) < w1.heap.size := Nat.lt_of_lt_of_le (by first | omega | (simp; done) | (simp; omega)) hb1.size; have q1_10 : w1.cell? ⟨(w.heap.size + 1), 0, none⟩ = some (.int .i64 0) := (by rw [hb1.cell (by first | omega | (simp; done) | (simp; omega))]; simp [go_sem, *]); have r1_10 : w1.frozen? ⟨(w.heap.size + 1), 0, none⟩ = false := (by rw [hb1.frozen (by first | omega | (simp; done) | (simp; omega))]; simp [go_sem, *]); have q1_11 : w1.cell? ⟨(w.heap.size + 1), 1, none⟩ = some (.int .i64 0) := (by rw [hb1.cell (by first | omega | (simp; done) | (simp; omega))]; simp [go_sem, *]); have r1_11 : w1.frozen? ⟨(w.heap.size + 1), 1, none⟩ = false := (by rw [hb1.frozen (by first | omega | (simp; done) | (simp; omega))]; simp [go_sem, *]); clear hb1)
    | (go_at_call 78; refine (L _).mono ?_; rintro e w2 ⟨rfl, hb2⟩; have hB2 : Below w.heap.size w w2 := Below.trans (by repeat' (first | exact Below.refl _ _ | assumption | refine Below.alloc ?_ (by first | omega | (simp; done) | (simp; omega)) _ | refine Below.drew ?_ | refine Below.setCell ?_ (by first | omega | (simp; done) | (simp; omega)) _)) (hb2.mono (by first | omega | (simp; done) | (simp; omega))); have hz2 := hB2.size; have hl2_0 : (w.heap.size + 1) < w2.heap.size := Nat.lt_of_lt_of_le (by first | omega | (simp; done) | (simp; omega)) hb2.size; have q2_00 : w2.cell? ⟨(w.heap.size + 1), 0, none⟩ = some (.int .i64 0) := (by rw [hb2.cell (by first | omega | (simp; done) | (simp; omega))]; simp [go_sem, *]); have r2_00 : w2.frozen? ⟨(w.heap.size + 1), 0, none⟩ = false := (by rw [hb2.frozen (by first | omega | (simp; done) | (simp; omega))]; simp [go_sem, *]); have q2_01 : w2.cell? ⟨(w.heap.size + 1), 1, none⟩ = some (.int .i64 0) := (by rw [hb2.cell (by first | omega | (simp; done) | (simp; omega))]; simp [go_sem, *]); have r2_01 : w2.frozen? ⟨(w.heap.size + 1), 1, none⟩ = false := (by rw [hb2.frozen (by first | omega | (simp; done) | (simp; omega))]; simp [go_sem, *]); clear hb2))
  (refine bodyPost_ret (v := .tuple #[.agg #[.int .i64 x, .int .i64 y], .int .i64 0]) ?_ rfl ?_; (focus (simp [results, Try.results48, go_sem, *])); exact ⟨rfl, by repeat' (first | (with_reducible exact Below.refl _ _) | (with_reducible assumption) | (with_reducible refine Below.alloc ?_ ?_ _) | (with_reducible refine Below.drew ?_) | (with_reducible refine belowDraws ?_ _) | (with_reducible refine Below.setCell ?_ ?_ _) | omega | (simp; done) | (simp; omega))⟩)
set_option maxRecDepth 100000 in
set_option maxHeartbeats 8000000 in
theorem fnNeededLengths_walk (A : Option Addr) (n c : Nat) (l : List Int) (w : World) (hl : l.length = n) (_hc : n ≤ c) (hm : c ≤ maxLen) (hs : Sees w w.heap.size A (l.map (Value.int .u8))) (h8 : U8s l) :
    Calls Try.prog 7 #[.slice A n c] w fun e w' => e = .returned (.bool true) ∧ Below w.heap.size w w' := by
  unfold maxLen at hm
  have BG := fun W => big_any A n c W (by omega)
  by_cases hbig : 4096 < n
  · rw [show decide (4096 < n) = true from decide_eq_true hbig] at BG
    go_enter Try.func7, Try.ntmps7
    go_wp2_with (go_at_call 8; refine (BG _).mono ?_; rintro e w' ⟨rfl, rfl⟩)
    go_ret
    exact ⟨rfl, Below.refl _ _⟩
  · rw [show decide (4096 < n) = false from decide_eq_false hbig] at BG
    have hn : n ≤ 1048576 := by omega
    go_enter Try.func7, Try.ntmps7
    go_wp2_with (go_at_call 8; refine (BG _).mono ?_; rintro e w' ⟨rfl, rfl⟩)
    go_wp2_with fail
    refine (DrawNeededLength_any A n c l _ hl hn h8 hs).mono ?_
    rintro e w1 ⟨s, d, t, eye, parts, rfl, hb1⟩
    have hB1 := hb1
    have hz1 := hB1.size
    have I := fun W => iNeededLength_any s d t eye parts W
    have S := fun W => sNeededLength_any s d t eye parts W
    obtain ⟨⟨m, bad⟩, H1⟩ : ∃ p, Hid (rNeed s d t eye parts = p) := ⟨_, Lib.hid rfl⟩
    rw [H1.out] at I S
    simp only at I S
    clear hl hs h8 hb1
    by_cases hb : bad = 0
    · subst hb
      obtain ⟨hf, ⟨p1, p2⟩, hct, hcd, hnd, hsc, h5, ⟨t0, t2⟩, ⟨y0, y2⟩, ⟨m1, m2⟩, hap, hap2⟩ := rNeed_ok H1.out
      have RF := fun W => iRoundFigure_ok d t parts W hf p1 p2 (by rw [hct]; exact figB_iff.2 ⟨hcd, by omega, by omega⟩)
      rw [hct] at RF
      have TN := fun W => iPowerOfTen_ok (4 - parts) W (by omega) (by omega)
      have PA := fun W => iPlaceOf_ok s (cutD d parts) t m W hcd ⟨by omega, by omega⟩ (by omega) m2 (ckPlace_fit hcd hsc h5 ⟨t0, t2⟩ ⟨by omega, m2⟩)
      have PB := fun W => iPlaceOf_ok s (nextD d parts) t m W hnd ⟨by omega, by omega⟩ (by omega) m2 (ckPlace_fit hnd hsc h5 ⟨t0, t2⟩ ⟨by omega, m2⟩)
      have PA' := fun (g : 200 ≤ m) W => iPlaceOf_ok s (cutD d parts) t (m - 100) W hcd ⟨by omega, by omega⟩ (by omega) (by omega) (ckPlace_fit hcd hsc h5 ⟨t0, t2⟩ ⟨by omega, by omega⟩)
      have PB' := fun (g : 200 ≤ m) W => iPlaceOf_ok s (nextD d parts) t (m - 100) W hnd ⟨by omega, by omega⟩ (by omega) (by omega) (ckPlace_fit hnd hsc h5 ⟨t0, t2⟩ ⟨by omega, by omega⟩)
      have l1 := pl_bd (s := s) (t := t) hcd (show 1 ≤ m by omega) m2
      have l2 := pl_bd (s := s) (t := t) hnd (show 1 ≤ m by omega) m2
      have l3 := fun (g : 200 ≤ m) => pl_bd (s := s) (t := t) hcd (show 1 ≤ m - 100 by omega) (by omega)
      have l4 := fun (g : 200 ≤ m) => pl_bd (s := s) (t := t) hnd (show 1 ≤ m - 100 by omega) (by omega)
      have HT := Lib.hid hap
      have HT' := Lib.hid hap2
      have HNX := Lib.hid (show nextD d parts = cutD d parts + p10 (4 - parts).toNat from rfl)
      have enx : IntKind.i64.wrap (cutD d parts + p10 (4 - parts).toNat) = nextD d parts := (IntWalk.i64_in _ (by have := HNX.out; unfold Dig at hnd; omega)).trans HNX.out.symm
      have en2 : cutD d parts + p10 (4 - parts).toNat = nextD d parts := HNX.out.symm
      obtain ⟨a1, ha1⟩ : ∃ x, plL s (cutD d parts) t m = x := ⟨_, rfl⟩
      obtain ⟨b1, hb1⟩ : ∃ x, plU s (cutD d parts) t m = x := ⟨_, rfl⟩
      obtain ⟨a2, ha2⟩ : ∃ x, plL s (nextD d parts) t m = x := ⟨_, rfl⟩
      obtain ⟨b2, hb2⟩ : ∃ x, plU s (nextD d parts) t m = x := ⟨_, rfl⟩
      obtain ⟨a1', ha1'⟩ : ∃ x, plL s (cutD d parts) t (m - 100) = x := ⟨_, rfl⟩
      obtain ⟨b1', hb1'⟩ : ∃ x, plU s (cutD d parts) t (m - 100) = x := ⟨_, rfl⟩
      obtain ⟨a2', ha2'⟩ : ∃ x, plL s (nextD d parts) t (m - 100) = x := ⟨_, rfl⟩
      obtain ⟨b2', hb2'⟩ : ∃ x, plU s (nextD d parts) t (m - 100) = x := ⟨_, rfl⟩
      rw [ha1, hb1] at PA l1
      rw [ha2, hb2] at PB l2
      rw [ha1', hb1'] at PA' l3
      rw [ha2', hb2'] at PB' l4
      have QA := Lib.hid (And.intro hb2 (And.intro ha1 (And.intro hb1 ha2)))
      have QB := Lib.hid (And.intro hb2' (And.intro ha1' (And.intro hb1' ha2')))
      clear ha1 hb1 ha2 hb2 ha1' hb1' ha2' hb2' hap hap2 HNX hf hct H1
      unfold Dig at hcd hnd
      generalize p10 (4 - parts).toNat = un at *
      generalize cutD d parts = cd at *
      generalize nextD d parts = nd at *
      have en3 : -1000000 ≤ cd + un ∧ cd + un ≤ 1000000 := by omega
      go_upto_region 12 with (first
        | (go_at_call 20; (with_reducible refine (I _).mono ?_); rintro e w2 ⟨rfl, hb2⟩; have hB2 : Below w.heap.size w w2 := Below.trans (by repeat' (first | exact Below.refl _ _ | assumption | refine Below.alloc ?_ (by first | omega | (simp; done) | (simp; omega)) _ | refine Below.drew ?_ | refine Below.setCell ?_ (by first | omega | (simp; done) | (simp; omega)) _)) (hb2.mono (by first | omega | (simp; done) | (simp; omega))); have hz2 := hB2.size; have hl2_0 : w1.heap.size < w2.heap.size := Nat.lt_of_lt_of_le (by first | omega | (simp; done) | (simp; omega)) hb2.size; have q2_00 : w2.cell? ⟨w1.heap.size, 0, none⟩ = some (.int .i64 d) := (by rw [hb2.cell (by first | omega | (simp; done) | (simp; omega))]; simp [go_sem, *]); have r2_00 : w2.frozen? ⟨w1.heap.size, 0, none⟩ = false := (by rw [hb2.frozen (by first | omega | (simp; done) | (simp; omega))]; simp [go_sem, *]); have q2_01 : w2.cell? ⟨w1.heap.size, 1, none⟩ = some (.int .i64 t) := (by rw [hb2.cell (by first | omega | (simp; done) | (simp; omega))]; simp [go_sem, *]); have r2_01 : w2.frozen? ⟨w1.heap.size, 1, none⟩ = false := (by rw [hb2.frozen (by first | omega | (simp; done) | (simp; omega))]; simp [go_sem, *]); clear hb2)
        | (go_at_call 18; (with_reducible refine (S _).mono ?_); rintro e w3 ⟨rfl, hb3⟩; have hB3 : Below w.heap.size w w3 := Below.trans (by repeat' (first | exact Below.refl _ _ | assumption | refine Below.alloc ?_ (by first | omega | (simp; done) | (simp; omega)) _ | refine Below.drew ?_ | refine Below.setCell ?_ (by first | omega | (simp; done) | (simp; omega)) _)) (hb3.mono (by first | omega | (simp; done) | (simp; omega))); have hz3 := hB3.size; have hl3_0 : w1.heap.size < w3.heap.size := Nat.lt_of_lt_of_le (by first | omega | (simp; done) | (simp; omega)) hb3.size; have q3_00 : w3.cell? ⟨w1.heap.size, 0, none⟩ = some (.int .i64 d) := (by rw [hb3.cell (by first | omega | (simp; done) | (simp; omega))]; simp [go_sem, *]); have r3_00 : w3.frozen? ⟨w1.heap.size, 0, none⟩ = false := (by rw [hb3.frozen (by first | omega | (simp; done) | (simp; omega))]; simp [go_sem, *]); have q3_01 : w3.cell? ⟨w1.heap.size, 1, none⟩ = some (.int .i64 t) := (by rw [hb3.cell (by first | omega | (simp; done) | (simp; omega))]; simp [go_sem, *]); have r3_01 : w3.frozen? ⟨w1.heap.size, 1, none⟩ = false := (by rw [hb3.frozen (by first | omega | (simp; done) | (simp; omega))]; simp [go_sem, *]); clear hb3)
        | (go_at_call 46; (with_reducible refine (RF _).mono ?_); rintro e w4 ⟨rfl, hb4⟩; have hB4 : Below w.heap.size w w4 := Below.trans (by repeat' (first | exact Below.refl _ _ | assumption | refine Below.alloc ?_ (by first | omega | (simp; done) | (simp; omega)) _ | refine Below.drew ?_ | refine Below.setCell ?_ (by first | omega | (simp; done) | (simp; omega)) _)) (hb4.mono (by first | omega | (simp; done) | (simp; omega))); have hz4 := hB4.size; have hl4_0 : w1.heap.size < w4.heap.size := Nat.lt_of_lt_of_le (by first | omega | (simp; done) | (simp; omega)) hb4.size; have q4_00 : w4.cell? ⟨w1.heap.size, 0, none⟩ = some (.int .i64 d) := (by rw [hb4.cell (by first | omega | (simp; done) | (simp; omega))]; simp [go_sem, *]); have r4_00 : w4.frozen? ⟨w1.heap.size, 0, none⟩ = false := (by rw [hb4.frozen (by first | omega | (simp; done) | (simp; omega))]; simp [go_sem, *]); have q4_01 : w4.cell? ⟨w1.heap.size, 1, none⟩ = some (.int .i64 t) := (by rw [hb4.cell (by first | omega | (simp; done) | (simp; omega))]; simp [go_sem, *]); have r4_01 : w4.frozen? ⟨w1.heap.size, 1, none⟩ = false := (by rw [hb4.frozen (by first | omega | (simp; done) | (simp; omega))]; simp [go_sem, *]); clear hb4)
        | (go_at_call 47; refine (TN _).mono ?_; rintro e w' ⟨rfl, rfl⟩))
      go_cut [15] (fun s15 wx => ∃ g : Nat, s15 = .pointer (some ⟨g, 0, none⟩) ∧ wx.cell? ⟨w4.heap.size, 0, none⟩ = some (.int .i64 cd) ∧ wx.cell? ⟨w4.heap.size, 1, none⟩ = some (.int .i64 t) ∧ wx.cell? ⟨g, 0, none⟩ = some (.int .i64 nd) ∧ wx.cell? ⟨g, 1, none⟩ = some (.int .i64 t) ∧ w4.heap.size < wx.heap.size ∧ g < wx.heap.size ∧ Below w.heap.size w wx)
      case first =>
        go_wp2_with fail
        go_meet
        refine ⟨_, rfl, ?_, ?_, ?_, ?_, ?_, ?_, by repeat' (first | (with_reducible exact Below.refl _ _) | (with_reducible assumption) | (with_reducible refine Below.alloc ?_ ?_ _) | (with_reducible refine Below.drew ?_) | (with_reducible refine belowDraws ?_ _) | (with_reducible refine Below.setCell ?_ ?_ _) | omega | (simp; done) | (simp; omega))⟩
        all_goals (first | omega | (simp [go_sem, *]; done) | (simp; omega))
      case rest =>
      obtain ⟨gb, rfl, b0, b1, b2_, b3, hg4, hgb, BB⟩ := hcut
      obtain ⟨wB, rfl⟩ : ∃ wB : World, wB = wc := ⟨_, rfl⟩
      have lwB := BB.size
      have KP := Lib.hid (show ∀ W : World, Below wB.heap.size wB W → W.cell? ⟨w4.heap.size, 0, none⟩ = some (.int .i64 cd) ∧ W.cell? ⟨w4.heap.size, 1, none⟩ = some (.int .i64 t) ∧ W.cell? ⟨gb, 0, none⟩ = some (.int .i64 nd) ∧ W.cell? ⟨gb, 1, none⟩ = some (.int .i64 t) from fun W hW => ⟨(hW.cell (by first | omega | (simp; done) | (simp; omega))).trans b0, (hW.cell (by first | omega | (simp; done) | (simp; omega))).trans b1, (hW.cell (by first | omega | (simp; done) | (simp; omega))).trans b2_, (hW.cell (by first | omega | (simp; done) | (simp; omega))).trans b3⟩)
      clear b0 b1 b2_ b3 en2 enx
      have tm : (m == 0) = false := by simp; omega
      go_wp2_with fail
      go_loopw [16] (fun v wr => ∃ k : Int, v = .int .i64 k ∧ 0 ≤ k ∧ k ≤ 2 ∧ Below wB.heap.size wB wr) (fun v _ => (2 - intOf v).toNat)
      case atStart => exact ⟨0, rfl, by omega, by omega, Below.refl _ _⟩
      case round =>
        obtain ⟨k, rfl, k0, k2, hW⟩ := hrel
        obtain ⟨q0, q1, q2, q3⟩ := KP.out wr hW
        have lwr := hW.size
        rcases (show k = 0 ∨ k = 1 ∨ k = 2 by omega) with rfl | rfl | rfl
        · clear k0 k2
          by_cases e1 : b2 + eye ≤ a1
          · have f1 : decide (b2 + eye ≤ a1) = true := decide_eq_true e1
            go_wp2_with (first
              | (go_at_call 48; (with_reducible refine (PA _).mono ?_); rintro e w5 ⟨rfl, hb5⟩; have hB5 : Below wB.heap.size wB w5 := Below.trans (by repeat' (first | exact Below.refl _ _ | assumption | refine Below.alloc ?_ (by first | omega | (simp; done) | (simp; omega)) _ | refine Below.drew ?_ | refine Below.setCell ?_ (by first | omega | (simp; done) | (simp; omega)) _)) (hb5.mono (by first | omega | (simp; done) | (simp; omega))); have hz5 := hB5.size; obtain ⟨q5_0, q5_1, q5_2, q5_3⟩ := KP.out w5 hB5; have hgb5 : gb < w5.heap.size := Nat.lt_of_lt_of_le hgb hB5.size; have hg45 : w4.heap.size < w5.heap.size := Nat.lt_of_lt_of_le hg4 hB5.size; clear hb5)
              | (go_at_call 48; (with_reducible refine (PB _).mono ?_); rintro e w6 ⟨rfl, hb6⟩; have hB6 : Below wB.heap.size wB w6 := Below.trans (by repeat' (first | exact Below.refl _ _ | assumption | refine Below.alloc ?_ (by first | omega | (simp; done) | (simp; omega)) _ | refine Below.drew ?_ | refine Below.setCell ?_ (by first | omega | (simp; done) | (simp; omega)) _)) (hb6.mono (by first | omega | (simp; done) | (simp; omega))); have hz6 := hB6.size; obtain ⟨q6_0, q6_1, q6_2, q6_3⟩ := KP.out w6 hB6; (try (refine (fun (hm6_0 : w5.heap.size < w6.heap.size) => ?_) ?_; rotate_left; refine Nat.lt_of_lt_of_le ?_ hb6.size; (focus (first | omega | (simp; done) | (simp; omega))); refine (fun (mq6_00 : w6.cell? ⟨w5.heap.size, 0, none⟩ = some (.int .i64 a1)) => ?_) ?_; rotate_left; refine (hb6.cell ?_).trans ?_; (focus (first | omega | (simp; done) | (simp; omega))); (focus (simp [go_sem, *]; done)); refine (fun (mr6_00 : w6.frozen? ⟨w5.heap.size, 0, none⟩ = false) => ?_) ?_; rotate_left; refine (hb6.frozen ?_).trans ?_; (focus (first | omega | (simp; done) | (simp; omega))); (focus (simp [go_sem, *]; done)); refine (fun (mq6_01 : w6.cell? ⟨w5.heap.size, 1, none⟩ = some (.int .i64 b1)) => ?_) ?_; rotate_left; refine (hb6.cell ?_).trans ?_; (focus (first | omega | (simp; done) | (simp; omega))); (focus (simp [go_sem, *]; done)); refine (fun (mr6_01 : w6.frozen? ⟨w5.heap.size, 1, none⟩ = false) => ?_) ?_; rotate_left; refine (hb6.frozen ?_).trans ?_; (focus (first | omega | (simp; done) | (simp; omega))); (focus (simp [go_sem, *]; done)))); clear hb6))
            go_roundw
            case rel => exact ⟨1, by simp, by omega, by omega, by repeat' (first | (with_reducible exact Below.refl _ _) | (with_reducible assumption) | (with_reducible refine Below.alloc ?_ ?_ _) | (with_reducible refine Below.drew ?_) | (with_reducible refine belowDraws ?_ _) | (with_reducible refine Below.setCell ?_ ?_ _) | omega | (simp; done) | (simp; omega))⟩
            case measure => simp [intOf]
          · have f1 : decide (b2 + eye ≤ a1) = false := decide_eq_false e1
            have f2 : decide (b1 + eye ≤ a2) = true := by have := HT.out; unfold apartB at this; rw [QA.out.1, QA.out.2.1, QA.out.2.2.1, QA.out.2.2.2, f1] at this; simpa using this
            go_wp2_with (first
              | (go_at_call 48; (with_reducible refine (PA _).mono ?_); rintro e w5 ⟨rfl, hb5⟩; have hB5 : Below wB.heap.size wB w5 := Below.trans (by repeat' (first | exact Below.refl _ _ | assumption | refine Below.alloc ?_ (by first | omega | (simp; done) | (simp; omega)) _ | refine Below.drew ?_ | refine Below.setCell ?_ (by first | omega | (simp; done) | (simp; omega)) _)) (hb5.mono (by first | omega | (simp; done) | (simp; omega))); have hz5 := hB5.size; obtain ⟨q5_0, q5_1, q5_2, q5_3⟩ := KP.out w5 hB5; have hgb5 : gb < w5.heap.size := Nat.lt_of_lt_of_le hgb hB5.size; have hg45 : w4.heap.size < w5.heap.size := Nat.lt_of_lt_of_le hg4 hB5.size; clear hb5)
              | (go_at_call 48; (with_reducible refine (PB _).mono ?_); rintro e w6 ⟨rfl, hb6⟩; have hB6 : Below wB.heap.size wB w6 := Below.trans (by repeat' (first | exact Below.refl _ _ | assumption | refine Below.alloc ?_ (by first | omega | (simp; done) | (simp; omega)) _ | refine Below.drew ?_ | refine Below.setCell ?_ (by first | omega | (simp; done) | (simp; omega)) _)) (hb6.mono (by first | omega | (simp; done) | (simp; omega))); have hz6 := hB6.size; obtain ⟨q6_0, q6_1, q6_2, q6_3⟩ := KP.out w6 hB6; (try (refine (fun (hm6_0 : w5.heap.size < w6.heap.size) => ?_) ?_; rotate_left; refine Nat.lt_of_lt_of_le ?_ hb6.size; (focus (first | omega | (simp; done) | (simp; omega))); refine (fun (mq6_00 : w6.cell? ⟨w5.heap.size, 0, none⟩ = some (.int .i64 a1)) => ?_) ?_; rotate_left; refine (hb6.cell ?_).trans ?_; (focus (first | omega | (simp; done) | (simp; omega))); (focus (simp [go_sem, *]; done)); refine (fun (mr6_00 : w6.frozen? ⟨w5.heap.size, 0, none⟩ = false) => ?_) ?_; rotate_left; refine (hb6.frozen ?_).trans ?_; (focus (first | omega | (simp; done) | (simp; omega))); (focus (simp [go_sem, *]; done)); refine (fun (mq6_01 : w6.cell? ⟨w5.heap.size, 1, none⟩ = some (.int .i64 b1)) => ?_) ?_; rotate_left; refine (hb6.cell ?_).trans ?_; (focus (first | omega | (simp; done) | (simp; omega))); (focus (simp [go_sem, *]; done)); refine (fun (mr6_01 : w6.frozen? ⟨w5.heap.size, 1, none⟩ = false) => ?_) ?_; rotate_left; refine (hb6.frozen ?_).trans ?_; (focus (first | omega | (simp; done) | (simp; omega))); (focus (simp [go_sem, *]; done)))); clear hb6))
            go_roundw
            case rel => exact ⟨1, by simp, by omega, by omega, by repeat' (first | (with_reducible exact Below.refl _ _) | (with_reducible assumption) | (with_reducible refine Below.alloc ?_ ?_ _) | (with_reducible refine Below.drew ?_) | (with_reducible refine belowDraws ?_ _) | (with_reducible refine Below.setCell ?_ ?_ _) | omega | (simp; done) | (simp; omega))⟩
            case measure => simp [intOf]
        · clear k0 k2
          by_cases hm1 : m = 100
          · have tm2 : (m - 100 == 0) = true := by simp; omega
            go_wp2_with fail
            go_ret
            exact ⟨rfl, BB.trans (hW.mono BB.size)⟩
          · obtain ⟨hm2, ht2⟩ := HT'.out hm1
            have HT2 := Lib.hid ht2
            have tm2 : (m - 100 == 0) = false := by simp; omega
            have PC := PA' hm2
            have PD := PB' hm2
            have l5 := l3 hm2
            have l6 := l4 hm2
            clear ht2 PA' PB' l3 l4 HT'
            have f1 : decide (b2' + eye ≤ a1') = false := by have := HT2.out; unfold apartB at this; rw [QB.out.1, QB.out.2.1, QB.out.2.2.1, QB.out.2.2.2] at this; simp only [Bool.or_eq_false_iff] at this; exact this.1
            have f2 : decide (b1' + eye ≤ a2') = false := by have := HT2.out; unfold apartB at this; rw [QB.out.1, QB.out.2.1, QB.out.2.2.1, QB.out.2.2.2] at this; simp only [Bool.or_eq_false_iff] at this; exact this.2
            go_wp2_with (first
              | (go_at_call 48; (with_reducible refine (PC _).mono ?_); rintro e w5 ⟨rfl, hb5⟩; have hB5 : Below wB.heap.size wB w5 := Below.trans (by repeat' (first | exact Below.refl _ _ | assumption | refine Below.alloc ?_ (by first | omega | (simp; done) | (simp; omega)) _ | refine Below.drew ?_ | refine Below.setCell ?_ (by first | omega | (simp; done) | (simp; omega)) _)) (hb5.mono (by first | omega | (simp; done) | (simp; omega))); have hz5 := hB5.size; obtain ⟨q5_0, q5_1, q5_2, q5_3⟩ := KP.out w5 hB5; have hgb5 : gb < w5.heap.size := Nat.lt_of_lt_of_le hgb hB5.size; have hg45 : w4.heap.size < w5.heap.size := Nat.lt_of_lt_of_le hg4 hB5.size; clear hb5)
              | (go_at_call 48; (with_reducible refine (PD _).mono ?_); rintro e w6 ⟨rfl, hb6⟩; have hB6 : Below wB.heap.size wB w6 := Below.trans (by repeat' (first | exact Below.refl _ _ | assumption | refine Below.alloc ?_ (by first | omega | (simp; done) | (simp; omega)) _ | refine Below.drew ?_ | refine Below.setCell ?_ (by first | omega | (simp; done) | (simp; omega)) _)) (hb6.mono (by first | omega | (simp; done) | (simp; omega))); have hz6 := hB6.size; obtain ⟨q6_0, q6_1, q6_2, q6_3⟩ := KP.out w6 hB6; (try (refine (fun (hm6_0 : w5.heap.size < w6.heap.size) => ?_) ?_; rotate_left; refine Nat.lt_of_lt_of_le ?_ hb6.size; (focus (first | omega | (simp; done) | (simp; omega))); refine (fun (mq6_00 : w6.cell? ⟨w5.heap.size, 0, none⟩ = some (.int .i64 a1')) => ?_) ?_; rotate_left; refine (hb6.cell ?_).trans ?_; (focus (first | omega | (simp; done) | (simp; omega))); (focus (simp [go_sem, *]; done)); refine (fun (mr6_00 : w6.frozen? ⟨w5.heap.size, 0, none⟩ = false) => ?_) ?_; rotate_left; refine (hb6.frozen ?_).trans ?_; (focus (first | omega | (simp; done) | (simp; omega))); (focus (simp [go_sem, *]; done)); refine (fun (mq6_01 : w6.cell? ⟨w5.heap.size, 1, none⟩ = some (.int .i64 b1')) => ?_) ?_; rotate_left; refine (hb6.cell ?_).trans ?_; (focus (first | omega | (simp; done) | (simp; omega))); (focus (simp [go_sem, *]; done)); refine (fun (mr6_01 : w6.frozen? ⟨w5.heap.size, 1, none⟩ = false) => ?_) ?_; rotate_left; refine (hb6.frozen ?_).trans ?_; (focus (first | omega | (simp; done) | (simp; omega))); (focus (simp [go_sem, *]; done)))); clear hb6))
            go_roundw
            case rel => exact ⟨2, by simp, by omega, by omega, by repeat' (first | (with_reducible exact Below.refl _ _) | (with_reducible assumption) | (with_reducible refine Below.alloc ?_ ?_ _) | (with_reducible refine Below.drew ?_) | (with_reducible refine belowDraws ?_ _) | (with_reducible refine Below.setCell ?_ ?_ _) | omega | (simp; done) | (simp; omega))⟩
            case measure => simp [intOf]
        · clear k0 k2
          go_wp2_with fail
          go_ret
          exact ⟨rfl, BB.trans (hW.mono BB.size)⟩
    · have tb : (bad != 0) = true := by simpa using hb
      clear hb H1
      go_wp2_with (first
        | (go_at_call 20; (with_reducible refine (I _).mono ?_); rintro e w2 ⟨rfl, hb2⟩; have hB2 : Below w.heap.size w w2 := Below.trans (by repeat' (first | exact Below.refl _ _ | assumption | refine Below.alloc ?_ (by first | omega | (simp; done) | (simp; omega)) _ | refine Below.drew ?_ | refine Below.setCell ?_ (by first | omega | (simp; done) | (simp; omega)) _)) (hb2.mono (by first | omega | (simp; done) | (simp; omega))); have hz2 := hB2.size; have hl2_0 : w1.heap.size < w2.heap.size := Nat.lt_of_lt_of_le (by first | omega | (simp; done) | (simp; omega)) hb2.size; have q2_00 : w2.cell? ⟨w1.heap.size, 0, none⟩ = some (.int .i64 d) := (by rw [hb2.cell (by first | omega | (simp; done) | (simp; omega))]; simp [go_sem, *]); have r2_00 : w2.frozen? ⟨w1.heap.size, 0, none⟩ = false := (by rw [hb2.frozen (by first | omega | (simp; done) | (simp; omega))]; simp [go_sem, *]); have q2_01 : w2.cell? ⟨w1.heap.size, 1, none⟩ = some (.int .i64 t) := (by rw [hb2.cell (by first | omega | (simp; done) | (simp; omega))]; simp [go_sem, *]); have r2_01 : w2.frozen? ⟨w1.heap.size, 1, none⟩ = false := (by rw [hb2.frozen (by first | omega | (simp; done) | (simp; omega))]; simp [go_sem, *]); clear hb2)
        | (go_at_call 18; (with_reducible refine (S _).mono ?_); rintro e w3 ⟨rfl, hb3⟩; have hB3 : Below w.heap.size w w3 := Below.trans (by repeat' (first | exact Below.refl _ _ | assumption | refine Below.alloc ?_ (by first | omega | (simp; done) | (simp; omega)) _ | refine Below.drew ?_ | refine Below.setCell ?_ (by first | omega | (simp; done) | (simp; omega)) _)) (hb3.mono (by first | omega | (simp; done) | (simp; omega))); have hz3 := hB3.size; have hl3_0 : w1.heap.size < w3.heap.size := Nat.lt_of_lt_of_le (by first | omega | (simp; done) | (simp; omega)) hb3.size; have q3_00 : w3.cell? ⟨w1.heap.size, 0, none⟩ = some (.int .i64 d) := (by rw [hb3.cell (by first | omega | (simp; done) | (simp; omega))]; simp [go_sem, *]); have r3_00 : w3.frozen? ⟨w1.heap.size, 0, none⟩ = false := (by rw [hb3.frozen (by first | omega | (simp; done) | (simp; omega))]; simp [go_sem, *]); have q3_01 : w3.cell? ⟨w1.heap.size, 1, none⟩ = some (.int .i64 t) := (by rw [hb3.cell (by first | omega | (simp; done) | (simp; omega))]; simp [go_sem, *]); have r3_01 : w3.frozen? ⟨w1.heap.size, 1, none⟩ = false := (by rw [hb3.frozen (by first | omega | (simp; done) | (simp; omega))]; simp [go_sem, *]); clear hb3))
      go_ret
      exact ⟨rfl, by repeat' (first | (with_reducible exact Below.refl _ _) | (with_reducible assumption) | (with_reducible refine Below.alloc ?_ ?_ _) | (with_reducible refine Below.drew ?_) | (with_reducible refine belowDraws ?_ _) | (with_reducible refine Below.setCell ?_ ?_ _) | omega | (simp; done) | (simp; omega))⟩
end Go.Proofs.Ytdbhlichldcnfaa
