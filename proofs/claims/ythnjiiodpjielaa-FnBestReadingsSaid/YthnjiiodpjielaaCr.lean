/- Counting readings, decades and places that fit (layers 5, 6). No condition. -/
import Derived.Test.YthnjiiodpjielaaRd2
namespace Go.Proofs.Ythnjiiodpjielaa
open Go.RowKit
set_option linter.unusedVariables false
set_option linter.unusedSimpArgs false

def rCountR (s len pt eye : Int) : Int × Int := if ptB s len pt eye = true then (((reads s len pt eye).length : Int), 0) else (0, 2)
theorem reads_le (s len pt eye : Int) : (reads s len pt eye).length ≤ 2700 := by
  have := readsN_length s len pt eye (nFigs s)
  have := nFigs_bd s
  unfold reads
  omega
theorem reads_sorted (s len pt eye : Int) : (reads s len pt eye).Pairwise (· < ·) := List.Pairwise.filter _ List.pairwise_lt_range
theorem rd_out {s len pt eye : Int} (h : ptB s len pt eye = false) : rFirst s len pt eye = ((0, 0), 2) ∧ rLast s len pt eye = ((0, 0), 2) ∧ rCountR s len pt eye = (0, 2) := by
  simp [rFirst, rLast, rCountR, h]
theorem rd_nil {s len pt eye : Int} (h : ptB s len pt eye = true) (hr : reads s len pt eye = []) : rFirst s len pt eye = ((0, 0), 4) ∧ rLast s len pt eye = ((0, 0), 4) ∧ rCountR s len pt eye = (0, 0) := by
  simp [rFirst, rLast, rCountR, h, hr]
theorem fig_ord {a b : Nat} (h : a ≤ b) : 10000 * (figAt a).2 + (figAt a).1 ≤ 10000 * (figAt b).2 + (figAt b).1 := by
  simp only [figAt]
  omega
theorem figB_num {n : Nat} (h : n < 2700) : figB (figAt n).1 (figAt n).2 = true := by
  have b := figAt_bd n
  have := figAt_tens (n := n) (by omega)
  exact figB_iff.2 ⟨b.1, by omega, by omega⟩
theorem rd_some {s len pt eye : Int} (h : ptB s len pt eye = true) (hr : reads s len pt eye ≠ []) :
    ∃ (a b : Nat) (k : Nat), rFirst s len pt eye = (figAt a, 0) ∧ rLast s len pt eye = (figAt b, 0) ∧ rCountR s len pt eye = ((k : Int), 0) ∧ a ≤ b ∧ b < nFigs s ∧ 0 < k ∧ k ≤ 2700 := by
  have hs := reads_sorted s len pt eye
  have hlt : ∀ n ∈ reads s len pt eye, n < nFigs s := fun n hn => readsN_lt hn
  have hle := reads_le s len pt eye
  rw [rFirst, rLast, rCountR, if_pos h, if_pos h, if_pos h]
  generalize reads s len pt eye = L at *
  match L, hr with
  | a :: r, _ =>
    refine ⟨a, (a :: r).getLast (by simp), (a :: r).length, rfl, ?_, rfl, ?_, hlt _ (List.getLast_mem _), by simp, hle⟩
    · rw [List.getLast?_eq_some_getLast (by simp)]
    · rw [List.pairwise_cons] at hs
      rcases List.mem_cons.1 (List.getLast_mem (l := a :: r) (by simp)) with e | e
      · omega
      · have := hs.1 _ e
        omega
theorem fig_num {s v t : Int} (v0 : 0 ≤ v) (v1 : v < 900) (t0 : 0 ≤ t) (t1 : t < decades s) : ∃ n, n < nFigs s ∧ figAt n = (1000 + 10 * v, t) := by
  obtain ⟨v', rfl⟩ := Int.eq_ofNat_of_zero_le v0
  obtain ⟨t', rfl⟩ := Int.eq_ofNat_of_zero_le t0
  have := decades_bd s
  exact ⟨900 * t' + v', by unfold nFigs; omega, figAt_of (by omega)⟩
theorem own_reads {s len pt eye v t : Int} (v0 : 0 ≤ v) (v1 : v < 900) (t0 : 0 ≤ t) (t1 : t < decades s) (hm : mayB s (1000 + 10 * v) t len pt eye = true) : 0 < (reads s len pt eye).length := by
  obtain ⟨n, hn, e⟩ := fig_num v0 v1 t0 t1
  have : n ∈ reads s len pt eye := by
    rw [reads, readsN, List.mem_filter]
    exact ⟨List.mem_range.2 hn, by rw [mayN, e]; exact hm⟩
  exact List.length_pos_of_mem this
theorem may_own {s len eye d t : Int} (hd : Dig d) (h1 : 1 ≤ len) (h2 : len ≤ 100000) (he : 0 ≤ eye) : mayB s d t len (plL s d t len) eye = true := by
  have := pl_bd (s := s) (t := t) hd h1 h2
  simp only [mayB, Bool.and_eq_true, decide_eq_true_eq]
  omega
theorem ckPlace_fits {s len d t : Int} (hd : Dig d) (hs : 0 ≤ s ∧ s ≤ 5) (t0 : 0 ≤ t) (t1 : t < decades s) (hl : 1 ≤ len ∧ len ≤ 100000) : ckShown s d t = 0 ∧ ckPlace s len d t = 0 := by
  have dd := decades_bd s
  have h5 : ¬ (s = 5 ∧ t ≠ 0) := by
    rintro ⟨h, h'⟩
    subst h
    rw [show decades 5 = 1 from rfl] at t1
    omega
  have : ckShown s d t = 0 := by
    rw [ckShown, if_pos (figB_iff.2 ⟨hd, by omega, by omega⟩), if_pos (inB_iff.2 hs), if_neg h5]
  exact ⟨this, by rw [ckPlace, if_pos this, if_pos (inB_iff.2 hl)]⟩
set_option maxHeartbeats 1000000 in
theorem iCountReadings_any (s len pt eye : Int) (w : World) :
    Calls Try.prog 25 #[.int .i64 s, .int .i64 len, .int .i64 pt, .int .i64 eye] w fun e w' => e = .returned (.tuple #[.int .i64 (rCountR s len pt eye).1, .int .i64 (rCountR s len pt eye).2]) ∧ Below w.heap.size w w' := by
  by_cases h : ptB s len pt eye = true
  · obtain ⟨⟨s1, s2⟩, ⟨h1, h2⟩, _, h5, h6⟩ := ptB_iff.1 h
    have RA := fun W => readingsAt_any s len pt eye W s1 s2 h1 h2 h5 h6
    have HV := Lib.hid (show rCountR s len pt eye = ((((reads s len pt eye).map figAt).length : Int), 0) by simp [rCountR, h])
    have hL : ((reads s len pt eye).map figAt).length ≤ 2700 := by rw [List.length_map]; exact reads_le _ _ _ _
    generalize (reads s len pt eye).map figAt = L at *
    have hw : IntKind.i64.wrap (L.length : Int) = (L.length : Int) := IntWalk.i64_in _ (by omega)
    go_enter Try.func25, Try.ntmps25
    go_wp2_with (first
      | (go_at_call 86; refine (isPoint_any _ _ _ _ _).mono ?_; rintro e w' ⟨rfl, rfl⟩)
      | (go_at_call 87; refine (RA _).mono ?_; rintro e w1 ⟨v, rfl, hown, hb1⟩; obtain ⟨A, c, rfl⟩ := ownShape hown))
    go_ret2
    exact ⟨endTwo HV.out, hb1⟩
  · have HV := Lib.hid (rd_out (by simpa using h)).2.2
    have h : ptB s len pt eye = false := by simpa using h
    go_enter Try.func25, Try.ntmps25
    go_wp2_with (go_at_call 86; refine (isPoint_any _ _ _ _ _).mono ?_; rintro e w' ⟨rfl, rfl⟩)
    go_ret2
    exact ⟨endTwo HV.out, Below.refl _ _⟩
set_option maxHeartbeats 1000000 in
theorem sCountReadings_any (s len pt eye : Int) (w : World) :
    Calls Try.prog 26 #[.int .i64 s, .int .i64 len, .int .i64 pt, .int .i64 eye] w fun e w' => e = .returned (.tuple #[.int .i64 (rCountR s len pt eye).1, .int .i64 (rCountR s len pt eye).2]) ∧ Below w.heap.size w w' := by
  have C := fun W => l06Code_any s len pt eye W
  by_cases h : ptB s len pt eye = true
  · obtain ⟨⟨s1, s2⟩, ⟨h1, h2⟩, _, h5, h6⟩ := ptB_iff.1 h
    have B := fun W => l06Bounds_any s len pt eye W s1 s2 h1 h2 h5 h6
    rw [if_pos h] at C
    have HV := Lib.hid (show rCountR s len pt eye = (((reads s len pt eye).length : Int), 0) by simp [rCountR, h])
    generalize reads s len pt eye = L at *
    generalize hd1 L = o1 at *
    generalize lst1 L = o2 at *
    go_enter Try.func26, Try.ntmps26
    go_wp2_with (first
      | (go_at_call 83; refine (C _).mono ?_; rintro e w' ⟨rfl, rfl⟩)
      | (go_at_call 84; refine (B _).mono ?_; rintro e w1 ⟨rfl, hb1⟩))
    go_ret2
    exact ⟨endTwo HV.out, hb1⟩
  · rw [if_neg h] at C
    have HV := Lib.hid (rd_out (by simpa using h)).2.2
    clear h
    go_enter Try.func26, Try.ntmps26
    go_wp2_with (go_at_call 83; refine (C _).mono ?_; rintro e w' ⟨rfl, rfl⟩)
    go_ret2
    exact ⟨endTwo HV.out, Below.refl _ _⟩
set_option maxHeartbeats 1000000 in
theorem iDecadesOf_ok (s : Int) (w : World) (h1 : 0 ≤ s) (h2 : s ≤ 5) :
    Calls Try.prog 27 #[.int .i64 s] w fun e w' => e = .returned (.tuple #[.int .i64 (decades s), .int .i64 0]) ∧ Below w.heap.size w w' := by
  have IS := fun W => iIsScale_any s W
  rw [inB_iff.2 ⟨h1, h2⟩] at IS
  have D := fun W => decadesOf_any s W h1 h2
  generalize decades s = d at *
  go_enter Try.func27, Try.ntmps27
  go_wp2_with (first
    | (go_at_call 64; refine (IS _).mono ?_; rintro e w' ⟨rfl, rfl⟩)
    | (go_at_call 88; refine (D _).mono ?_; rintro e w' ⟨rfl, rfl⟩))
  go_ret2
  exact ⟨rfl, by repeat' (first | (with_reducible exact Below.refl _ _) | (with_reducible assumption) | (with_reducible refine Below.alloc ?_ ?_ _) | (with_reducible refine Below.drew ?_) | (with_reducible refine belowDraws ?_ _) | (with_reducible refine Below.setCell ?_ ?_ _) | omega | (simp; done) | (simp; omega))⟩
set_option maxHeartbeats 2000000 in
theorem iPlaceOf_fit (s d t len : Int) (w : World) (hd : Dig d) (ht : -1000 ≤ t ∧ t ≤ 1000) (h1 : 1 ≤ len) (h2 : len ≤ 100000) (hc : ckPlace s len d t = 0) :
    Calls Try.prog 30 #[.int .i64 s, .agg #[.int .i64 d, .int .i64 t], .int .i64 len] w fun e w' => e = .returned (.tuple #[.agg #[.int .i64 (plL s d t len), .int .i64 (plU s d t len)], .int .i64 0]) ∧ Below w.heap.size w w' := by
  have C := fun b W c0 c1 => checkPlace_one s len d t 0 b W hc c0 c1
  have L := fun W => place_any s d t len W hd (by omega) (by omega) h1 h2
  generalize plL s d t len = x at *
  generalize plU s d t len = y at *
  clear hc hd
  have BX : True := trivial
  go_enter Try.func30, Try.ntmps30
  go_wp2_with (first
    | (go_at_call 89; refine (C _ _ (by simp [go_sem]) (by simp [go_sem])).mono ?_; rintro e w1 ⟨rfl, hb1⟩; have hB1 : Below w.heap.size w w1 := Below.trans (by repeat' (first | exact Below.refl _ _ | assumption | refine Below.alloc ?_ (by first | omega | (simp; done) | (simp; omega)) _ | refine Below.drew ?_ | refine Below.setCell ?_ (by first | omega | (simp; done) | (simp; omega)) _)) (hb1.mono (by first | omega | (simp; done) | (simp; omega))); have hz1 := hB1.size; have hl1_0 : w.heap.size < w1.heap.size := Nat.lt_of_lt_of_le (by first | omega | (simp; done) | (simp; omega)) hb1.size; have q1_00 : w1.cell? ⟨w.heap.size, 0, none⟩ = some (.int .i64 d) := (by rw [hb1.cell (by first | omega | (simp; done) | (simp; omega))]; simp [go_sem, *]); have r1_00 : w1.frozen? ⟨w.heap.size, 0, none⟩ = false := (by rw [hb1.frozen (by first | omega | (simp; done) | (simp; omega))]; simp [go_sem, *]); have q1_01 : w1.cell? ⟨w.heap.size, 1, none⟩ = some (.int .i64 t) := (by rw [hb1.cell (by first | omega | (simp; done) | (simp; omega))]; simp [go_sem, *]); have r1_01 : w1.frozen? ⟨w.heap.size, 1, none⟩ = false := (by rw [hb1.frozen (by first | omega | (simp; done) | (simp; omega))]; simp [go_sem, *]); have hl1_1 : (w.heap.size + 1) < w1.heap.size := Nat.lt_of_lt_of_le (by first | omega | (simp; done) | (simp; omega)) hb1.size; have q1_10 : w1.cell? ⟨(w.heap.size + 1), 0, none⟩ = some (.int .i64 0) := (by rw [hb1.cell (by first | omega | (simp; done) | (simp; omega))]; simp [go_sem, *]); have r1_10 : w1.frozen? ⟨(w.heap.size + 1), 0, none⟩ = false := (by rw [hb1.frozen (by first | omega | (simp; done) | (simp; omega))]; simp [go_sem, *]); have q1_11 : w1.cell? ⟨(w.heap.size + 1), 1, none⟩ = some (.int .i64 0) := (by rw [hb1.cell (by first | omega | (simp; done) | (simp; omega))]; simp [go_sem, *]); have r1_11 : w1.frozen? ⟨(w.heap.size + 1), 1, none⟩ = false := (by rw [hb1.frozen (by first | omega | (simp; done) | (simp; omega))]; simp [go_sem, *]); clear hb1)
    | (go_at_call 90; refine (L _).mono ?_; rintro e w2 ⟨rfl, hb2⟩; have hB2 : Below w.heap.size w w2 := Below.trans (by repeat' (first | exact Below.refl _ _ | assumption | refine Below.alloc ?_ (by first | omega | (simp; done) | (simp; omega)) _ | refine Below.drew ?_ | refine Below.setCell ?_ (by first | omega | (simp; done) | (simp; omega)) _)) (hb2.mono (by first | omega | (simp; done) | (simp; omega))); have hz2 := hB2.size; have hl2_0 : (w.heap.size + 1) < w2.heap.size := Nat.lt_of_lt_of_le (by first | omega | (simp; done) | (simp; omega)) hb2.size; have q2_00 : w2.cell? ⟨(w.heap.size + 1), 0, none⟩ = some (.int .i64 0) := (by rw [hb2.cell (by first | omega | (simp; done) | (simp; omega))]; simp [go_sem, *]); have r2_00 : w2.frozen? ⟨(w.heap.size + 1), 0, none⟩ = false := (by rw [hb2.frozen (by first | omega | (simp; done) | (simp; omega))]; simp [go_sem, *]); have q2_01 : w2.cell? ⟨(w.heap.size + 1), 1, none⟩ = some (.int .i64 0) := (by rw [hb2.cell (by first | omega | (simp; done) | (simp; omega))]; simp [go_sem, *]); have r2_01 : w2.frozen? ⟨(w.heap.size + 1), 1, none⟩ = false := (by rw [hb2.frozen (by first | omega | (simp; done) | (simp; omega))]; simp [go_sem, *]); clear hb2))
  (refine bodyPost_ret (v := .tuple #[.agg #[.int .i64 x, .int .i64 y], .int .i64 0]) ?_ rfl ?_; (focus (simp [results, Try.results30, go_sem, *])); exact ⟨rfl, by repeat' (first | (with_reducible exact Below.refl _ _) | (with_reducible assumption) | (with_reducible refine Below.alloc ?_ ?_ _) | (with_reducible refine Below.drew ?_) | (with_reducible refine belowDraws ?_ _) | (with_reducible refine Below.setCell ?_ ?_ _) | omega | (simp; done) | (simp; omega))⟩)
end Go.Proofs.Ythnjiiodpjielaa
