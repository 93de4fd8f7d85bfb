/- Readings of a scale (layer 6): the lists, the bounds, FirstReading, LastReading. No condition. -/
import Derived.Test.YthnjiiodpjielaaRd
import Derived.Test.YthnjiiodpjielaaOwn0
import Derived.Maps.AppendAt
namespace Go.Proofs.Ythnjiiodpjielaa
open Go.RowKit
set_option linter.unusedVariables false
set_option linter.unusedSimpArgs false

def mayN (s len pt eye : Int) (n : Nat) : Bool := mayB s (figAt n).1 (figAt n).2 len pt eye
def readsN (s len pt eye : Int) (N : Nat) : List Nat := (List.range N).filter (mayN s len pt eye)
def reads (s len pt eye : Int) : List Nat := readsN s len pt eye (nFigs s)
theorem readsN_yes {s len pt eye : Int} {k : Nat} (h : mayN s len pt eye k = true) : readsN s len pt eye (k + 1) = readsN s len pt eye k ++ [k] := by simp [readsN, List.range_succ, h]
theorem readsN_no {s len pt eye : Int} {k : Nat} (h : mayN s len pt eye k = false) : readsN s len pt eye (k + 1) = readsN s len pt eye k := by simp [readsN, List.range_succ, h]
theorem readsN_length (s len pt eye : Int) (k : Nat) : (readsN s len pt eye k).length ≤ k := by
  have := List.length_filter_le (mayN s len pt eye) (List.range k)
  simpa [readsN] using this
theorem readsN_lt {s len pt eye : Int} {k n : Nat} (h : n ∈ readsN s len pt eye k) : n < k := by
  simp [readsN] at h
  exact h.1
def hd1 : List Nat → Int
  | [] => -1
  | n :: _ => (n : Int)
def lst1 (l : List Nat) : Int := match l.getLast? with | none => -1 | some n => (n : Int)
theorem hd1_snoc (l : List Nat) (k : Nat) : hd1 (l ++ [k]) = if hd1 l < 0 then (k : Int) else hd1 l := by
  match l with
  | [] => rfl
  | n :: r => rw [List.cons_append, hd1, hd1, if_neg (by omega)]
theorem lst1_snoc (l : List Nat) (k : Nat) : lst1 (l ++ [k]) = (k : Int) := by simp [lst1]
theorem hd1_bd (l : List Nat) : -1 ≤ hd1 l := by
  match l with
  | [] => decide
  | n :: r => rw [hd1]; omega
theorem endTri {a b c x y z : Int} (h1 : a = x) (h2 : b = y) (h3 : c = z) : Ending.returned (.tuple #[.int .i64 a, .int .i64 b, .int .i64 c]) = .returned (.tuple #[.int .i64 x, .int .i64 y, .int .i64 z]) := by subst h1 h2 h3; rfl
theorem SeesAt.two {w : World} {b off : Nat} {l : List (Int × Int)} (h : SeesAt w b off (cells2 l)) {k : Nat} {p : Int × Int} (hp : l[k]? = some p) : w.cell? ⟨b, off + k * 2, none⟩ = some (.int .i64 p.1) ∧ w.cell? ⟨b, off + k * 2 + 1, none⟩ = some (.int .i64 p.2) := by
  obtain ⟨a0, a1⟩ := cells2_at l k p hp
  rw [show off + k * 2 + 1 = off + (2 * k + 1) by omega, show off + k * 2 = off + 2 * k by omega]
  exact ⟨h _ _ a0, h _ _ a1⟩
theorem mayBeM_any (s d t len point eye : Int) (w : World) (hd : Dig d) (h1 : 1 ≤ len) (h2 : len ≤ 100000) (h5 : 0 ≤ eye) (h6 : eye ≤ 200) :
    Calls Try.prog 91 #[.agg #[.int .i64 (plL s d t len), .int .i64 (plU s d t len)], .int .i64 point, .int .i64 eye] w fun e w' => e = .returned (.bool (mayB s d t len point eye)) ∧ w.alloc (.cells #[.int .i64 (plL s d t len), .int .i64 (plU s d t len)] 53) = w' := by
  have P := pl_bd (s := s) (t := t) hd h1 h2
  exact mayBe_any _ _ point eye w (by omega) (by omega) (by omega) (by omega) h5 h6
set_option maxRecDepth 100000 in
set_option maxHeartbeats 4000000 in
theorem readingsAt_any (s len pt eye : Int) (w : World) (s1 : 0 ≤ s) (s2 : s ≤ 5) (h1 : 1 ≤ len) (h2 : len ≤ 100000) (h5 : 0 ≤ eye) (h6 : eye ≤ 200) :
    Calls Try.prog 87 #[.int .i64 s, .int .i64 len, .int .i64 pt, .int .i64 eye] w fun e w' => ∃ v, e = .returned v ∧ w'.ownsRow w.heap.size 43 2 v ((reads s len pt eye).map figAt).length (cells2 ((reads s len pt eye).map figAt)) ∧ Below w.heap.size w w' := by
  obtain ⟨i0, hi, hz0, hz1, hz2⟩ := info_parts infoFig
  have nb := nFigs_bd s
  have FO := fun W => figuresOf_any s W s1 s2
  have HR := Lib.hid (show reads s len pt eye = readsN s len pt eye (nFigs s) from rfl)
  generalize nFigs s = N at *
  go_enter Try.func87, Try.ntmps87
  go_wp2_with fail
  refine (FO _).mono ?_
  rintro e w1 ⟨v, rfl, hownL, b1⟩
  obtain ⟨A, c, rfl⟩ := ownShape hownL
  have B1 : Below w.heap.size w w1 := Below.trans (by repeat' (first | exact Below.refl _ _ | assumption | refine Below.alloc ?_ (by first | omega | (simp; done) | (simp; omega)) _ | refine Below.drew ?_ | refine Below.setCell ?_ (by first | omega | (simp; done) | (simp; omega)) _)) (b1.mono (by simp))
  obtain ⟨b, off, rfl, hbw, hcells⟩ := (Sees.ofOwn hownL).addr (by rw [cells2_length, figsN_length]; omega)
  have hbw2 : w.heap.size < b := by
    rcases hownL.2 with ⟨h, _⟩ | ⟨g, cap, cur, h, hg, _⟩
    · cases h
    · injection h with h _ _
      injection h with h
      injection h with h
      subst h
      have := hg
      simp at this
      omega
  have hS : SeesAt w1 b off (cells2 (figsN N)) := hcells
  have hown0 : w1.ownsRow w.heap.size 43 2 (.slice (some ⟨w.heap.size, 0, none⟩) 0 0) 0 [] := by
    exact ownOver (World.ownsRow_made w #[] 0 (Nat.le_refl _) (Nat.zero_le _) rfl) b1
  have hz1' := B1.size
  rw [figsN_length]
  clear hownL FO b1 hcells
  go_wp2_with fail
  go_loopw [9, 16] (fun v i wr => ∃ k : Nat, k ≤ N ∧ i = .int .i64 k ∧ wr.ownsRow w.heap.size 43 2 v ((readsN s len pt eye k).map figAt).length (cells2 ((readsN s len pt eye k).map figAt)) ∧ some b ≠ v.ownBlock ∧ SeesAt wr b off (cells2 (figsN N)) ∧ b < wr.heap.size ∧ Below w.heap.size w wr) (fun _ i _ => N - (intOf i).toNat)
  case atStart => exact ⟨0, Nat.zero_le _, rfl, hown0, by simp [Value.ownBlock]; omega, hS, hbw, B1⟩
  case round =>
    obtain ⟨k, hk, rfl, hown, hne, hSr, hbr, hB⟩ := hrel
    have hz := hB.size
    by_cases hlt : k < N
    · obtain ⟨c0, c1⟩ := hSr.two (figsN_at hlt)
      obtain ⟨hd, t0⟩ := figAt_bd k
      have t1 := figAt_tens (n := k) (by omega)
      have HM := Lib.hid (show mayN s len pt eye k = mayB s (figAt k).1 (figAt k).2 len pt eye from rfl)
      have HF := Lib.hid (show figAt k = ((figAt k).1, (figAt k).2) from rfl)
      have hll := readsN_length s len pt eye k
      have hlm : ((readsN s len pt eye k).map figAt).length ≤ 2700 := by rw [List.length_map]; omega
      generalize (figAt k).1 = d at *
      generalize (figAt k).2 = t at *
      have L := fun W => place_any s d t len W hd (by omega) (by omega) h1 h2
      have i0' : (0 : Int) ≤ (k : Int) := by omega
      have i1' : (k : Int) < (N : Int) := by omega
      clear hll
      by_cases hm : mayB s d t len pt eye = true
      · have HY := Lib.hid (readsN_yes (HM.out.trans hm))
        go_wp2_with (first
          | (go_at_call 90; refine (L _).mono ?_; rintro e w2 ⟨rfl, hb2⟩; have hB2 : Below wr.heap.size wr w2 := Below.trans (by repeat' (first | exact Below.refl _ _ | assumption | refine Below.alloc ?_ (by first | omega | (simp; done) | (simp; omega)) _ | refine Below.drew ?_ | refine Below.setCell ?_ (by first | omega | (simp; done) | (simp; omega)) _)) (hb2.mono (by first | omega | (simp; done) | (simp; omega))); have hy2 := hB2.size; have hl2 : wr.heap.size < w2.heap.size := Nat.lt_of_lt_of_le (by simp) hb2.size; have q0 : w2.cell? ⟨wr.heap.size, 0, none⟩ = some (.int .i64 d) := (by rw [hb2.cell (by simp)]; simp [go_sem]); have q1 : w2.cell? ⟨wr.heap.size, 1, none⟩ = some (.int .i64 t) := (by rw [hb2.cell (by simp)]; simp [go_sem]); have hB2w := hB.trans (hB2.mono hB.size); have hown2 := ownOver hown hB2; have hS2 := hSr.carry (fun o => hB2.cell (p := ⟨b, o, none⟩) hbr); clear hb2)
          | (go_at_call 91; refine (mayBeM_any s d t len pt eye _ hd h1 h2 h5 h6).mono ?_; rintro e w' ⟨rfl, rfl⟩)
          | (at_builtin; refine wpList_append_own_at _ rfl _ _ 106 rfl w.heap.size 43 i0 (.agg #[.int .i64 0, .int .i64 0]) 2 16 Try.underlying106 hi hz0 hz1 hz2 rfl (by decide) _ _ _ rfl ((hown2.alloc _).alloc _) ⟨w2.heap.size + 1, 0, none⟩ 1 1 [.int .i64 d, .int .i64 t] rfl rfl ?_ ?_ ?_ ?_ ?_ ?_; exact newsAt _ _ (by simp) _ _; (intro u hu; simp at hu; rcases hu with rfl | rfl <;> rfl); (unfold maxLen; omega); omega; (simp; omega); intro v' w4 hown1 hgr1 _ hat1; have hB4 := ((hB2w.alloc (by omega) _).alloc (by simp; omega) _).grown hgr1 (by simp; omega) (fun k hk => (hown2.lt k hk).1); have hS4 := hS2.carry (fun o => (grownFar hgr1 (by simp; omega) hne o).trans ((World.cell?_alloc_lt _ _ ⟨b, o, none⟩ (by simp; omega)).trans (World.cell?_alloc_lt _ _ ⟨b, o, none⟩ (by simp; omega)))); have hne4 : some b ≠ v'.ownBlock := (by rcases hat1 with e | e; (rw [e]; exact hne); (rw [e]; simp; omega)); have hz4 := hgr1.size; clear hgr1 hat1))
        go_roundw
        case rel =>
          refine ⟨k + 1, by omega, by go_num, ?_, hne4, hS4, by simp at hz4; omega, hB4⟩
          rw [HY.out, List.map_append, cells2_append, List.length_append, List.map_cons, HF.out]
          exact hown1
        case measure => simp [intOf]; omega
      · have hm : mayB s d t len pt eye = false := by simpa using hm
        have HY := Lib.hid (readsN_no (HM.out.trans hm))
        go_wp2_with (first
          | (go_at_call 90; refine (L _).mono ?_; rintro e w2 ⟨rfl, hb2⟩; have hB2 : Below wr.heap.size wr w2 := Below.trans (by repeat' (first | exact Below.refl _ _ | assumption | refine Below.alloc ?_ (by first | omega | (simp; done) | (simp; omega)) _ | refine Below.drew ?_ | refine Below.setCell ?_ (by first | omega | (simp; done) | (simp; omega)) _)) (hb2.mono (by first | omega | (simp; done) | (simp; omega))); have hy2 := hB2.size; have hl2 : wr.heap.size < w2.heap.size := Nat.lt_of_lt_of_le (by simp) hb2.size; have q0 : w2.cell? ⟨wr.heap.size, 0, none⟩ = some (.int .i64 d) := (by rw [hb2.cell (by simp)]; simp [go_sem]); have q1 : w2.cell? ⟨wr.heap.size, 1, none⟩ = some (.int .i64 t) := (by rw [hb2.cell (by simp)]; simp [go_sem]); have hB2w := hB.trans (hB2.mono hB.size); have hown2 := ownOver hown hB2; have hS2 := hSr.carry (fun o => hB2.cell (p := ⟨b, o, none⟩) hbr); clear hb2)
          | (go_at_call 91; refine (mayBeM_any s d t len pt eye _ hd h1 h2 h5 h6).mono ?_; rintro e w' ⟨rfl, rfl⟩))
        go_roundw
        case rel =>
          refine ⟨k + 1, by omega, by go_num, ?_, hne, hS2.carry (fun o => World.cell?_alloc_lt _ _ ⟨b, o, none⟩ (by simp; omega)), by simp; omega, by repeat' (first | exact Below.refl _ _ | assumption | refine Below.alloc ?_ (by first | omega | (simp; done) | (simp; omega)) _ | refine Below.drew ?_ | refine Below.setCell ?_ (by first | omega | (simp; done) | (simp; omega)) _)⟩
          rw [HY.out]
          exact hown2.alloc _
        case measure => simp [intOf]; omega
    · obtain rfl : k = N := by omega
      go_wp2_with fail
      go_ret
      exact ⟨_, rfl, by rw [HR.out]; exact hown, hB⟩
set_option maxHeartbeats 1000000 in
theorem readings_no (s len pt eye : Int) (w : World) (h : ptB s len pt eye = false) :
    Calls Try.prog 82 #[.int .i64 s, .int .i64 len, .int .i64 pt, .int .i64 eye] w fun e w' => e = .returned (.tuple #[.slice none 0 0, .int .i64 2]) ∧ w = w' := by
  go_enter Try.func82, Try.ntmps82
  go_wp2_with (go_at_call 86; refine (isPoint_any _ _ _ _ _).mono ?_; rintro e w' ⟨rfl, rfl⟩)
  go_ret2
  exact ⟨rfl, rfl⟩
set_option maxHeartbeats 1000000 in
theorem readings_none (s len pt eye : Int) (w : World) (h : ptB s len pt eye = true) (hr : reads s len pt eye = []) :
    Calls Try.prog 82 #[.int .i64 s, .int .i64 len, .int .i64 pt, .int .i64 eye] w fun e w' => e = .returned (.tuple #[.slice none 0 0, .int .i64 4]) ∧ Below w.heap.size w w' := by
  obtain ⟨⟨s1, s2⟩, ⟨h1, h2⟩, _, h5, h6⟩ := ptB_iff.1 h
  have RA := fun W => readingsAt_any s len pt eye W s1 s2 h1 h2 h5 h6
  rw [hr] at RA
  clear hr
  go_enter Try.func82, Try.ntmps82
  go_wp2_with (first
    | (go_at_call 86; refine (isPoint_any _ _ _ _ _).mono ?_; rintro e w' ⟨rfl, rfl⟩)
    | (go_at_call 87; refine (RA _).mono ?_; rintro e w1 ⟨v, rfl, hown, hb1⟩; obtain ⟨A, c, rfl⟩ := ownShape hown))
  go_ret2
  exact ⟨rfl, hb1⟩
set_option maxHeartbeats 1000000 in
theorem readings_some (s len pt eye : Int) (w : World) (h : ptB s len pt eye = true) (hr : 0 < (reads s len pt eye).length) :
    Calls Try.prog 82 #[.int .i64 s, .int .i64 len, .int .i64 pt, .int .i64 eye] w fun e w' => ∃ v, e = .returned (.tuple #[v, .int .i64 0]) ∧ w'.ownsRow w.heap.size 43 2 v ((reads s len pt eye).map figAt).length (cells2 ((reads s len pt eye).map figAt)) ∧ Below w.heap.size w w' := by
  obtain ⟨⟨s1, s2⟩, ⟨h1, h2⟩, _, h5, h6⟩ := ptB_iff.1 h
  have RA := fun W => readingsAt_any s len pt eye W s1 s2 h1 h2 h5 h6
  have hr1 : 0 < ((reads s len pt eye).map figAt).length := by rw [List.length_map]; exact hr
  generalize (reads s len pt eye).map figAt = L at *
  have hr2 : ((L.length : Int) == 0) = false := by simp; intro h; subst h; simp at hr1
  go_enter Try.func82, Try.ntmps82
  go_wp2_with (first
    | (go_at_call 86; refine (isPoint_any _ _ _ _ _).mono ?_; rintro e w' ⟨rfl, rfl⟩)
    | (go_at_call 87; refine (RA _).mono ?_; rintro e w1 ⟨v, rfl, hown, hb1⟩; obtain ⟨A, c, rfl⟩ := ownShape hown))
  go_ret2
  exact ⟨_, rfl, hown, hb1⟩
/-- a figure, and a code -/
def endFC (p : (Int × Int) × Int) : Value := .tuple #[.agg #[.int .i64 p.1.1, .int .i64 p.1.2], .int .i64 p.2]
def rFirst (s len pt eye : Int) : (Int × Int) × Int := if ptB s len pt eye = true then (match (reads s len pt eye).head? with | none => ((0, 0), 4) | some n => (figAt n, 0)) else ((0, 0), 2)
def rLast (s len pt eye : Int) : (Int × Int) × Int := if ptB s len pt eye = true then (match (reads s len pt eye).getLast? with | none => ((0, 0), 4) | some n => (figAt n, 0)) else ((0, 0), 2)
theorem endFC_of {p : (Int × Int) × Int} {x y z : Int} (h : p = ((x, y), z)) : Ending.returned (.tuple #[.agg #[.int .i64 x, .int .i64 y], .int .i64 z]) = .returned (endFC p) := by subst h; rfl
set_option maxHeartbeats 2000000 in
theorem iFirstReading_any (s len pt eye : Int) (w : World) :
    Calls Try.prog 21 #[.int .i64 s, .int .i64 len, .int .i64 pt, .int .i64 eye] w fun e w' => e = .returned (endFC (rFirst s len pt eye)) ∧ Below w.heap.size w w' := by
  by_cases h : ptB s len pt eye = true
  · match hr : reads s len pt eye with
    | [] =>
      have HV := Lib.hid (show rFirst s len pt eye = ((0, 0), 4) by simp [rFirst, h, hr])
      have R := fun W => readings_none s len pt eye W h hr
      clear hr
      go_enter Try.func21, Try.ntmps21
      go_wp2_with (go_at_call 82; refine (R _).mono ?_; rintro e w1 ⟨rfl, hb1⟩; have hB1 : Below w.heap.size w w1 := Below.trans (by repeat' (first | exact Below.refl _ _ | assumption | refine Below.alloc ?_ (by first | omega | (simp; done) | (simp; omega)) _ | refine Below.drew ?_ | refine Below.setCell ?_ (by first | omega | (simp; done) | (simp; omega)) _)) (hb1.mono (by first | omega | (simp; done) | (simp; omega))); have hz1 := hB1.size; have hl1_0 : w.heap.size < w1.heap.size := Nat.lt_of_lt_of_le (by first | omega | (simp; done) | (simp; omega)) hb1.size; have q1_00 : w1.cell? ⟨w.heap.size, 0, none⟩ = some (.int .i64 0) := (by rw [hb1.cell (by first | omega | (simp; done) | (simp; omega))]; simp [go_sem, *]); have r1_00 : w1.frozen? ⟨w.heap.size, 0, none⟩ = false := (by rw [hb1.frozen (by first | omega | (simp; done) | (simp; omega))]; simp [go_sem, *]); have q1_01 : w1.cell? ⟨w.heap.size, 1, none⟩ = some (.int .i64 0) := (by rw [hb1.cell (by first | omega | (simp; done) | (simp; omega))]; simp [go_sem, *]); have r1_01 : w1.frozen? ⟨w.heap.size, 1, none⟩ = false := (by rw [hb1.frozen (by first | omega | (simp; done) | (simp; omega))]; simp [go_sem, *]); clear hb1)
      exact bodyPost_ret (v := .tuple #[.agg #[.int .i64 0, .int .i64 0], .int .i64 4]) (by simp [results, Try.results21, go_sem, *]) rfl ⟨endFC_of HV.out, by repeat' (first | exact Below.refl _ _ | assumption | refine Below.alloc ?_ (by first | omega | (simp; done) | (simp; omega)) _ | refine Below.drew ?_ | refine Below.setCell ?_ (by first | omega | (simp; done) | (simp; omega)) _)⟩
    | n0 :: r0 =>
      obtain ⟨m, hm⟩ : ∃ m, (n0 :: r0).head? = some m := ⟨_, rfl⟩
      have HV := Lib.hid (show rFirst s len pt eye = (((figAt m).1, (figAt m).2), 0) by simp [rFirst, h, hr, hm])
      have R := fun W => readings_some s len pt eye W h (by rw [hr]; simp)
      have HM := Lib.hid (show ((n0 :: r0).map figAt)[0]? = some (figAt m) by simp at hm; subst hm; rfl)
      have HL := Lib.hid (show ((n0 :: r0).map figAt).length = r0.length + 1 by simp)
      have HB := Lib.hid (show (reads s len pt eye).length ≤ 2700 from Nat.le_trans (readsN_length s len pt eye _) (nFigs_bd s).2)
      have hl2 : r0.length ≤ 2700 := by have := HB.out; rw [hr] at this; simp at this; omega
      rw [hr] at R
      clear hr hm
      generalize (n0 :: r0).map figAt = L at *
      go_enter Try.func21, Try.ntmps21
      go_wp2_with fail
      refine (R _).mono ?_
      rintro e w1 ⟨v, rfl, hown, hb1⟩
      obtain ⟨A, c, rfl⟩ := ownShape hown
      have hB1 : Below w.heap.size w w1 := Below.trans (by repeat' (first | exact Below.refl _ _ | assumption | refine Below.alloc ?_ (by first | omega | (simp; done) | (simp; omega)) _ | refine Below.drew ?_ | refine Below.setCell ?_ (by first | omega | (simp; done) | (simp; omega)) _)) (hb1.mono (by first | omega | (simp; done) | (simp; omega)))
      have hz1 := hB1.size
      have hl1 : w.heap.size < w1.heap.size := Nat.lt_of_lt_of_le (by simp) hb1.size
      have e0 : w1.cell? ⟨w.heap.size, 0, none⟩ = some (.int .i64 0) := (by rw [hb1.cell (by simp)]; simp [go_sem])
      have e1 : w1.cell? ⟨w.heap.size, 1, none⟩ = some (.int .i64 0) := (by rw [hb1.cell (by simp)]; simp [go_sem])
      have e2 : w1.frozen? ⟨w.heap.size, 0, none⟩ = false := (by rw [hb1.frozen (by simp)]; simp [go_sem])
      have e3 : w1.frozen? ⟨w.heap.size, 1, none⟩ = false := (by rw [hb1.frozen (by simp)]; simp [go_sem])
      obtain ⟨b, off, p, rfl, hb, hp, c0, c1⟩ := (Sees.ofOwn hown).two (k := 0) (by rw [HL.out]; omega)
      have ep : p = figAt m := by have := HM.out; rw [this] at hp; injection hp with hp; exact hp.symm
      subst ep
      rw [HL.out]; simp only [Nat.zero_mul, Nat.add_zero] at c0 c1
      have hbl : b < w1.heap.size := hb
      have i0 : (0 : Int) ≤ (r0.length : Int) := by omega
      have i1 : (0 : Int) < (r0.length : Int) + 1 := by omega
      have i2 : (r0.length : Int) < (r0.length : Int) + 1 := by omega
      have hbne : b ≠ w.heap.size := by
        rcases hown.2 with ⟨h, _⟩ | ⟨g, cap, cur, h, hg, _⟩
        · cases h
        · injection h with h _ _
          injection h with h
          injection h with h
          have := hg
          simp at this
          omega
      clear hown hp hb1 R
      generalize (figAt m).1 = d at *
      generalize (figAt m).2 = t at *
      go_wp2_with fail
      exact bodyPost_ret (v := .tuple #[.agg #[.int .i64 d, .int .i64 t], .int .i64 0]) (by simp [results, Try.results21, go_sem, *]) rfl ⟨endFC_of HV.out, by repeat' (first | exact Below.refl _ _ | assumption | refine Below.alloc ?_ (by first | omega | (simp; done) | (simp; omega)) _ | refine Below.drew ?_ | refine Below.setCell ?_ (by first | omega | (simp; done) | (simp; omega)) _)⟩
  · have h' : ptB s len pt eye = false := by simpa using h
    have HV := Lib.hid (show rFirst s len pt eye = ((0, 0), 2) by simp [rFirst, h'])
    have R := fun W => readings_no s len pt eye W h'
    go_enter Try.func21, Try.ntmps21
    go_wp2_with (go_at_call 82; refine (R _).mono ?_; rintro e w' ⟨rfl, rfl⟩)
    exact bodyPost_ret (v := .tuple #[.agg #[.int .i64 0, .int .i64 0], .int .i64 2]) (by simp [results, Try.results21, go_sem, *]) rfl ⟨endFC_of HV.out, by repeat' (first | exact Below.refl _ _ | assumption | refine Below.alloc ?_ (by first | omega | (simp; done) | (simp; omega)) _ | refine Below.drew ?_ | refine Below.setCell ?_ (by first | omega | (simp; done) | (simp; omega)) _)⟩
set_option maxHeartbeats 2000000 in
theorem iLastReading_any (s len pt eye : Int) (w : World) :
    Calls Try.prog 23 #[.int .i64 s, .int .i64 len, .int .i64 pt, .int .i64 eye] w fun e w' => e = .returned (endFC (rLast s len pt eye)) ∧ Below w.heap.size w w' := by
  by_cases h : ptB s len pt eye = true
  · match hr : reads s len pt eye with
    | [] =>
      have HV := Lib.hid (show rLast s len pt eye = ((0, 0), 4) by simp [rLast, h, hr])
      have R := fun W => readings_none s len pt eye W h hr
      clear hr
      go_enter Try.func23, Try.ntmps23
      go_wp2_with (go_at_call 82; refine (R _).mono ?_; rintro e w1 ⟨rfl, hb1⟩; have hB1 : Below w.heap.size w w1 := Below.trans (by repeat' (first | exact Below.refl _ _ | assumption | refine Below.alloc ?_ (by first | omega | (simp; done) | (simp; omega)) _ | refine Below.drew ?_ | refine Below.setCell ?_ (by first | omega | (simp; done) | (simp; omega)) _)) (hb1.mono (by first | omega | (simp; done) | (simp; omega))); have hz1 := hB1.size; have hl1_0 : w.heap.size < w1.heap.size := Nat.lt_of_lt_of_le (by first | omega | (simp; done) | (simp; omega)) hb1.size; have q1_00 : w1.cell? ⟨w.heap.size, 0, none⟩ = some (.int .i64 0) := (by rw [hb1.cell (by first | omega | (simp; done) | (simp; omega))]; simp [go_sem, *]); have r1_00 : w1.frozen? ⟨w.heap.size, 0, none⟩ = false := (by rw [hb1.frozen (by first | omega | (simp; done) | (simp; omega))]; simp [go_sem, *]); have q1_01 : w1.cell? ⟨w.heap.size, 1, none⟩ = some (.int .i64 0) := (by rw [hb1.cell (by first | omega | (simp; done) | (simp; omega))]; simp [go_sem, *]); have r1_01 : w1.frozen? ⟨w.heap.size, 1, none⟩ = false := (by rw [hb1.frozen (by first | omega | (simp; done) | (simp; omega))]; simp [go_sem, *]); clear hb1)
      exact bodyPost_ret (v := .tuple #[.agg #[.int .i64 0, .int .i64 0], .int .i64 4]) (by simp [results, Try.results23, go_sem, *]) rfl ⟨endFC_of HV.out, by repeat' (first | exact Below.refl _ _ | assumption | refine Below.alloc ?_ (by first | omega | (simp; done) | (simp; omega)) _ | refine Below.drew ?_ | refine Below.setCell ?_ (by first | omega | (simp; done) | (simp; omega)) _)⟩
    | n0 :: r0 =>
      obtain ⟨m, hm⟩ : ∃ m, (n0 :: r0).getLast? = some m := ⟨(n0 :: r0)[r0.length]'(by simp), by rw [List.getLast?_eq_getElem?]; simp⟩
      have HV := Lib.hid (show rLast s len pt eye = (((figAt m).1, (figAt m).2), 0) by simp [rLast, h, hr, hm])
      have R := fun W => readings_some s len pt eye W h (by rw [hr]; simp)
      have HM := Lib.hid (show ((n0 :: r0).map figAt)[(n0 :: r0).length - 1]? = some (figAt m) by rw [List.getLast?_eq_getElem?] at hm; rw [List.getElem?_map, hm]; rfl)
      have HL := Lib.hid (show ((n0 :: r0).map figAt).length = r0.length + 1 by simp)
      have HB := Lib.hid (show (reads s len pt eye).length ≤ 2700 from Nat.le_trans (readsN_length s len pt eye _) (nFigs_bd s).2)
      have hl2 : r0.length ≤ 2700 := by have := HB.out; rw [hr] at this; simp at this; omega
      rw [hr] at R
      clear hr hm
      generalize (n0 :: r0).map figAt = L at *
      go_enter Try.func23, Try.ntmps23
      go_wp2_with fail
      refine (R _).mono ?_
      rintro e w1 ⟨v, rfl, hown, hb1⟩
      obtain ⟨A, c, rfl⟩ := ownShape hown
      have hB1 : Below w.heap.size w w1 := Below.trans (by repeat' (first | exact Below.refl _ _ | assumption | refine Below.alloc ?_ (by first | omega | (simp; done) | (simp; omega)) _ | refine Below.drew ?_ | refine Below.setCell ?_ (by first | omega | (simp; done) | (simp; omega)) _)) (hb1.mono (by first | omega | (simp; done) | (simp; omega)))
      have hz1 := hB1.size
      have hl1 : w.heap.size < w1.heap.size := Nat.lt_of_lt_of_le (by simp) hb1.size
      have e0 : w1.cell? ⟨w.heap.size, 0, none⟩ = some (.int .i64 0) := (by rw [hb1.cell (by simp)]; simp [go_sem])
      have e1 : w1.cell? ⟨w.heap.size, 1, none⟩ = some (.int .i64 0) := (by rw [hb1.cell (by simp)]; simp [go_sem])
      have e2 : w1.frozen? ⟨w.heap.size, 0, none⟩ = false := (by rw [hb1.frozen (by simp)]; simp [go_sem])
      have e3 : w1.frozen? ⟨w.heap.size, 1, none⟩ = false := (by rw [hb1.frozen (by simp)]; simp [go_sem])
      obtain ⟨b, off, p, rfl, hb, hp, c0, c1⟩ := (Sees.ofOwn hown).two (k := r0.length) (by rw [HL.out]; omega)
      have ep : p = figAt m := by have := HM.out; simp only [List.length_cons, Nat.add_sub_cancel] at this; rw [this] at hp; injection hp with hp; exact hp.symm
      subst ep
      rw [HL.out]
      have hbl : b < w1.heap.size := hb
      have i0 : (0 : Int) ≤ (r0.length : Int) := by omega
      have i1 : (0 : Int) < (r0.length : Int) + 1 := by omega
      have i2 : (r0.length : Int) < (r0.length : Int) + 1 := by omega
      have hbne : b ≠ w.heap.size := by
        rcases hown.2 with ⟨h, _⟩ | ⟨g, cap, cur, h, hg, _⟩
        · cases h
        · injection h with h _ _
          injection h with h
          injection h with h
          have := hg
          simp at this
          omega
      clear hown hp hb1 R
      generalize (figAt m).1 = d at *
      generalize (figAt m).2 = t at *
      go_wp2_with fail
      exact bodyPost_ret (v := .tuple #[.agg #[.int .i64 d, .int .i64 t], .int .i64 0]) (by simp [results, Try.results23, go_sem, *]) rfl ⟨endFC_of HV.out, by repeat' (first | exact Below.refl _ _ | assumption | refine Below.alloc ?_ (by first | omega | (simp; done) | (simp; omega)) _ | refine Below.drew ?_ | refine Below.setCell ?_ (by first | omega | (simp; done) | (simp; omega)) _)⟩
  · have h' : ptB s len pt eye = false := by simpa using h
    have HV := Lib.hid (show rLast s len pt eye = ((0, 0), 2) by simp [rLast, h'])
    have R := fun W => readings_no s len pt eye W h'
    go_enter Try.func23, Try.ntmps23
    go_wp2_with (go_at_call 82; refine (R _).mono ?_; rintro e w' ⟨rfl, rfl⟩)
    exact bodyPost_ret (v := .tuple #[.agg #[.int .i64 0, .int .i64 0], .int .i64 2]) (by simp [results, Try.results23, go_sem, *]) rfl ⟨endFC_of HV.out, by repeat' (first | exact Below.refl _ _ | assumption | refine Below.alloc ?_ (by first | omega | (simp; done) | (simp; omega)) _ | refine Below.drew ?_ | refine Below.setCell ?_ (by first | omega | (simp; done) | (simp; omega)) _)⟩
set_option maxHeartbeats 1000000 in
theorem l06At_any (n : Nat) (w : World) (hn : n ≤ 1000000) :
    Calls Try.prog 85 #[.int .i64 (n : Int)] w fun e w' => e = .returned (.agg #[.int .i64 (figAt n).1, .int .i64 (figAt n).2]) ∧ Below w.heap.size w w' := by
  have h1 : (0 : Int) ≤ (n : Int) := by omega
  have h2 : (n : Int) ≤ 1000000 := by omega
  have e1 := Lib.hid (show (figAt n).1 = 1000 + 10 * ((n : Int) % 900) by unfold figAt; simp)
  have e2 := Lib.hid (show (figAt n).2 = (n : Int) / 900 by unfold figAt; simp)
  go_enter Try.func85, Try.ntmps85
  go_wp2
  exact bodyPost_ret (v := .agg #[.int .i64 (1000 + 10 * ((n : Int) % 900)), .int .i64 ((n : Int) / 900)]) (by simp [results, Try.results85, go_sem]) rfl ⟨by rw [e1.out, e2.out], by repeat' (first | exact Below.refl _ _ | assumption | refine Below.alloc ?_ (by first | omega | (simp; done) | (simp; omega)) _ | refine Below.drew ?_ | refine Below.setCell ?_ (by first | omega | (simp; done) | (simp; omega)) _)⟩
def RB (s len pt eye : Int) (k : Nat) (a b c : Int) : Prop := a = hd1 (readsN s len pt eye k) ∧ b = lst1 (readsN s len pt eye k) ∧ c = ((readsN s len pt eye k).length : Int)
theorem RB.first {s len pt eye : Int} {k : Nat} {a b c : Int} (h : RB s len pt eye k a b c) (hm : mayN s len pt eye k = true) (ha : a < 0) : RB s len pt eye (k + 1) k k (c + 1) := by
  obtain ⟨rfl, rfl, rfl⟩ := h
  refine ⟨?_, ?_, ?_⟩
  · rw [readsN_yes hm, hd1_snoc, if_pos ha]
  · rw [readsN_yes hm, lst1_snoc]
  · rw [readsN_yes hm]; simp
theorem RB.next {s len pt eye : Int} {k : Nat} {a b c : Int} (h : RB s len pt eye k a b c) (hm : mayN s len pt eye k = true) (ha : ¬ a < 0) : RB s len pt eye (k + 1) a k (c + 1) := by
  obtain ⟨rfl, rfl, rfl⟩ := h
  refine ⟨?_, ?_, ?_⟩
  · rw [readsN_yes hm, hd1_snoc, if_neg ha]
  · rw [readsN_yes hm, lst1_snoc]
  · rw [readsN_yes hm]; simp
theorem RB.skip {s len pt eye : Int} {k : Nat} {a b c : Int} (h : RB s len pt eye k a b c) (hm : mayN s len pt eye k = false) : RB s len pt eye (k + 1) a b c := by
  obtain ⟨rfl, rfl, rfl⟩ := h
  unfold RB
  rw [readsN_no hm]
  exact ⟨rfl, rfl, rfl⟩
set_option maxRecDepth 100000 in
set_option maxHeartbeats 4000000 in
theorem l06Bounds_any (s len pt eye : Int) (w : World) (s1 : 0 ≤ s) (s2 : s ≤ 5) (h1 : 1 ≤ len) (h2 : len ≤ 100000) (h5 : 0 ≤ eye) (h6 : eye ≤ 200) :
    Calls Try.prog 84 #[.int .i64 s, .int .i64 len, .int .i64 pt, .int .i64 eye] w fun e w' => e = .returned (.tuple #[.int .i64 (hd1 (reads s len pt eye)), .int .i64 (lst1 (reads s len pt eye)), .int .i64 ((reads s len pt eye).length : Int)]) ∧ Below w.heap.size w w' := by
  have nb := nFigs_bd s
  have HR := Lib.hid (show reads s len pt eye = readsN s len pt eye (nFigs s) from rfl)
  obtain ⟨D, hD⟩ : ∃ D : Nat, decades s = (D : Int) := ⟨(decades s).toNat, by have := decades_bd s; omega⟩
  have hD2 : 1 ≤ D ∧ D ≤ 3 := by have := decades_bd s; omega
  have HN := Lib.hid (show nFigs s = 900 * D by unfold nFigs; rw [hD]; rfl)
  have DC := fun W => l05Decades_any s W
  rw [hD] at DC
  clear hD
  generalize nFigs s = N at *
  go_enter Try.func84, Try.ntmps84
  go_wp2_with fail
  go_loopw [11, 12, 13, 14] (fun a b c i wr => ∃ (k : Nat) (x y z : Int), k ≤ N ∧ i = .int .i64 k ∧ a = .int .i64 x ∧ b = .int .i64 y ∧ c = .int .i64 z ∧ -1 ≤ x ∧ x ≤ 2700 ∧ 0 ≤ z ∧ z ≤ k ∧ RB s len pt eye k x y z ∧ Below w.heap.size w wr) (fun _ _ _ i _ => N - (intOf i).toNat)
  case atStart => exact ⟨0, -1, -1, 0, Nat.zero_le _, rfl, rfl, rfl, rfl, by omega, by omega, by omega, by omega, ⟨rfl, rfl, rfl⟩, Below.refl _ _⟩
  case round =>
    obtain ⟨k, x, y, z, hk, rfl, rfl, rfl, rfl, hx1, hx2, hz1', hz2', hRB, hB⟩ := hrel
    have hz := hB.size
    have i1 : (0 : Int) ≤ (k : Int) := by omega
    by_cases hlt : k < N
    · obtain ⟨hd, t0⟩ := figAt_bd k
      have t1 := figAt_tens (n := k) (by omega)
      have HM := Lib.hid (show mayN s len pt eye k = mayB s (figAt k).1 (figAt k).2 len pt eye from rfl)
      have i2 : (k : Int) < 900 * (D : Int) := by have := HN.out; omega
      have MN := fun W => l06May_any s (figAt k).1 (figAt k).2 len pt eye W hd (by omega) (by omega) h1 h2 h5 h6
      by_cases hm : mayB s (figAt k).1 (figAt k).2 len pt eye = true
      · have HY := Lib.hid (HM.out.trans hm)
        rw [hm] at MN
        clear HM hm
        by_cases hx : x < 0
        · have HQ := Lib.hid (hRB.first HY.out hx)
          clear hRB
          go_wp2_with (first
            | (go_at_call 137; refine (DC _).mono ?_; rintro e w' ⟨rfl, rfl⟩)
            | (go_at_call 85; refine (l06At_any k _ (by omega)).mono ?_; rintro e w1 ⟨rfl, hb1⟩; have hB1 : Below w.heap.size w w1 := Below.trans (by repeat' (first | exact Below.refl _ _ | assumption | refine Below.alloc ?_ (by first | omega | (simp; done) | (simp; omega)) _ | refine Below.drew ?_ | refine Below.setCell ?_ (by first | omega | (simp; done) | (simp; omega)) _)) (hb1.mono (by first | omega | (simp; done) | (simp; omega))); have hz1 := hB1.size; clear hb1)
            | (go_at_call 100; refine (MN _).mono ?_; rintro e w2 ⟨rfl, hb2⟩; have hB2 : Below w.heap.size w w2 := Below.trans (by repeat' (first | exact Below.refl _ _ | assumption | refine Below.alloc ?_ (by first | omega | (simp; done) | (simp; omega)) _ | refine Below.drew ?_ | refine Below.setCell ?_ (by first | omega | (simp; done) | (simp; omega)) _)) (hb2.mono (by first | omega | (simp; done) | (simp; omega))); have hz2 := hB2.size; clear hb2))
          go_roundw
          case rel => exact ⟨k + 1, _, _, _, by omega, by go_num, rfl, rfl, rfl, by omega, by omega, by omega, by omega, HQ.out, hB2⟩
          case measure => simp [intOf]; omega
        · have HQ := Lib.hid (hRB.next HY.out hx)
          clear hRB
          go_wp2_with (first
            | (go_at_call 137; refine (DC _).mono ?_; rintro e w' ⟨rfl, rfl⟩)
            | (go_at_call 85; refine (l06At_any k _ (by omega)).mono ?_; rintro e w1 ⟨rfl, hb1⟩; have hB1 : Below w.heap.size w w1 := Below.trans (by repeat' (first | exact Below.refl _ _ | assumption | refine Below.alloc ?_ (by first | omega | (simp; done) | (simp; omega)) _ | refine Below.drew ?_ | refine Below.setCell ?_ (by first | omega | (simp; done) | (simp; omega)) _)) (hb1.mono (by first | omega | (simp; done) | (simp; omega))); have hz1 := hB1.size; clear hb1)
            | (go_at_call 100; refine (MN _).mono ?_; rintro e w2 ⟨rfl, hb2⟩; have hB2 : Below w.heap.size w w2 := Below.trans (by repeat' (first | exact Below.refl _ _ | assumption | refine Below.alloc ?_ (by first | omega | (simp; done) | (simp; omega)) _ | refine Below.drew ?_ | refine Below.setCell ?_ (by first | omega | (simp; done) | (simp; omega)) _)) (hb2.mono (by first | omega | (simp; done) | (simp; omega))); have hz2 := hB2.size; clear hb2))
          go_roundw
          case rel => exact ⟨k + 1, _, _, _, by omega, by go_num, rfl, rfl, rfl, by omega, by omega, by omega, by omega, HQ.out, hB2⟩
          case measure => simp [intOf]; omega
      · have hm : mayB s (figAt k).1 (figAt k).2 len pt eye = false := by simpa using hm
        have HQ := Lib.hid (hRB.skip (HM.out.trans hm))
        rw [hm] at MN
        clear HM hm hRB
        go_wp2_with (first
          | (go_at_call 137; refine (DC _).mono ?_; rintro e w' ⟨rfl, rfl⟩)
          | (go_at_call 85; refine (l06At_any k _ (by omega)).mono ?_; rintro e w1 ⟨rfl, hb1⟩; have hB1 : Below w.heap.size w w1 := Below.trans (by repeat' (first | exact Below.refl _ _ | assumption | refine Below.alloc ?_ (by first | omega | (simp; done) | (simp; omega)) _ | refine Below.drew ?_ | refine Below.setCell ?_ (by first | omega | (simp; done) | (simp; omega)) _)) (hb1.mono (by first | omega | (simp; done) | (simp; omega))); have hz1 := hB1.size; clear hb1)
          | (go_at_call 100; refine (MN _).mono ?_; rintro e w2 ⟨rfl, hb2⟩; have hB2 : Below w.heap.size w w2 := Below.trans (by repeat' (first | exact Below.refl _ _ | assumption | refine Below.alloc ?_ (by first | omega | (simp; done) | (simp; omega)) _ | refine Below.drew ?_ | refine Below.setCell ?_ (by first | omega | (simp; done) | (simp; omega)) _)) (hb2.mono (by first | omega | (simp; done) | (simp; omega))); have hz2 := hB2.size; clear hb2))
        go_roundw
        case rel => exact ⟨k + 1, _, _, _, by omega, by go_num, rfl, rfl, rfl, by omega, by omega, by omega, by omega, HQ.out, hB2⟩
        case measure => simp [intOf]; omega
    · obtain rfl : k = N := by omega
      have i2 : ¬ (k : Int) < 900 * (D : Int) := by have := HN.out; omega
      have HQ := Lib.hid hRB
      clear hRB
      go_wp2_with (first
    | (go_at_call 137; refine (DC _).mono ?_; rintro e w' ⟨rfl, rfl⟩))
      go_ret3
      exact ⟨endTri (by rw [HR.out]; exact HQ.out.1) (by rw [HR.out]; exact HQ.out.2.1) (by rw [HR.out]; exact HQ.out.2.2), hB⟩
set_option maxHeartbeats 2000000 in
theorem sFirstReading_any (s len pt eye : Int) (w : World) :
    Calls Try.prog 22 #[.int .i64 s, .int .i64 len, .int .i64 pt, .int .i64 eye] w fun e w' => e = .returned (endFC (rFirst s len pt eye)) ∧ Below w.heap.size w w' := by
  have C := fun W => l06Code_any s len pt eye W
  by_cases h : ptB s len pt eye = true
  · obtain ⟨⟨s1, s2⟩, ⟨h1, h2⟩, _, h5, h6⟩ := ptB_iff.1 h
    have B := fun W => l06Bounds_any s len pt eye W s1 s2 h1 h2 h5 h6
    rw [if_pos h] at C
    match hr : reads s len pt eye with
    | [] =>
      have HV := Lib.hid (show rFirst s len pt eye = ((0, 0), 4) by simp [rFirst, h, hr])
      rw [hr] at B
      rw [show hd1 [] = -1 from rfl, show lst1 [] = -1 from rfl] at B
      clear hr
      go_enter Try.func22, Try.ntmps22
      go_wp2_with (first
        | (go_at_call 83; refine (C _).mono ?_; rintro e w' ⟨rfl, rfl⟩)
        | (go_at_call 84; refine (B _).mono ?_; rintro e w1 ⟨rfl, hb1⟩; have hB1 : Below w.heap.size w w1 := Below.trans (by repeat' (first | exact Below.refl _ _ | assumption | refine Below.alloc ?_ (by first | omega | (simp; done) | (simp; omega)) _ | refine Below.drew ?_ | refine Below.setCell ?_ (by first | omega | (simp; done) | (simp; omega)) _)) (hb1.mono (by first | omega | (simp; done) | (simp; omega))); have hz1 := hB1.size; have hl1_0 : w.heap.size < w1.heap.size := Nat.lt_of_lt_of_le (by first | omega | (simp; done) | (simp; omega)) hb1.size; have q1_00 : w1.cell? ⟨w.heap.size, 0, none⟩ = some (.int .i64 0) := (by rw [hb1.cell (by first | omega | (simp; done) | (simp; omega))]; simp [go_sem, *]); have r1_00 : w1.frozen? ⟨w.heap.size, 0, none⟩ = false := (by rw [hb1.frozen (by first | omega | (simp; done) | (simp; omega))]; simp [go_sem, *]); have q1_01 : w1.cell? ⟨w.heap.size, 1, none⟩ = some (.int .i64 0) := (by rw [hb1.cell (by first | omega | (simp; done) | (simp; omega))]; simp [go_sem, *]); have r1_01 : w1.frozen? ⟨w.heap.size, 1, none⟩ = false := (by rw [hb1.frozen (by first | omega | (simp; done) | (simp; omega))]; simp [go_sem, *]); clear hb1))
      exact bodyPost_ret (v := .tuple #[.agg #[.int .i64 0, .int .i64 0], .int .i64 4]) (by simp [results, Try.results22, go_sem, *]) rfl ⟨endFC_of HV.out, by repeat' (first | exact Below.refl _ _ | assumption | refine Below.alloc ?_ (by first | omega | (simp; done) | (simp; omega)) _ | refine Below.drew ?_ | refine Below.setCell ?_ (by first | omega | (simp; done) | (simp; omega)) _)⟩
    | n0 :: r0 =>
      obtain ⟨m, hm⟩ : ∃ m, (n0 :: r0).head? = some m := ⟨_, rfl⟩
      have HV := Lib.hid (show rFirst s len pt eye = (((figAt m).1, (figAt m).2), 0) by simp [rFirst, h, hr, hm])
      have hmm : m ≤ 2700 := by
        have hmem : m ∈ reads s len pt eye := by rw [hr]; exact List.mem_of_head? hm
        have := readsN_lt hmem
        have := nFigs_bd s
        omega
      rw [hr, show hd1 (n0 :: r0) = (m : Int) by simp at hm; subst hm; rfl] at B
      generalize lst1 (n0 :: r0) = o1 at *
      generalize ((n0 :: r0).length : Int) = o2 at *
      have hm0 : (0 : Int) ≤ (m : Int) := by omega
      clear hr hm
      go_enter Try.func22, Try.ntmps22
      go_wp2_with (first
        | (go_at_call 83; refine (C _).mono ?_; rintro e w' ⟨rfl, rfl⟩)
        | (go_at_call 84; refine (B _).mono ?_; rintro e w1 ⟨rfl, hb1⟩; have hB1 : Below w.heap.size w w1 := Below.trans (by repeat' (first | exact Below.refl _ _ | assumption | refine Below.alloc ?_ (by first | omega | (simp; done) | (simp; omega)) _ | refine Below.drew ?_ | refine Below.setCell ?_ (by first | omega | (simp; done) | (simp; omega)) _)) (hb1.mono (by first | omega | (simp; done) | (simp; omega))); have hz1 := hB1.size; have hl1_0 : w.heap.size < w1.heap.size := Nat.lt_of_lt_of_le (by first | omega | (simp; done) | (simp; omega)) hb1.size; have q1_00 : w1.cell? ⟨w.heap.size, 0, none⟩ = some (.int .i64 0) := (by rw [hb1.cell (by first | omega | (simp; done) | (simp; omega))]; simp [go_sem, *]); have r1_00 : w1.frozen? ⟨w.heap.size, 0, none⟩ = false := (by rw [hb1.frozen (by first | omega | (simp; done) | (simp; omega))]; simp [go_sem, *]); have q1_01 : w1.cell? ⟨w.heap.size, 1, none⟩ = some (.int .i64 0) := (by rw [hb1.cell (by first | omega | (simp; done) | (simp; omega))]; simp [go_sem, *]); have r1_01 : w1.frozen? ⟨w.heap.size, 1, none⟩ = false := (by rw [hb1.frozen (by first | omega | (simp; done) | (simp; omega))]; simp [go_sem, *]); clear hb1)
        | (go_at_call 85; refine (l06At_any m _ (by omega)).mono ?_; rintro e w2 ⟨rfl, hb2⟩; have hB2 : Below w.heap.size w w2 := Below.trans (by repeat' (first | exact Below.refl _ _ | assumption | refine Below.alloc ?_ (by first | omega | (simp; done) | (simp; omega)) _ | refine Below.drew ?_ | refine Below.setCell ?_ (by first | omega | (simp; done) | (simp; omega)) _)) (hb2.mono (by first | omega | (simp; done) | (simp; omega))); have hz2 := hB2.size; have hl2_0 : w.heap.size < w2.heap.size := Nat.lt_of_lt_of_le (by first | omega | (simp; done) | (simp; omega)) hb2.size; have q2_00 : w2.cell? ⟨w.heap.size, 0, none⟩ = some (.int .i64 0) := (by rw [hb2.cell (by first | omega | (simp; done) | (simp; omega))]; simp [go_sem, *]); have r2_00 : w2.frozen? ⟨w.heap.size, 0, none⟩ = false := (by rw [hb2.frozen (by first | omega | (simp; done) | (simp; omega))]; simp [go_sem, *]); have q2_01 : w2.cell? ⟨w.heap.size, 1, none⟩ = some (.int .i64 0) := (by rw [hb2.cell (by first | omega | (simp; done) | (simp; omega))]; simp [go_sem, *]); have r2_01 : w2.frozen? ⟨w.heap.size, 1, none⟩ = false := (by rw [hb2.frozen (by first | omega | (simp; done) | (simp; omega))]; simp [go_sem, *]); clear hb2))
      exact bodyPost_ret (v := .tuple #[.agg #[.int .i64 (figAt m).1, .int .i64 (figAt m).2], .int .i64 0]) (by simp [results, Try.results22, go_sem, *]) rfl ⟨endFC_of HV.out, by repeat' (first | exact Below.refl _ _ | assumption | refine Below.alloc ?_ (by first | omega | (simp; done) | (simp; omega)) _ | refine Below.drew ?_ | refine Below.setCell ?_ (by first | omega | (simp; done) | (simp; omega)) _)⟩
  · have HV := Lib.hid (show rFirst s len pt eye = ((0, 0), 2) by simp [rFirst, h])
    rw [if_neg h] at C
    clear h
    go_enter Try.func22, Try.ntmps22
    go_wp2_with (first
    | (go_at_call 83; refine (C _).mono ?_; rintro e w' ⟨rfl, rfl⟩))
    exact bodyPost_ret (v := .tuple #[.agg #[.int .i64 0, .int .i64 0], .int .i64 2]) (by simp [results, Try.results22, go_sem, *]) rfl ⟨endFC_of HV.out, by repeat' (first | exact Below.refl _ _ | assumption | refine Below.alloc ?_ (by first | omega | (simp; done) | (simp; omega)) _ | refine Below.drew ?_ | refine Below.setCell ?_ (by first | omega | (simp; done) | (simp; omega)) _)⟩
set_option maxHeartbeats 2000000 in
theorem sLastReading_any (s len pt eye : Int) (w : World) :
    Calls Try.prog 24 #[.int .i64 s, .int .i64 len, .int .i64 pt, .int .i64 eye] w fun e w' => e = .returned (endFC (rLast s len pt eye)) ∧ Below w.heap.size w w' := by
  have C := fun W => l06Code_any s len pt eye W
  by_cases h : ptB s len pt eye = true
  · obtain ⟨⟨s1, s2⟩, ⟨h1, h2⟩, _, h5, h6⟩ := ptB_iff.1 h
    have B := fun W => l06Bounds_any s len pt eye W s1 s2 h1 h2 h5 h6
    rw [if_pos h] at C
    match hr : reads s len pt eye with
    | [] =>
      have HV := Lib.hid (show rLast s len pt eye = ((0, 0), 4) by simp [rLast, h, hr])
      rw [hr] at B
      rw [show hd1 [] = -1 from rfl, show lst1 [] = -1 from rfl] at B
      clear hr
      go_enter Try.func24, Try.ntmps24
      go_wp2_with (first
        | (go_at_call 83; refine (C _).mono ?_; rintro e w' ⟨rfl, rfl⟩)
        | (go_at_call 84; refine (B _).mono ?_; rintro e w1 ⟨rfl, hb1⟩; have hB1 : Below w.heap.size w w1 := Below.trans (by repeat' (first | exact Below.refl _ _ | assumption | refine Below.alloc ?_ (by first | omega | (simp; done) | (simp; omega)) _ | refine Below.drew ?_ | refine Below.setCell ?_ (by first | omega | (simp; done) | (simp; omega)) _)) (hb1.mono (by first | omega | (simp; done) | (simp; omega))); have hz1 := hB1.size; have hl1_0 : w.heap.size < w1.heap.size := Nat.lt_of_lt_of_le (by first | omega | (simp; done) | (simp; omega)) hb1.size; have q1_00 : w1.cell? ⟨w.heap.size, 0, none⟩ = some (.int .i64 0) := (by rw [hb1.cell (by first | omega | (simp; done) | (simp; omega))]; simp [go_sem, *]); have r1_00 : w1.frozen? ⟨w.heap.size, 0, none⟩ = false := (by rw [hb1.frozen (by first | omega | (simp; done) | (simp; omega))]; simp [go_sem, *]); have q1_01 : w1.cell? ⟨w.heap.size, 1, none⟩ = some (.int .i64 0) := (by rw [hb1.cell (by first | omega | (simp; done) | (simp; omega))]; simp [go_sem, *]); have r1_01 : w1.frozen? ⟨w.heap.size, 1, none⟩ = false := (by rw [hb1.frozen (by first | omega | (simp; done) | (simp; omega))]; simp [go_sem, *]); clear hb1))
      exact bodyPost_ret (v := .tuple #[.agg #[.int .i64 0, .int .i64 0], .int .i64 4]) (by simp [results, Try.results24, go_sem, *]) rfl ⟨endFC_of HV.out, by repeat' (first | exact Below.refl _ _ | assumption | refine Below.alloc ?_ (by first | omega | (simp; done) | (simp; omega)) _ | refine Below.drew ?_ | refine Below.setCell ?_ (by first | omega | (simp; done) | (simp; omega)) _)⟩
    | n0 :: r0 =>
      obtain ⟨m, hm⟩ : ∃ m, (n0 :: r0).getLast? = some m := ⟨(n0 :: r0)[r0.length]'(by simp), by rw [List.getLast?_eq_getElem?]; simp⟩
      have HV := Lib.hid (show rLast s len pt eye = (((figAt m).1, (figAt m).2), 0) by simp [rLast, h, hr, hm])
      have hmm : m ≤ 2700 := by
        have hmem : m ∈ reads s len pt eye := by rw [hr]; exact List.mem_of_getLast? hm
        have := readsN_lt hmem
        have := nFigs_bd s
        omega
      rw [hr, show lst1 (n0 :: r0) = (m : Int) by rw [lst1, hm]] at B
      generalize hd1 (n0 :: r0) = o1 at *
      generalize ((n0 :: r0).length : Int) = o2 at *
      have hm0 : (0 : Int) ≤ (m : Int) := by omega
      clear hr hm
      go_enter Try.func24, Try.ntmps24
      go_wp2_with (first
        | (go_at_call 83; refine (C _).mono ?_; rintro e w' ⟨rfl, rfl⟩)
        | (go_at_call 84; refine (B _).mono ?_; rintro e w1 ⟨rfl, hb1⟩; have hB1 : Below w.heap.size w w1 := Below.trans (by repeat' (first | exact Below.refl _ _ | assumption | refine Below.alloc ?_ (by first | omega | (simp; done) | (simp; omega)) _ | refine Below.drew ?_ | refine Below.setCell ?_ (by first | omega | (simp; done) | (simp; omega)) _)) (hb1.mono (by first | omega | (simp; done) | (simp; omega))); have hz1 := hB1.size; have hl1_0 : w.heap.size < w1.heap.size := Nat.lt_of_lt_of_le (by first | omega | (simp; done) | (simp; omega)) hb1.size; have q1_00 : w1.cell? ⟨w.heap.size, 0, none⟩ = some (.int .i64 0) := (by rw [hb1.cell (by first | omega | (simp; done) | (simp; omega))]; simp [go_sem, *]); have r1_00 : w1.frozen? ⟨w.heap.size, 0, none⟩ = false := (by rw [hb1.frozen (by first | omega | (simp; done) | (simp; omega))]; simp [go_sem, *]); have q1_01 : w1.cell? ⟨w.heap.size, 1, none⟩ = some (.int .i64 0) := (by rw [hb1.cell (by first | omega | (simp; done) | (simp; omega))]; simp [go_sem, *]); have r1_01 : w1.frozen? ⟨w.heap.size, 1, none⟩ = false := (by rw [hb1.frozen (by first | omega | (simp; done) | (simp; omega))]; simp [go_sem, *]); clear hb1)
        | (go_at_call 85; refine (l06At_any m _ (by omega)).mono ?_; rintro e w2 ⟨rfl, hb2⟩; have hB2 : Below w.heap.size w w2 := Below.trans (by repeat' (first | exact Below.refl _ _ | assumption | refine Below.alloc ?_ (by first | omega | (simp; done) | (simp; omega)) _ | refine Below.drew ?_ | refine Below.setCell ?_ (by first | omega | (simp; done) | (simp; omega)) _)) (hb2.mono (by first | omega | (simp; done) | (simp; omega))); have hz2 := hB2.size; have hl2_0 : w.heap.size < w2.heap.size := Nat.lt_of_lt_of_le (by first | omega | (simp; done) | (simp; omega)) hb2.size; have q2_00 : w2.cell? ⟨w.heap.size, 0, none⟩ = some (.int .i64 0) := (by rw [hb2.cell (by first | omega | (simp; done) | (simp; omega))]; simp [go_sem, *]); have r2_00 : w2.frozen? ⟨w.heap.size, 0, none⟩ = false := (by rw [hb2.frozen (by first | omega | (simp; done) | (simp; omega))]; simp [go_sem, *]); have q2_01 : w2.cell? ⟨w.heap.size, 1, none⟩ = some (.int .i64 0) := (by rw [hb2.cell (by first | omega | (simp; done) | (simp; omega))]; simp [go_sem, *]); have r2_01 : w2.frozen? ⟨w.heap.size, 1, none⟩ = false := (by rw [hb2.frozen (by first | omega | (simp; done) | (simp; omega))]; simp [go_sem, *]); clear hb2))
      exact bodyPost_ret (v := .tuple #[.agg #[.int .i64 (figAt m).1, .int .i64 (figAt m).2], .int .i64 0]) (by simp [results, Try.results24, go_sem, *]) rfl ⟨endFC_of HV.out, by repeat' (first | exact Below.refl _ _ | assumption | refine Below.alloc ?_ (by first | omega | (simp; done) | (simp; omega)) _ | refine Below.drew ?_ | refine Below.setCell ?_ (by first | omega | (simp; done) | (simp; omega)) _)⟩
  · have HV := Lib.hid (show rLast s len pt eye = ((0, 0), 2) by simp [rLast, h])
    rw [if_neg h] at C
    clear h
    go_enter Try.func24, Try.ntmps24
    go_wp2_with (first
    | (go_at_call 83; refine (C _).mono ?_; rintro e w' ⟨rfl, rfl⟩))
    exact bodyPost_ret (v := .tuple #[.agg #[.int .i64 0, .int .i64 0], .int .i64 2]) (by simp [results, Try.results24, go_sem, *]) rfl ⟨endFC_of HV.out, by repeat' (first | exact Below.refl _ _ | assumption | refine Below.alloc ?_ (by first | omega | (simp; done) | (simp; omega)) _ | refine Below.drew ?_ | refine Below.setCell ?_ (by first | omega | (simp; done) | (simp; omega)) _)⟩
set_option maxHeartbeats 400000 in
theorem eqFigure_same (a b : Int) (w : World) :
    Calls Try.prog 58 #[.agg #[.int .i64 a, .int .i64 b], .agg #[.int .i64 a, .int .i64 b]] w fun e w' => e = .returned (.bool true) ∧ Below w.heap.size w w' := by
  go_enter Try.func58, Try.ntmps58
  go_wp2
  go_ret
  exact ⟨rfl, by repeat' (first | exact Below.refl _ _ | assumption | refine Below.alloc ?_ (by first | omega | (simp; done) | (simp; omega)) _ | refine Below.drew ?_ | refine Below.setCell ?_ (by first | omega | (simp; done) | (simp; omega)) _)⟩
end Go.Proofs.Ythnjiiodpjielaa
