/- The best reading: the figure whose place is nearest to a point (layer 6). No condition. -/
import Derived.Test.YthnjiiodpjielaaRd2
import Derived.Test.YthnjiiodpjielaaDr
namespace Go.Proofs.Ythnjiiodpjielaa
open Go.RowKit
set_option linter.unusedVariables false
set_option linter.unusedSimpArgs false

/-- the first number of least worth below N, and its worth (0 and -1 with none) -/
def bst (g : Nat → Int) : Nat → Nat × Int
  | 0 => (0, -1)
  | k + 1 => if (bst g k).2 < 0 ∨ g k < (bst g k).2 then (k, g k) else bst g k
theorem bst_says {g : Nat → Int} (h : ∀ n, 0 ≤ g n) : ∀ N, 0 < N → (bst g N).1 < N ∧ (bst g N).2 = g (bst g N).1 ∧ ∀ n, n < N → g (bst g N).1 ≤ g n
  | 0, h0 => by omega
  | 1, _ => by
    have e : bst g 1 = (0, g 0) := by simp [bst]
    rw [e]
    refine ⟨by omega, rfl, fun n hn => ?_⟩
    obtain rfl : n = 0 := by omega
    exact Int.le_refl _
  | k + 2, _ => by
    obtain ⟨i1, i2, i3⟩ := bst_says h (k + 1) (by omega)
    have i0 := h (bst g (k + 1)).1
    rw [bst]
    split
    · rename_i hc
      refine ⟨by simp, rfl, fun n hn => ?_⟩
      show g (k + 1) ≤ g n
      by_cases e : n = k + 1
      · rw [e]; exact Int.le_refl _
      · have := i3 n (by omega)
        omega
    · rename_i hc
      refine ⟨by omega, i2, fun n hn => ?_⟩
      by_cases e : n = k + 1
      · rw [e]; omega
      · exact i3 n (by omega)
theorem bst_bd {g : Nat → Int} {B : Int} (h : ∀ n, 0 ≤ g n ∧ g n ≤ B) (hB : 0 ≤ B) : ∀ N, -1 ≤ (bst g N).2 ∧ (bst g N).2 ≤ B ∧ (bst g N).1 ≤ N
  | 0 => by simp [bst]; omega
  | k + 1 => by
    have i := bst_bd h hB k
    have := h k
    rw [bst]
    split
    · simp; omega
    · omega
theorem bst_take {g : Nat → Int} {k : Nat} (h : (bst g k).2 < 0 ∨ g k < (bst g k).2) : bst g (k + 1) = (k, g k) := by rw [bst, if_pos h]
theorem bst_keep {g : Nat → Int} {k : Nat} (h : ¬ ((bst g k).2 < 0 ∨ g k < (bst g k).2)) : bst g (k + 1) = bst g k := by rw [bst, if_neg h]
/-- how far the place of a figure (by its number) stands from a point, doubled -/
def away (s len pt : Int) (n : Nat) : Int := max (plL s (figAt n).1 (figAt n).2 len + plU s (figAt n).1 (figAt n).2 len - 2 * pt) (-(plL s (figAt n).1 (figAt n).2 len + plU s (figAt n).1 (figAt n).2 len - 2 * pt))
theorem away_bd {s len pt : Int} (h1 : 1 ≤ len) (h2 : len ≤ 100000) (h3 : 0 ≤ pt) (h4 : pt ≤ len) (n : Nat) : 0 ≤ away s len pt n ∧ away s len pt n ≤ 1000000 := by
  have := pl_bd (s := s) (t := (figAt n).2) (figAt_bd n).1 h1 h2
  unfold away
  omega
def rBest (s len pt : Int) : (Int × Int) × Int := if ptB s len pt 0 = true then (figAt (bst (away s len pt) (nFigs s)).1, 0) else ((0, 0), 2)

/-- what the program's loop holds after k figures -/
def BI (g : Nat → Int) (k : Nat) (x d t : Int) : Prop := x = (bst g k).2 ∧ ((k = 0 ∧ d = 0 ∧ t = 0) ∨ (0 < k ∧ figAt (bst g k).1 = (d, t)))
theorem BI.take {g : Nat → Int} {k : Nat} {x d t : Int} (h : BI g k x d t) (hc : x < 0 ∨ g k < x) {d' t' : Int} (hf : figAt k = (d', t')) : BI g (k + 1) (g k) d' t' := by
  obtain ⟨rfl, _⟩ := h
  rw [BI, bst_take hc]
  exact ⟨rfl, Or.inr ⟨by omega, hf⟩⟩
theorem BI.keep {g : Nat → Int} {k : Nat} {x d t : Int} (h : BI g k x d t) (h1 : ¬ x < 0) (h2 : ¬ g k < x) : BI g (k + 1) x d t := by
  obtain ⟨rfl, h⟩ := h
  rw [BI, bst_keep (by omega)]
  refine ⟨rfl, Or.inr ⟨by omega, ?_⟩⟩
  rcases h with ⟨h, _⟩ | ⟨_, h⟩
  · subst h
    exact absurd (show (bst g 0).2 < 0 by simp [bst]) h1
  · exact h
/-- what the reference's loop holds -/
def BS (g : Nat → Int) (k : Nat) (a : Nat) (x : Int) : Prop := bst g k = (a, x)
theorem BS.take {g : Nat → Int} {k a : Nat} {x : Int} (h : BS g k a x) (hc : x < 0 ∨ g k < x) : BS g (k + 1) k (g k) := by
  rw [BS, bst_take (by rw [h]; exact hc)]
theorem BS.keep {g : Nat → Int} {k a : Nat} {x : Int} (h : BS g k a x) (h1 : ¬ x < 0) (h2 : ¬ g k < x) : BS g (k + 1) a x := by
  rw [BS, bst_keep (by rw [h]; omega)]
  exact h
/-- what stays over a round: the figures, and what is below -/
def InB (w wr : World) (b off N : Nat) (d t : Int) : Prop := SeesAt wr b off (cells2 (figsN N)) ∧ b < wr.heap.size ∧ Below w.heap.size w wr ∧ (wr.cell? ⟨w.heap.size, 0, none⟩ = some (.int .i64 0) ∧ wr.cell? ⟨w.heap.size, 1, none⟩ = some (.int .i64 0) ∧ wr.frozen? ⟨w.heap.size, 0, none⟩ = false ∧ wr.frozen? ⟨w.heap.size, 1, none⟩ = false ∧ wr.cell? ⟨w.heap.size + 1, 0, none⟩ = some (.int .i64 d) ∧ wr.cell? ⟨w.heap.size + 1, 1, none⟩ = some (.int .i64 t) ∧ wr.frozen? ⟨w.heap.size + 1, 0, none⟩ = false ∧ wr.frozen? ⟨w.heap.size + 1, 1, none⟩ = false)
theorem inBest {w wr v : World} {b off N g : Nat} {d t : Int} (hbw2 : w.heap.size + 1 < b) (hSr : SeesAt wr b off (cells2 (figsN N))) (hbr : b < wr.heap.size) (hB : Below w.heap.size w wr) (G : wr.grownBy v (some g)) (hg : g = w.heap.size + 1) (hc : v.cell? ⟨w.heap.size, 0, none⟩ = some (.int .i64 0) ∧ v.cell? ⟨w.heap.size, 1, none⟩ = some (.int .i64 0) ∧ v.frozen? ⟨w.heap.size, 0, none⟩ = false ∧ v.frozen? ⟨w.heap.size, 1, none⟩ = false ∧ v.cell? ⟨w.heap.size + 1, 0, none⟩ = some (.int .i64 d) ∧ v.cell? ⟨w.heap.size + 1, 1, none⟩ = some (.int .i64 t) ∧ v.frozen? ⟨w.heap.size + 1, 0, none⟩ = false ∧ v.frozen? ⟨w.heap.size + 1, 1, none⟩ = false) : InB w v b off N d t := by
  subst hg
  exact ⟨hSr.carry (fun o => gCell G hbr (by omega)), Nat.lt_of_lt_of_le hbr G.size, hB.trans (gBelow G (by omega) hB.size), hc⟩
set_option maxRecDepth 100000 in
set_option maxHeartbeats 4000000 in
theorem bestReading_any (s len pt : Int) (w : World) (s1 : 0 ≤ s) (s2 : s ≤ 5) (h1 : 1 ≤ len) (h2 : len ≤ 100000) (h3 : 0 ≤ pt) (h4 : pt ≤ len) :
    Calls Try.prog 93 #[.int .i64 s, .int .i64 len, .int .i64 pt] w fun e w' => e = .returned (.agg #[.int .i64 (figAt (bst (away s len pt) (nFigs s)).1).1, .int .i64 (figAt (bst (away s len pt) (nFigs s)).1).2]) ∧ Below w.heap.size w w' := by
  have nb := nFigs_bd s
  have FO := fun W => figuresOf_any s W s1 s2
  have AB := fun n => away_bd (s := s) h1 h2 h3 h4 n
  have hout : ∀ x d t, BI (away s len pt) (nFigs s) x d t → ((figAt (bst (away s len pt) (nFigs s)).1).1, (figAt (bst (away s len pt) (nFigs s)).1).2) = (d, t) := by
    intro x d t h
    rcases h.2 with ⟨h, _⟩ | ⟨_, h⟩
    · omega
    · rw [h]
  have hag := Lib.hid (fun n => show away s len pt n = max (plL s (figAt n).1 (figAt n).2 len + plU s (figAt n).1 (figAt n).2 len - 2 * pt) (-(plL s (figAt n).1 (figAt n).2 len + plU s (figAt n).1 (figAt n).2 len - 2 * pt)) from rfl)
  generalize away s len pt = g at *
  generalize (figAt (bst g (nFigs s)).1).1 = rd at *
  generalize (figAt (bst g (nFigs s)).1).2 = rt at *
  have HOUT := Lib.hid hout
  clear hout
  generalize nFigs s = N at *
  go_enter Try.func93, Try.ntmps93
  go_wp2_with fail
  refine (FO _).mono ?_
  rintro e w1 ⟨v, rfl, hownL, b1⟩
  obtain ⟨A, c, rfl⟩ := ownShape hownL
  have B1 : Below w.heap.size w w1 := Below.trans (by repeat' (first | (with_reducible exact Below.refl _ _) | (with_reducible assumption) | (with_reducible refine Below.alloc ?_ ?_ _) | (with_reducible refine Below.drew ?_) | (with_reducible refine belowDraws ?_ _) | (with_reducible refine Below.setCell ?_ ?_ _) | omega | (simp; done) | (simp; omega))) (b1.mono (by simp; omega))
  obtain ⟨b, off, rfl, hbw, hcells⟩ := (Sees.ofOwn hownL).addr (by rw [cells2_length, figsN_length]; omega)
  have hbw2 : w.heap.size + 1 < b := by
    rcases hownL.2 with ⟨h, _⟩ | ⟨g, cap, cur, h, hg, _⟩
    · cases h
    · injection h with h _ _
      injection h with h
      injection h with h
      subst h
      have := hg
      simp at this
      omega
  have hS : SeesAt w1 b off (cells2 (figsN N)) := hcells
  have hc1 : w1.cell? ⟨w.heap.size, 0, none⟩ = some (.int .i64 0) ∧ w1.cell? ⟨w.heap.size, 1, none⟩ = some (.int .i64 0) ∧ w1.frozen? ⟨w.heap.size, 0, none⟩ = false ∧ w1.frozen? ⟨w.heap.size, 1, none⟩ = false ∧ w1.cell? ⟨w.heap.size + 1, 0, none⟩ = some (.int .i64 0) ∧ w1.cell? ⟨w.heap.size + 1, 1, none⟩ = some (.int .i64 0) ∧ w1.frozen? ⟨w.heap.size + 1, 0, none⟩ = false ∧ w1.frozen? ⟨w.heap.size + 1, 1, none⟩ = false := by
    refine ⟨?_, ?_, ?_, ?_, ?_, ?_, ?_, ?_⟩
    · rw [b1.cell (by first | omega | (simp; done) | (simp; omega))]; simp [go_sem]
    · rw [b1.cell (by first | omega | (simp; done) | (simp; omega))]; simp [go_sem]
    · rw [b1.frozen (by first | omega | (simp; done) | (simp; omega))]; simp [go_sem]
    · rw [b1.frozen (by first | omega | (simp; done) | (simp; omega))]; simp [go_sem]
    · rw [b1.cell (by first | omega | (simp; done) | (simp; omega))]; simp [go_sem]
    · rw [b1.cell (by first | omega | (simp; done) | (simp; omega))]; simp [go_sem]
    · rw [b1.frozen (by first | omega | (simp; done) | (simp; omega))]; simp [go_sem]
    · rw [b1.frozen (by first | omega | (simp; done) | (simp; omega))]; simp [go_sem]
  have hz1' := B1.size
  rw [figsN_length]
  clear hownL FO b1 hcells
  go_wp2_with fail
  go_loopw [8, 17] (fun v i wr => ∃ (k : Nat) (x d t : Int), k ≤ N ∧ v = .int .i64 x ∧ i = .int .i64 k ∧ -1 ≤ x ∧ x ≤ 1000000 ∧ BI g k x d t ∧ InB w wr b off N d t) (fun v i _ => N - (intOf i).toNat)
  case atStart => exact ⟨0, -1, 0, 0, Nat.zero_le _, rfl, rfl, by omega, by omega, ⟨rfl, Or.inl ⟨rfl, rfl, rfl⟩⟩, hS, hbw, B1, hc1⟩
  case round =>
    obtain ⟨k, x, d, t, hk, rfl, rfl, x1, x2, hBI, hSr, hbr, hB, z0, z1, z2, z3, z4, z5, z6, z7⟩ := hrel
    have hz := hB.size
    have l1 : w.heap.size < wr.heap.size := by omega
    have l2 : w.heap.size + 1 < wr.heap.size := by omega
    by_cases hlt : k < N
    · obtain ⟨c0, c1⟩ := hSr.two (figsN_at hlt)
      obtain ⟨hd, t0⟩ := figAt_bd k
      have t1 := figAt_tens (n := k) (by omega)
      have HF := Lib.hid (show figAt k = ((figAt k).1, (figAt k).2) from rfl)
      have hak := Lib.hid (hag.out k)
      have ab := AB k
      generalize (figAt k).1 = fd at *
      generalize (figAt k).2 = ft at *
      have L := fun W => place_any s fd ft len W hd (by omega) (by omega) h1 h2
      have bp := pl_bd (s := s) (t := ft) hd h1 h2
      generalize plL s fd ft len = p at *
      generalize plU s fd ft len = q at *
      have DI := fun W => distance_any (p + q) (2 * pt) W (by omega) (by omega) (by omega) (by omega)
      rw [← hak.out] at DI
      have i0' : (0 : Int) ≤ (k : Int) := by omega
      have i1' : (k : Int) < (N : Int) := by omega
      obtain ⟨y, hy⟩ : ∃ y, g k = y := ⟨_, rfl⟩
      rw [hy] at DI ab
      have HY := Lib.hid hy
      clear hy hak
      by_cases hx : x < 0
      · have HQ := Lib.hid (show BI g (k + 1) y fd ft from HY.out ▸ hBI.take (Or.inl hx) HF.out)
        clear HY HF hBI
        go_wp2_with (first
          | (go_at_call 90; (with_reducible refine (L _).mono ?_); rintro e w2 ⟨rfl, hb2⟩; have hB2 : Below wr.heap.size wr w2 := Below.trans (by repeat' (first | exact Below.refl _ _ | assumption | refine Below.alloc ?_ (by first | omega | (simp; done) | (simp; omega)) _ | refine Below.drew ?_ | refine Below.setCell ?_ (by first | omega | (simp; done) | (simp; omega)) _)) (hb2.mono (by first | omega | (simp; done) | (simp; omega))); have hz2 := hB2.size; have hl2_0 : w.heap.size < w2.heap.size := Nat.lt_of_lt_of_le (by first | omega | (simp; done) | (simp; omega)) hb2.size; have q2_00 : w2.cell? ⟨w.heap.size, 0, none⟩ = some (.int .i64 0) := (by rw [hb2.cell (by first | omega | (simp; done) | (simp; omega))]; simp [go_sem, *]); have r2_00 : w2.frozen? ⟨w.heap.size, 0, none⟩ = false := (by rw [hb2.frozen (by first | omega | (simp; done) | (simp; omega))]; simp [go_sem, *]); have q2_01 : w2.cell? ⟨w.heap.size, 1, none⟩ = some (.int .i64 0) := (by rw [hb2.cell (by first | omega | (simp; done) | (simp; omega))]; simp [go_sem, *]); have r2_01 : w2.frozen? ⟨w.heap.size, 1, none⟩ = false := (by rw [hb2.frozen (by first | omega | (simp; done) | (simp; omega))]; simp [go_sem, *]); have hl2_1 : (w.heap.size + 1) < w2.heap.size := Nat.lt_of_lt_of_le (by first | omega | (simp; done) | (simp; omega)) hb2.size; have q2_10 : w2.cell? ⟨(w.heap.size + 1), 0, none⟩ = some (.int .i64 d) := (by rw [hb2.cell (by first | omega | (simp; done) | (simp; omega))]; simp [go_sem, *]); have r2_10 : w2.frozen? ⟨(w.heap.size + 1), 0, none⟩ = false := (by rw [hb2.frozen (by first | omega | (simp; done) | (simp; omega))]; simp [go_sem, *]); have q2_11 : w2.cell? ⟨(w.heap.size + 1), 1, none⟩ = some (.int .i64 t) := (by rw [hb2.cell (by first | omega | (simp; done) | (simp; omega))]; simp [go_sem, *]); have r2_11 : w2.frozen? ⟨(w.heap.size + 1), 1, none⟩ = false := (by rw [hb2.frozen (by first | omega | (simp; done) | (simp; omega))]; simp [go_sem, *]); have hl2_2 : wr.heap.size < w2.heap.size := Nat.lt_of_lt_of_le (by first | omega | (simp; done) | (simp; omega)) hb2.size; have q2_20 : w2.cell? ⟨wr.heap.size, 0, none⟩ = some (.int .i64 fd) := (by rw [hb2.cell (by first | omega | (simp; done) | (simp; omega))]; simp [go_sem, *]); have r2_20 : w2.frozen? ⟨wr.heap.size, 0, none⟩ = false := (by rw [hb2.frozen (by first | omega | (simp; done) | (simp; omega))]; simp [go_sem, *]); have q2_21 : w2.cell? ⟨wr.heap.size, 1, none⟩ = some (.int .i64 ft) := (by rw [hb2.cell (by first | omega | (simp; done) | (simp; omega))]; simp [go_sem, *]); have r2_21 : w2.frozen? ⟨wr.heap.size, 1, none⟩ = false := (by rw [hb2.frozen (by first | omega | (simp; done) | (simp; omega))]; simp [go_sem, *]); clear hb2)
          | (go_at_call 133; refine (DI _).mono ?_; rintro e w' ⟨rfl, rfl⟩))
        go_roundw
        case rel =>
          refine ⟨k + 1, _, _, _, by omega, rfl, by go_num, by omega, by omega, HQ.out, ?_⟩
          refine inBest (w := w) hbw2 hSr hbr hB (g := w.heap.size + 1) ?_ rfl ?_
          · repeat' (first | (with_reducible exact grownRefl _ _) | (with_reducible assumption) | (with_reducible refine gAlloc ?_ _) | (with_reducible refine grownDrew ?_) | (with_reducible refine gDrewN ?_ _) | (with_reducible refine gSet ?_ ?_ _) | (left; with_reducible rfl) | (right; first | omega | (simp; done) | (simp; omega)) | (with_reducible refine gBel ?_ (by with_reducible assumption)))
          · refine ⟨?_, ?_, ?_, ?_, ?_, ?_, ?_, ?_⟩ <;> simp [go_sem, *]
        case measure => simp [intOf]; omega
      · by_cases hx2 : y < x
        · have HQ := Lib.hid (show BI g (k + 1) y fd ft from HY.out ▸ hBI.take (Or.inr (by rw [HY.out]; exact hx2)) HF.out)
          clear HY HF hBI
          go_wp2_with (first
            | (go_at_call 90; (with_reducible refine (L _).mono ?_); rintro e w2 ⟨rfl, hb2⟩; have hB2 : Below wr.heap.size wr w2 := Below.trans (by repeat' (first | exact Below.refl _ _ | assumption | refine Below.alloc ?_ (by first | omega | (simp; done) | (simp; omega)) _ | refine Below.drew ?_ | refine Below.setCell ?_ (by first | omega | (simp; done) | (simp; omega)) _)) (hb2.mono (by first | omega | (simp; done) | (simp; omega))); have hz2 := hB2.size; have hl2_0 : w.heap.size < w2.heap.size := Nat.lt_of_lt_of_le (by first | omega | (simp; done) | (simp; omega)) hb2.size; have q2_00 : w2.cell? ⟨w.heap.size, 0, none⟩ = some (.int .i64 0) := (by rw [hb2.cell (by first | omega | (simp; done) | (simp; omega))]; simp [go_sem, *]); have r2_00 : w2.frozen? ⟨w.heap.size, 0, none⟩ = false := (by rw [hb2.frozen (by first | omega | (simp; done) | (simp; omega))]; simp [go_sem, *]); have q2_01 : w2.cell? ⟨w.heap.size, 1, none⟩ = some (.int .i64 0) := (by rw [hb2.cell (by first | omega | (simp; done) | (simp; omega))]; simp [go_sem, *]); have r2_01 : w2.frozen? ⟨w.heap.size, 1, none⟩ = false := (by rw [hb2.frozen (by first | omega | (simp; done) | (simp; omega))]; simp [go_sem, *]); have hl2_1 : (w.heap.size + 1) < w2.heap.size := Nat.lt_of_lt_of_le (by first | omega | (simp; done) | (simp; omega)) hb2.size; have q2_10 : w2.cell? ⟨(w.heap.size + 1), 0, none⟩ = some (.int .i64 d) := (by rw [hb2.cell (by first | omega | (simp; done) | (simp; omega))]; simp [go_sem, *]); have r2_10 : w2.frozen? ⟨(w.heap.size + 1), 0, none⟩ = false := (by rw [hb2.frozen (by first | omega | (simp; done) | (simp; omega))]; simp [go_sem, *]); have q2_11 : w2.cell? ⟨(w.heap.size + 1), 1, none⟩ = some (.int .i64 t) := (by rw [hb2.cell (by first | omega | (simp; done) | (simp; omega))]; simp [go_sem, *]); have r2_11 : w2.frozen? ⟨(w.heap.size + 1), 1, none⟩ = false := (by rw [hb2.frozen (by first | omega | (simp; done) | (simp; omega))]; simp [go_sem, *]); have hl2_2 : wr.heap.size < w2.heap.size := Nat.lt_of_lt_of_le (by first | omega | (simp; done) | (simp; omega)) hb2.size; have q2_20 : w2.cell? ⟨wr.heap.size, 0, none⟩ = some (.int .i64 fd) := (by rw [hb2.cell (by first | omega | (simp; done) | (simp; omega))]; simp [go_sem, *]); have r2_20 : w2.frozen? ⟨wr.heap.size, 0, none⟩ = false := (by rw [hb2.frozen (by first | omega | (simp; done) | (simp; omega))]; simp [go_sem, *]); have q2_21 : w2.cell? ⟨wr.heap.size, 1, none⟩ = some (.int .i64 ft) := (by rw [hb2.cell (by first | omega | (simp; done) | (simp; omega))]; simp [go_sem, *]); have r2_21 : w2.frozen? ⟨wr.heap.size, 1, none⟩ = false := (by rw [hb2.frozen (by first | omega | (simp; done) | (simp; omega))]; simp [go_sem, *]); clear hb2)
            | (go_at_call 133; refine (DI _).mono ?_; rintro e w' ⟨rfl, rfl⟩))
          go_roundw
          case rel =>
            refine ⟨k + 1, _, _, _, by omega, rfl, by go_num, by omega, by omega, HQ.out, ?_⟩
            refine inBest (w := w) hbw2 hSr hbr hB (g := w.heap.size + 1) ?_ rfl ?_
            · repeat' (first | (with_reducible exact grownRefl _ _) | (with_reducible assumption) | (with_reducible refine gAlloc ?_ _) | (with_reducible refine grownDrew ?_) | (with_reducible refine gDrewN ?_ _) | (with_reducible refine gSet ?_ ?_ _) | (left; with_reducible rfl) | (right; first | omega | (simp; done) | (simp; omega)) | (with_reducible refine gBel ?_ (by with_reducible assumption)))
            · refine ⟨?_, ?_, ?_, ?_, ?_, ?_, ?_, ?_⟩ <;> simp [go_sem, *]
          case measure => simp [intOf]; omega
        · have HQ := Lib.hid (hBI.keep hx (by rw [HY.out]; exact hx2))
          clear HY HF hBI
          go_wp2_with (first
            | (go_at_call 90; (with_reducible refine (L _).mono ?_); rintro e w2 ⟨rfl, hb2⟩; have hB2 : Below wr.heap.size wr w2 := Below.trans (by repeat' (first | exact Below.refl _ _ | assumption | refine Below.alloc ?_ (by first | omega | (simp; done) | (simp; omega)) _ | refine Below.drew ?_ | refine Below.setCell ?_ (by first | omega | (simp; done) | (simp; omega)) _)) (hb2.mono (by first | omega | (simp; done) | (simp; omega))); have hz2 := hB2.size; have hl2_0 : w.heap.size < w2.heap.size := Nat.lt_of_lt_of_le (by first | omega | (simp; done) | (simp; omega)) hb2.size; have q2_00 : w2.cell? ⟨w.heap.size, 0, none⟩ = some (.int .i64 0) := (by rw [hb2.cell (by first | omega | (simp; done) | (simp; omega))]; simp [go_sem, *]); have r2_00 : w2.frozen? ⟨w.heap.size, 0, none⟩ = false := (by rw [hb2.frozen (by first | omega | (simp; done) | (simp; omega))]; simp [go_sem, *]); have q2_01 : w2.cell? ⟨w.heap.size, 1, none⟩ = some (.int .i64 0) := (by rw [hb2.cell (by first | omega | (simp; done) | (simp; omega))]; simp [go_sem, *]); have r2_01 : w2.frozen? ⟨w.heap.size, 1, none⟩ = false := (by rw [hb2.frozen (by first | omega | (simp; done) | (simp; omega))]; simp [go_sem, *]); have hl2_1 : (w.heap.size + 1) < w2.heap.size := Nat.lt_of_lt_of_le (by first | omega | (simp; done) | (simp; omega)) hb2.size; have q2_10 : w2.cell? ⟨(w.heap.size + 1), 0, none⟩ = some (.int .i64 d) := (by rw [hb2.cell (by first | omega | (simp; done) | (simp; omega))]; simp [go_sem, *]); have r2_10 : w2.frozen? ⟨(w.heap.size + 1), 0, none⟩ = false := (by rw [hb2.frozen (by first | omega | (simp; done) | (simp; omega))]; simp [go_sem, *]); have q2_11 : w2.cell? ⟨(w.heap.size + 1), 1, none⟩ = some (.int .i64 t) := (by rw [hb2.cell (by first | omega | (simp; done) | (simp; omega))]; simp [go_sem, *]); have r2_11 : w2.frozen? ⟨(w.heap.size + 1), 1, none⟩ = false := (by rw [hb2.frozen (by first | omega | (simp; done) | (simp; omega))]; simp [go_sem, *]); have hl2_2 : wr.heap.size < w2.heap.size := Nat.lt_of_lt_of_le (by first | omega | (simp; done) | (simp; omega)) hb2.size; have q2_20 : w2.cell? ⟨wr.heap.size, 0, none⟩ = some (.int .i64 fd) := (by rw [hb2.cell (by first | omega | (simp; done) | (simp; omega))]; simp [go_sem, *]); have r2_20 : w2.frozen? ⟨wr.heap.size, 0, none⟩ = false := (by rw [hb2.frozen (by first | omega | (simp; done) | (simp; omega))]; simp [go_sem, *]); have q2_21 : w2.cell? ⟨wr.heap.size, 1, none⟩ = some (.int .i64 ft) := (by rw [hb2.cell (by first | omega | (simp; done) | (simp; omega))]; simp [go_sem, *]); have r2_21 : w2.frozen? ⟨wr.heap.size, 1, none⟩ = false := (by rw [hb2.frozen (by first | omega | (simp; done) | (simp; omega))]; simp [go_sem, *]); clear hb2)
            | (go_at_call 133; refine (DI _).mono ?_; rintro e w' ⟨rfl, rfl⟩))
          go_roundw
          case rel =>
            refine ⟨k + 1, _, _, _, by omega, rfl, by go_num, by omega, by omega, HQ.out, ?_⟩
            refine inBest (w := w) hbw2 hSr hbr hB (g := w.heap.size + 1) ?_ rfl ?_
            · repeat' (first | (with_reducible exact grownRefl _ _) | (with_reducible assumption) | (with_reducible refine gAlloc ?_ _) | (with_reducible refine grownDrew ?_) | (with_reducible refine gDrewN ?_ _) | (with_reducible refine gSet ?_ ?_ _) | (left; with_reducible rfl) | (right; first | omega | (simp; done) | (simp; omega)) | (with_reducible refine gBel ?_ (by with_reducible assumption)))
            · refine ⟨?_, ?_, ?_, ?_, ?_, ?_, ?_, ?_⟩ <;> simp [go_sem, *]
          case measure => simp [intOf]; omega
    · obtain rfl : k = N := by omega
      have hv := HOUT.out _ _ _ hBI
      injection hv with hv1 hv2
      subst hv1 hv2
      clear hBI HOUT
      go_wp2_with fail
      refine bodyPost_ret (v := .agg #[.int .i64 rd, .int .i64 rt]) ?_ rfl ?_
      · simp [results, Try.results93, go_sem, *]
      · exact ⟨rfl, by repeat' (first | (with_reducible exact Below.refl _ _) | (with_reducible assumption) | (with_reducible refine Below.alloc ?_ ?_ _) | (with_reducible refine Below.drew ?_) | (with_reducible refine belowDraws ?_ _) | (with_reducible refine Below.setCell ?_ ?_ _) | omega | (simp; done) | (simp; omega))⟩
set_option maxRecDepth 100000 in
set_option maxHeartbeats 4000000 in
theorem l06Best_any (s len pt : Int) (w : World) (s1 : 0 ≤ s) (s2 : s ≤ 5) (h1 : 1 ≤ len) (h2 : len ≤ 100000) (h3 : 0 ≤ pt) (h4 : pt ≤ len) :
    Calls Try.prog 94 #[.int .i64 s, .int .i64 len, .int .i64 pt] w fun e w' => e = .returned (.agg #[.int .i64 (figAt (bst (away s len pt) (nFigs s)).1).1, .int .i64 (figAt (bst (away s len pt) (nFigs s)).1).2]) ∧ Below w.heap.size w w' := by
  have nb := nFigs_bd s
  obtain ⟨D, hD⟩ : ∃ D : Nat, decades s = (D : Int) := ⟨(decades s).toNat, by have := decades_bd s; omega⟩
  have hD2 : 1 ≤ D ∧ D ≤ 3 := by have := decades_bd s; omega
  have HN := Lib.hid (show nFigs s = 900 * D by unfold nFigs; rw [hD]; rfl)
  have DC := fun W => l05Decades_any s W
  rw [hD] at DC
  clear hD
  have AB := fun n => away_bd (s := s) h1 h2 h3 h4 n
  have hag := Lib.hid (fun n => show away s len pt n = max (plL s (figAt n).1 (figAt n).2 len + plU s (figAt n).1 (figAt n).2 len - 2 * pt) (-(plL s (figAt n).1 (figAt n).2 len + plU s (figAt n).1 (figAt n).2 len - 2 * pt)) from rfl)
  generalize away s len pt = g at *
  have HOUT := Lib.hid (fun a x (h : BS g (nFigs s) a x) => show (bst g (nFigs s)).1 = a by rw [BS] at h; rw [h])
  generalize (bst g (nFigs s)).1 = res at *
  generalize nFigs s = N at *
  go_enter Try.func94, Try.ntmps94
  go_wp2_with fail
  obtain ⟨w0, hw0⟩ : ∃ W : World, (w.alloc (.cells #[.int .i64 0, .int .i64 0] 43)) = W := ⟨_, rfl⟩
  have hz0 : w0.heap.size = w.heap.size + 1 := by rw [← hw0]; simp
  have q0 : w0.cell? ⟨w.heap.size, 0, none⟩ = some (.int .i64 0) := by rw [← hw0]; simp [go_sem]
  have q1 : w0.cell? ⟨w.heap.size, 1, none⟩ = some (.int .i64 0) := by rw [← hw0]; simp [go_sem]
  have q2 : w0.frozen? ⟨w.heap.size, 0, none⟩ = false := by rw [← hw0]; simp [go_sem]
  have q3 : w0.frozen? ⟨w.heap.size, 1, none⟩ = false := by rw [← hw0]; simp [go_sem]
  have BW : Below w.heap.size w w0 := by rw [← hw0]; repeat' (first | (with_reducible exact Below.refl _ _) | (with_reducible assumption) | (with_reducible refine Below.alloc ?_ ?_ _) | (with_reducible refine Below.drew ?_) | (with_reducible refine belowDraws ?_ _) | (with_reducible refine Below.setCell ?_ ?_ _) | omega | (simp; done) | (simp; omega))
  rw [hw0]
  clear hw0
  go_loopw [7, 8, 9] (fun a b i wr => ∃ (k a' : Nat) (x : Int), k ≤ N ∧ a = .int .i64 a' ∧ b = .int .i64 x ∧ i = .int .i64 k ∧ -1 ≤ x ∧ x ≤ 1000000 ∧ a' ≤ N ∧ BS g k a' x ∧ Below w0.heap.size w0 wr) (fun a b i _ => N - (intOf i).toNat)
  case atStart => exact ⟨0, 0, -1, Nat.zero_le _, rfl, rfl, rfl, by omega, by omega, by omega, rfl, Below.refl _ _⟩
  case round =>
    obtain ⟨k, a', x, hk, rfl, rfl, rfl, x1, x2, ha, hBS, hB⟩ := hrel
    have hz := hB.size
    have i1 : (0 : Int) ≤ (k : Int) := by omega
    by_cases hlt : k < N
    · obtain ⟨hd, t0⟩ := figAt_bd k
      have t1 := figAt_tens (n := k) (by omega)
      have i2 : (k : Int) < 900 * (D : Int) := by have := HN.out; omega
      have hak := Lib.hid (hag.out k)
      have ab := AB k
      have PN := fun W => l05Position_any s (figAt k).1 (figAt k).2 W hd (by omega) (by omega)
      have B := p_bd (s := s) (t := (figAt k).2) hd
      have PC := fun W => l05Place_any (pL s (figAt k).1 (figAt k).2) (pU s (figAt k).1 (figAt k).2) len W B.1 B.2.1 B.2.2 h1 h2
      rw [show pL s (figAt k).1 (figAt k).2 * len / 1048576 = plL s (figAt k).1 (figAt k).2 len from rfl, show ceilDiv (pU s (figAt k).1 (figAt k).2 * len) 1048576 = plU s (figAt k).1 (figAt k).2 len from rfl] at PC
      have bp := pl_bd (s := s) (t := (figAt k).2) hd h1 h2
      generalize plL s (figAt k).1 (figAt k).2 len = p at *
      generalize plU s (figAt k).1 (figAt k).2 len = q at *
      have AB1 := fun W => l01Abs_any (p + q - 2 * pt) W (by omega) (by omega)
      rw [← hak.out] at AB1
      obtain ⟨y, hy⟩ : ∃ y, g k = y := ⟨_, rfl⟩
      rw [hy] at AB1 ab
      have HY := Lib.hid hy
      clear hy hak B HN
      by_cases hx : x < 0
      · have HQ := Lib.hid (show BS g (k + 1) k y from HY.out ▸ hBS.take (Or.inl hx))
        clear HY hBS
        go_wp2_with (first
          | (go_at_call 137; refine (DC _).mono ?_; rintro e w' ⟨rfl, rfl⟩)
          | (go_at_call 85; (with_reducible refine (l06At_any k _ (by omega)).mono ?_); rintro e w1 ⟨rfl, hb1⟩; have hB1 : Below w0.heap.size w0 w1 := Below.trans (by repeat' (first | (with_reducible exact Below.refl _ _) | (with_reducible assumption) | (with_reducible refine Below.alloc ?_ ?_ _) | (with_reducible refine Below.drew ?_) | (with_reducible refine belowDraws ?_ _) | (with_reducible refine Below.setCell ?_ ?_ _) | omega | (simp; done) | (simp; omega))) (hb1.mono (by first | omega | (simp; done) | (simp; omega))); have hz1 := hB1.size; clear hb1)
          | (go_at_call 98; (with_reducible refine (PN _).mono ?_); rintro e w2 ⟨rfl, hb2⟩; have hB2 : Below w0.heap.size w0 w2 := Below.trans (by repeat' (first | (with_reducible exact Below.refl _ _) | (with_reducible assumption) | (with_reducible refine Below.alloc ?_ ?_ _) | (with_reducible refine Below.drew ?_) | (with_reducible refine belowDraws ?_ _) | (with_reducible refine Below.setCell ?_ ?_ _) | omega | (simp; done) | (simp; omega))) (hb2.mono (by first | omega | (simp; done) | (simp; omega))); have hz2 := hB2.size; clear hb2)
          | (go_at_call 97; (with_reducible refine (PC _).mono ?_); rintro e w3 ⟨rfl, hb3⟩; have hB3 : Below w0.heap.size w0 w3 := Below.trans (by repeat' (first | (with_reducible exact Below.refl _ _) | (with_reducible assumption) | (with_reducible refine Below.alloc ?_ ?_ _) | (with_reducible refine Below.drew ?_) | (with_reducible refine belowDraws ?_ _) | (with_reducible refine Below.setCell ?_ ?_ _) | omega | (simp; done) | (simp; omega))) (hb3.mono (by first | omega | (simp; done) | (simp; omega))); have hz3 := hB3.size; clear hb3)
          | (go_at_call 136; refine (AB1 _).mono ?_; rintro e w' ⟨rfl, rfl⟩))
        go_roundw
        case rel => exact ⟨k + 1, _, _, by omega, rfl, rfl, by go_num, by omega, by omega, by omega, HQ.out, by repeat' (first | (with_reducible exact Below.refl _ _) | (with_reducible assumption) | (with_reducible refine Below.alloc ?_ ?_ _) | (with_reducible refine Below.drew ?_) | (with_reducible refine belowDraws ?_ _) | (with_reducible refine Below.setCell ?_ ?_ _) | omega | (simp; done) | (simp; omega))⟩
        case measure => simp [intOf]; omega
      · by_cases hx2 : y < x
        · have HQ := Lib.hid (show BS g (k + 1) k y from HY.out ▸ hBS.take (Or.inr (by rw [HY.out]; exact hx2)))
          clear HY hBS
          go_wp2_with (first
            | (go_at_call 137; refine (DC _).mono ?_; rintro e w' ⟨rfl, rfl⟩)
            | (go_at_call 85; (with_reducible refine (l06At_any k _ (by omega)).mono ?_); rintro e w1 ⟨rfl, hb1⟩; have hB1 : Below w0.heap.size w0 w1 := Below.trans (by repeat' (first | (with_reducible exact Below.refl _ _) | (with_reducible assumption) | (with_reducible refine Below.alloc ?_ ?_ _) | (with_reducible refine Below.drew ?_) | (with_reducible refine belowDraws ?_ _) | (with_reducible refine Below.setCell ?_ ?_ _) | omega | (simp; done) | (simp; omega))) (hb1.mono (by first | omega | (simp; done) | (simp; omega))); have hz1 := hB1.size; clear hb1)
            | (go_at_call 98; (with_reducible refine (PN _).mono ?_); rintro e w2 ⟨rfl, hb2⟩; have hB2 : Below w0.heap.size w0 w2 := Below.trans (by repeat' (first | (with_reducible exact Below.refl _ _) | (with_reducible assumption) | (with_reducible refine Below.alloc ?_ ?_ _) | (with_reducible refine Below.drew ?_) | (with_reducible refine belowDraws ?_ _) | (with_reducible refine Below.setCell ?_ ?_ _) | omega | (simp; done) | (simp; omega))) (hb2.mono (by first | omega | (simp; done) | (simp; omega))); have hz2 := hB2.size; clear hb2)
            | (go_at_call 97; (with_reducible refine (PC _).mono ?_); rintro e w3 ⟨rfl, hb3⟩; have hB3 : Below w0.heap.size w0 w3 := Below.trans (by repeat' (first | (with_reducible exact Below.refl _ _) | (with_reducible assumption) | (with_reducible refine Below.alloc ?_ ?_ _) | (with_reducible refine Below.drew ?_) | (with_reducible refine belowDraws ?_ _) | (with_reducible refine Below.setCell ?_ ?_ _) | omega | (simp; done) | (simp; omega))) (hb3.mono (by first | omega | (simp; done) | (simp; omega))); have hz3 := hB3.size; clear hb3)
            | (go_at_call 136; refine (AB1 _).mono ?_; rintro e w' ⟨rfl, rfl⟩))
          go_roundw
          case rel => exact ⟨k + 1, _, _, by omega, rfl, rfl, by go_num, by omega, by omega, by omega, HQ.out, by repeat' (first | (with_reducible exact Below.refl _ _) | (with_reducible assumption) | (with_reducible refine Below.alloc ?_ ?_ _) | (with_reducible refine Below.drew ?_) | (with_reducible refine belowDraws ?_ _) | (with_reducible refine Below.setCell ?_ ?_ _) | omega | (simp; done) | (simp; omega))⟩
          case measure => simp [intOf]; omega
        · have HQ := Lib.hid (hBS.keep hx (by rw [HY.out]; exact hx2))
          clear HY hBS
          go_wp2_with (first
            | (go_at_call 137; refine (DC _).mono ?_; rintro e w' ⟨rfl, rfl⟩)
            | (go_at_call 85; (with_reducible refine (l06At_any k _ (by omega)).mono ?_); rintro e w1 ⟨rfl, hb1⟩; have hB1 : Below w0.heap.size w0 w1 := Below.trans (by repeat' (first | (with_reducible exact Below.refl _ _) | (with_reducible assumption) | (with_reducible refine Below.alloc ?_ ?_ _) | (with_reducible refine Below.drew ?_) | (with_reducible refine belowDraws ?_ _) | (with_reducible refine Below.setCell ?_ ?_ _) | omega | (simp; done) | (simp; omega))) (hb1.mono (by first | omega | (simp; done) | (simp; omega))); have hz1 := hB1.size; clear hb1)
            | (go_at_call 98; (with_reducible refine (PN _).mono ?_); rintro e w2 ⟨rfl, hb2⟩; have hB2 : Below w0.heap.size w0 w2 := Below.trans (by repeat' (first | (with_reducible exact Below.refl _ _) | (with_reducible assumption) | (with_reducible refine Below.alloc ?_ ?_ _) | (with_reducible refine Below.drew ?_) | (with_reducible refine belowDraws ?_ _) | (with_reducible refine Below.setCell ?_ ?_ _) | omega | (simp; done) | (simp; omega))) (hb2.mono (by first | omega | (simp; done) | (simp; omega))); have hz2 := hB2.size; clear hb2)
            | (go_at_call 97; (with_reducible refine (PC _).mono ?_); rintro e w3 ⟨rfl, hb3⟩; have hB3 : Below w0.heap.size w0 w3 := Below.trans (by repeat' (first | (with_reducible exact Below.refl _ _) | (with_reducible assumption) | (with_reducible refine Below.alloc ?_ ?_ _) | (with_reducible refine Below.drew ?_) | (with_reducible refine belowDraws ?_ _) | (with_reducible refine Below.setCell ?_ ?_ _) | omega | (simp; done) | (simp; omega))) (hb3.mono (by first | omega | (simp; done) | (simp; omega))); have hz3 := hB3.size; clear hb3)
            | (go_at_call 136; refine (AB1 _).mono ?_; rintro e w' ⟨rfl, rfl⟩))
          go_roundw
          case rel => exact ⟨k + 1, _, _, by omega, rfl, rfl, by go_num, by omega, by omega, by omega, HQ.out, by repeat' (first | (with_reducible exact Below.refl _ _) | (with_reducible assumption) | (with_reducible refine Below.alloc ?_ ?_ _) | (with_reducible refine Below.drew ?_) | (with_reducible refine belowDraws ?_ _) | (with_reducible refine Below.setCell ?_ ?_ _) | omega | (simp; done) | (simp; omega))⟩
          case measure => simp [intOf]; omega
    · obtain rfl : k = N := by omega
      have hv := HOUT.out _ _ hBS
      subst hv
      have i2 : ¬ (k : Int) < 900 * (D : Int) := by have := HN.out; omega
      clear hBS HOUT HN hlt
      have f0 : wr.frozen? ⟨w.heap.size, 0, none⟩ = false := (hB.frozen (by first | omega | (simp; done) | (simp; omega))).trans q2
      have f1 : wr.frozen? ⟨w.heap.size, 1, none⟩ = false := (hB.frozen (by first | omega | (simp; done) | (simp; omega))).trans q3
      have f2 : wr.cell? ⟨w.heap.size, 0, none⟩ = some (.int .i64 0) := (hB.cell (by first | omega | (simp; done) | (simp; omega))).trans q0
      have f3 : wr.cell? ⟨w.heap.size, 1, none⟩ = some (.int .i64 0) := (hB.cell (by first | omega | (simp; done) | (simp; omega))).trans q1
      have hzr : w.heap.size < wr.heap.size := by omega
      have BR : Below w.heap.size w wr := BW.trans (hB.mono (by omega))
      go_wp2_with (first
        | (go_at_call 137; refine (DC _).mono ?_; rintro e w' ⟨rfl, rfl⟩))
      refine (l06At_any _ _ (by omega)).mono ?_
      rintro e w1 ⟨rfl, hb1⟩
      have g0 : w1.frozen? ⟨w.heap.size, 0, none⟩ = false := (hb1.frozen (by first | omega | (simp; done) | (simp; omega))).trans f0
      have g1 : w1.frozen? ⟨w.heap.size, 1, none⟩ = false := (hb1.frozen (by first | omega | (simp; done) | (simp; omega))).trans f1
      have g2 : w1.cell? ⟨w.heap.size, 0, none⟩ = some (.int .i64 0) := (hb1.cell (by first | omega | (simp; done) | (simp; omega))).trans f2
      have g3 : w1.cell? ⟨w.heap.size, 1, none⟩ = some (.int .i64 0) := (hb1.cell (by first | omega | (simp; done) | (simp; omega))).trans f3
      have hl : w.heap.size < w1.heap.size := Nat.lt_of_lt_of_le hzr hb1.size
      have B1 : Below w.heap.size w w1 := BR.trans (hb1.mono (by omega))
      go_wp2_with fail
      refine bodyPost_ret (v := .agg #[.int .i64 (figAt res).1, .int .i64 (figAt res).2]) ?_ rfl ?_
      · simp [results, Try.results94, go_sem, *]
      · exact ⟨rfl, by repeat' (first | (with_reducible exact Below.refl _ _) | (with_reducible assumption) | (with_reducible refine Below.alloc ?_ ?_ _) | (with_reducible refine Below.drew ?_) | (with_reducible refine belowDraws ?_ _) | (with_reducible refine Below.setCell ?_ ?_ _) | omega | (simp; done) | (simp; omega))⟩
set_option maxHeartbeats 2000000 in
theorem iBestReading_any (s len pt : Int) (w : World) :
    Calls Try.prog 34 #[.int .i64 s, .int .i64 len, .int .i64 pt] w fun e w' => e = .returned (endFC (rBest s len pt)) ∧ Below w.heap.size w w' := by
  have IP := fun W => isPoint_any s len pt 0 W
  by_cases h : ptB s len pt 0 = true
  · obtain ⟨⟨s1, s2⟩, ⟨h1, h2⟩, ⟨h3, h4⟩, _, _⟩ := ptB_iff.1 h
    have BR := fun W => bestReading_any s len pt W s1 s2 h1 h2 h3 h4
    have HV := Lib.hid (show rBest s len pt = (((figAt (bst (away s len pt) (nFigs s)).1).1, (figAt (bst (away s len pt) (nFigs s)).1).2), 0) by rw [rBest, if_pos h])
    rw [h] at IP
    generalize (figAt (bst (away s len pt) (nFigs s)).1).1 = rd at *
    generalize (figAt (bst (away s len pt) (nFigs s)).1).2 = rt at *
    clear h
    go_enter Try.func34, Try.ntmps34
    go_wp2_with (first
      | (go_at_call 86; refine (IP _).mono ?_; rintro e w' ⟨rfl, rfl⟩)
      | (go_at_call 93; refine (BR _).mono ?_; rintro e w1 ⟨rfl, hb1⟩; have hB1 : Below w.heap.size w w1 := Below.trans (by repeat' (first | exact Below.refl _ _ | assumption | refine Below.alloc ?_ (by first | omega | (simp; done) | (simp; omega)) _ | refine Below.drew ?_ | refine Below.setCell ?_ (by first | omega | (simp; done) | (simp; omega)) _)) (hb1.mono (by first | omega | (simp; done) | (simp; omega))); have hz1 := hB1.size; have hl1_0 : w.heap.size < w1.heap.size := Nat.lt_of_lt_of_le (by first | omega | (simp; done) | (simp; omega)) hb1.size; have q1_00 : w1.cell? ⟨w.heap.size, 0, none⟩ = some (.int .i64 0) := (by rw [hb1.cell (by first | omega | (simp; done) | (simp; omega))]; simp [go_sem, *]); have r1_00 : w1.frozen? ⟨w.heap.size, 0, none⟩ = false := (by rw [hb1.frozen (by first | omega | (simp; done) | (simp; omega))]; simp [go_sem, *]); have q1_01 : w1.cell? ⟨w.heap.size, 1, none⟩ = some (.int .i64 0) := (by rw [hb1.cell (by first | omega | (simp; done) | (simp; omega))]; simp [go_sem, *]); have r1_01 : w1.frozen? ⟨w.heap.size, 1, none⟩ = false := (by rw [hb1.frozen (by first | omega | (simp; done) | (simp; omega))]; simp [go_sem, *]); clear hb1))
    exact bodyPost_ret (v := .tuple #[.agg #[.int .i64 rd, .int .i64 rt], .int .i64 0]) (by simp [results, Try.results34, go_sem, *]) rfl ⟨endFC_of HV.out, by repeat' (first | (with_reducible exact Below.refl _ _) | (with_reducible assumption) | (with_reducible refine Below.alloc ?_ ?_ _) | (with_reducible refine Below.drew ?_) | (with_reducible refine belowDraws ?_ _) | (with_reducible refine Below.setCell ?_ ?_ _) | omega | (simp; done) | (simp; omega))⟩
  · have HV := Lib.hid (show rBest s len pt = ((0, 0), 2) by rw [rBest, if_neg h])
    rw [show ptB s len pt 0 = false by simpa using h] at IP
    clear h
    go_enter Try.func34, Try.ntmps34
    go_wp2_with (first
      | (go_at_call 86; refine (IP _).mono ?_; rintro e w' ⟨rfl, rfl⟩))
    exact bodyPost_ret (v := .tuple #[.agg #[.int .i64 0, .int .i64 0], .int .i64 2]) (by simp [results, Try.results34, go_sem, *]) rfl ⟨endFC_of HV.out, by repeat' (first | (with_reducible exact Below.refl _ _) | (with_reducible assumption) | (with_reducible refine Below.alloc ?_ ?_ _) | (with_reducible refine Below.drew ?_) | (with_reducible refine belowDraws ?_ _) | (with_reducible refine Below.setCell ?_ ?_ _) | omega | (simp; done) | (simp; omega))⟩
set_option maxHeartbeats 2000000 in
theorem sBestReading_any (s len pt : Int) (w : World) :
    Calls Try.prog 35 #[.int .i64 s, .int .i64 len, .int .i64 pt] w fun e w' => e = .returned (endFC (rBest s len pt)) ∧ Below w.heap.size w w' := by
  have IP := fun W => l06Code_any s len pt 0 W
  by_cases h : ptB s len pt 0 = true
  · obtain ⟨⟨s1, s2⟩, ⟨h1, h2⟩, ⟨h3, h4⟩, _, _⟩ := ptB_iff.1 h
    have BR := fun W => l06Best_any s len pt W s1 s2 h1 h2 h3 h4
    have HV := Lib.hid (show rBest s len pt = (((figAt (bst (away s len pt) (nFigs s)).1).1, (figAt (bst (away s len pt) (nFigs s)).1).2), 0) by rw [rBest, if_pos h])
    rw [if_pos h] at IP
    generalize (figAt (bst (away s len pt) (nFigs s)).1).1 = rd at *
    generalize (figAt (bst (away s len pt) (nFigs s)).1).2 = rt at *
    clear h
    go_enter Try.func35, Try.ntmps35
    go_wp2_with (first
      | (go_at_call 83; refine (IP _).mono ?_; rintro e w' ⟨rfl, rfl⟩)
      | (go_at_call 94; refine (BR _).mono ?_; rintro e w1 ⟨rfl, hb1⟩; have hB1 : Below w.heap.size w w1 := Below.trans (by repeat' (first | exact Below.refl _ _ | assumption | refine Below.alloc ?_ (by first | omega | (simp; done) | (simp; omega)) _ | refine Below.drew ?_ | refine Below.setCell ?_ (by first | omega | (simp; done) | (simp; omega)) _)) (hb1.mono (by first | omega | (simp; done) | (simp; omega))); have hz1 := hB1.size; have hl1_0 : w.heap.size < w1.heap.size := Nat.lt_of_lt_of_le (by first | omega | (simp; done) | (simp; omega)) hb1.size; have q1_00 : w1.cell? ⟨w.heap.size, 0, none⟩ = some (.int .i64 0) := (by rw [hb1.cell (by first | omega | (simp; done) | (simp; omega))]; simp [go_sem, *]); have r1_00 : w1.frozen? ⟨w.heap.size, 0, none⟩ = false := (by rw [hb1.frozen (by first | omega | (simp; done) | (simp; omega))]; simp [go_sem, *]); have q1_01 : w1.cell? ⟨w.heap.size, 1, none⟩ = some (.int .i64 0) := (by rw [hb1.cell (by first | omega | (simp; done) | (simp; omega))]; simp [go_sem, *]); have r1_01 : w1.frozen? ⟨w.heap.size, 1, none⟩ = false := (by rw [hb1.frozen (by first | omega | (simp; done) | (simp; omega))]; simp [go_sem, *]); clear hb1))
    exact bodyPost_ret (v := .tuple #[.agg #[.int .i64 rd, .int .i64 rt], .int .i64 0]) (by simp [results, Try.results35, go_sem, *]) rfl ⟨endFC_of HV.out, by repeat' (first | (with_reducible exact Below.refl _ _) | (with_reducible assumption) | (with_reducible refine Below.alloc ?_ ?_ _) | (with_reducible refine Below.drew ?_) | (with_reducible refine belowDraws ?_ _) | (with_reducible refine Below.setCell ?_ ?_ _) | omega | (simp; done) | (simp; omega))⟩
  · have HV := Lib.hid (show rBest s len pt = ((0, 0), 2) by rw [rBest, if_neg h])
    rw [if_neg h] at IP
    clear h
    go_enter Try.func35, Try.ntmps35
    go_wp2_with (first
      | (go_at_call 83; refine (IP _).mono ?_; rintro e w' ⟨rfl, rfl⟩))
    exact bodyPost_ret (v := .tuple #[.agg #[.int .i64 0, .int .i64 0], .int .i64 2]) (by simp [results, Try.results35, go_sem, *]) rfl ⟨endFC_of HV.out, by repeat' (first | (with_reducible exact Below.refl _ _) | (with_reducible assumption) | (with_reducible refine Below.alloc ?_ ?_ _) | (with_reducible refine Below.drew ?_) | (with_reducible refine belowDraws ?_ _) | (with_reducible refine Below.setCell ?_ ?_ _) | omega | (simp; done) | (simp; omega))⟩
end Go.Proofs.Ythnjiiodpjielaa
