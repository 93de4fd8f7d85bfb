/- Draws of ticks with labels (layer 9). No condition. -/
import Derived.Test.YtpbhncgjnmaojaaGreatDoorDr3
import Derived.Test.YtpbhncgjnmaojaaGreatDoorTick
import Derived.Test.YtpbhncgjnmaojaaGreatDoorLch
namespace Go.Proofs.YtpbhncgjnmaojaaGreatDoor
open Go.RowKit
set_option linter.unusedVariables false
set_option linter.unusedSimpArgs false

/-- a tick drawn -/
def GivesTick (b : Nat) (A : Option Addr) (n c : Nat) (l : List Int) (w : World) (e : Ending) (w' : World) : Prop := ∃ x y z : Int, e = .returned (.agg #[.int .i64 x, .int .i64 y, .int .i64 z]) ∧ I64 x ∧ I64 y ∧ I64 z ∧ Src w' b A n c l ∧ w.grownBy w' (some b)
theorem gAllocBase {w w0 v : World} {b : Nat} (h : w0.grownBy v (some b)) (hw : w.grownBy w0 (some b)) : w.grownBy v (some b) := grownTrans hw h
set_option maxRecDepth 100000 in
set_option maxHeartbeats 8000000 in
theorem l09DrawTick_any (b : Nat) (A : Option Addr) (n c : Nat) (l : List Int) (w : World) (hl : l.length = n) (hn : n ≤ 1048576) (h8 : U8s l) (hS : Src w b A n c l) :
    Calls Tryz.prog 38 #[.pointer (some ⟨b, 0, none⟩)] w (GivesTick b A n c l w) := by
  have yb := hS.inside
  go_enter Tryz.func38, Tryz.ntmps38
  go_wp2_with fail
  have S0 : Src (w.alloc (.cells #[.int .i64 0, .int .i64 0, .int .i64 0] 49)) b A n c l := hS.alloc _
  have hw0 : w.grownBy (w.alloc (.cells #[.int .i64 0, .int .i64 0, .int .i64 0] 49)) (some b) := gAlloc (grownRefl _ _) _
  have x0 : (w.alloc (.cells #[.int .i64 0, .int .i64 0, .int .i64 0] 49)).cell? ⟨w.heap.size, 0, none⟩ = some (.int .i64 0) := by simp [go_sem]
  have x1 : (w.alloc (.cells #[.int .i64 0, .int .i64 0, .int .i64 0] 49)).cell? ⟨w.heap.size, 1, none⟩ = some (.int .i64 0) := by simp [go_sem]
  have x2 : (w.alloc (.cells #[.int .i64 0, .int .i64 0, .int .i64 0] 49)).cell? ⟨w.heap.size, 2, none⟩ = some (.int .i64 0) := by simp [go_sem]
  have f0 : (w.alloc (.cells #[.int .i64 0, .int .i64 0, .int .i64 0] 49)).frozen? ⟨w.heap.size, 0, none⟩ = false := by simp [go_sem]
  have f1 : (w.alloc (.cells #[.int .i64 0, .int .i64 0, .int .i64 0] 49)).frozen? ⟨w.heap.size, 1, none⟩ = false := by simp [go_sem]
  have f2 : (w.alloc (.cells #[.int .i64 0, .int .i64 0, .int .i64 0] 49)).frozen? ⟨w.heap.size, 2, none⟩ = false := by simp [go_sem]
  have hrs : w.heap.size < (w.alloc (.cells #[.int .i64 0, .int .i64 0, .int .i64 0] 49)).heap.size := by simp
  generalize w.alloc (.cells #[.int .i64 0, .int .i64 0, .int .i64 0] 49) = w0 at *
  obtain ⟨r, hre⟩ : ∃ q, w.heap.size = q := ⟨_, rfl⟩
  rw [hre] at x0 x1 x2 f0 f1 f2 hrs yb
  rw [hre]
  have hrb : r ≠ b := by omega
  have KR := Lib.hid (show ∀ W : World, w0.grownBy W (some b) → W.cell? ⟨r, 0, none⟩ = some (.int .i64 0) ∧ W.cell? ⟨r, 1, none⟩ = some (.int .i64 0) ∧ W.cell? ⟨r, 2, none⟩ = some (.int .i64 0) ∧ W.frozen? ⟨r, 0, none⟩ = false ∧ W.frozen? ⟨r, 1, none⟩ = false ∧ W.frozen? ⟨r, 2, none⟩ = false from fun W h => ⟨(gCell h hrs hrb).trans x0, (gCell h hrs hrb).trans x1, (gCell h hrs hrb).trans x2, (gFroz h hrs hrb).trans f0, (gFroz h hrs hrb).trans f1, (gFroz h hrs hrb).trans f2⟩)
  have HRE := Lib.hid hre
  clear x0 x1 x2 f0 f1 f2 hS hre
  refine (l01Next_any _ b A n c l _ hl hn h8 (by repeat' (first | (with_reducible assumption) | (with_reducible refine Src.alloc ?_ _) | (with_reducible refine Src.drew ?_) | (with_reducible refine Src.drewN ?_ _) | (with_reducible refine Src.set ?_ ?_ _) | omega | (simp; done) | (simp; omega)))).mono ?_
  rintro e w1 ⟨v1, rfl, lo1, hi1, S1, g1⟩
  have hv1 : v1 ≤ 8 := by omega
  clear hi1
  have G1 : w0.grownBy w1 (some b) := grownTrans (by repeat' (first | (with_reducible exact grownRefl _ _) | (with_reducible assumption) | (with_reducible refine gAlloc ?_ _) | (with_reducible refine grownDrew ?_) | (with_reducible refine gDrewN ?_ _) | (with_reducible refine gSet ?_ ?_ _) | (left; with_reducible rfl) | (right; first | omega | (simp; done) | (simp; omega)) | (with_reducible refine gBel ?_ (by with_reducible assumption)))) g1
  have y1 := S1.inside
  have z1 := G1.size
  clear g1
  go_wp2_with fail
  refine (l01Next_any _ b A n c l _ hl hn h8 (by repeat' (first | (with_reducible assumption) | (with_reducible refine Src.alloc ?_ _) | (with_reducible refine Src.drew ?_) | (with_reducible refine Src.drewN ?_ _) | (with_reducible refine Src.set ?_ ?_ _) | omega | (simp; done) | (simp; omega)))).mono ?_
  rintro e w2 ⟨v2, rfl, lo2, hi2, S2, g2⟩
  have hv2 : v2 ≤ 89 := by omega
  clear hi2
  have G2 : w0.grownBy w2 (some b) := grownTrans (by repeat' (first | (with_reducible exact grownRefl _ _) | (with_reducible assumption) | (with_reducible refine gAlloc ?_ _) | (with_reducible refine grownDrew ?_) | (with_reducible refine gDrewN ?_ _) | (with_reducible refine gSet ?_ ?_ _) | (left; with_reducible rfl) | (right; first | omega | (simp; done) | (simp; omega)) | (with_reducible refine gBel ?_ (by with_reducible assumption)))) g2
  have y2 := S2.inside
  have z2 := G2.size
  clear g2
  go_wp2_with fail
  refine (l01Next_any _ b A n c l _ hl hn h8 (by repeat' (first | (with_reducible assumption) | (with_reducible refine Src.alloc ?_ _) | (with_reducible refine Src.drew ?_) | (with_reducible refine Src.drewN ?_ _) | (with_reducible refine Src.set ?_ ?_ _) | omega | (simp; done) | (simp; omega)))).mono ?_
  rintro e w3 ⟨v3, rfl, lo3, hi3, S3, g3⟩
  have hv3 : v3 ≤ 179 := by omega
  clear hi3
  have G3 : w0.grownBy w3 (some b) := grownTrans (by repeat' (first | (with_reducible exact grownRefl _ _) | (with_reducible assumption) | (with_reducible refine gAlloc ?_ _) | (with_reducible refine grownDrew ?_) | (with_reducible refine gDrewN ?_ _) | (with_reducible refine gSet ?_ ?_ _) | (left; with_reducible rfl) | (right; first | omega | (simp; done) | (simp; omega)) | (with_reducible refine gBel ?_ (by with_reducible assumption)))) g3
  have y3 := S3.inside
  have z3 := G3.size
  clear g3
  go_wp2_with fail
  refine (l01Next_any _ b A n c l _ hl hn h8 (by repeat' (first | (with_reducible assumption) | (with_reducible refine Src.alloc ?_ _) | (with_reducible refine Src.drew ?_) | (with_reducible refine Src.drewN ?_ _) | (with_reducible refine Src.set ?_ ?_ _) | omega | (simp; done) | (simp; omega)))).mono ?_
  rintro e w4 ⟨v4, rfl, lo4, hi4, S4, g4⟩
  have hv4 : v4 ≤ 899 := by omega
  clear hi4
  have G4 : w0.grownBy w4 (some b) := grownTrans (by repeat' (first | (with_reducible exact grownRefl _ _) | (with_reducible assumption) | (with_reducible refine gAlloc ?_ _) | (with_reducible refine grownDrew ?_) | (with_reducible refine gDrewN ?_ _) | (with_reducible refine gSet ?_ ?_ _) | (left; with_reducible rfl) | (right; first | omega | (simp; done) | (simp; omega)) | (with_reducible refine gBel ?_ (by with_reducible assumption)))) g4
  have y4 := S4.inside
  have z4 := G4.size
  clear g4
  go_wp2_with fail
  refine (l01Pick_any _ _ _ _ b A n c l _ hl hn h8 (by repeat' (first | (with_reducible assumption) | (with_reducible refine Src.alloc ?_ _) | (with_reducible refine Src.drew ?_) | (with_reducible refine Src.drewN ?_ _) | (with_reducible refine Src.set ?_ ?_ _) | omega | (simp; done) | (simp; omega))) (Full.made _ _ _) ?_ ?_ ?_ ?_).mono ?_
  · first | exact nums_3 _ _ _ | exact nums_4 _ _ _ _ | exact nums_5 _ _ _ _ _ | exact nums_6 _ _ _ _ _ _ | exact nums_7 _ _ _ _ _ _ _ | exact nums_8 _ _ _ _ _ _ _ _
  · omega
  · omega
  · omega
  rintro e w5 ⟨v5, rfl, mem5, S5, g5⟩
  have i5 : 1000 ≤ v5 ∧ v5 ≤ 9999 := pick4 (P := fun x => 1000 ≤ x ∧ x ≤ 9999) mem5 (by omega) (by omega) (by omega) (by omega)
  clear mem5
  have G5 : w0.grownBy w5 (some b) := grownTrans (by repeat' (first | (with_reducible exact grownRefl _ _) | (with_reducible assumption) | (with_reducible refine gAlloc ?_ _) | (with_reducible refine grownDrew ?_) | (with_reducible refine gDrewN ?_ _) | (with_reducible refine gSet ?_ ?_ _) | (left; with_reducible rfl) | (right; first | omega | (simp; done) | (simp; omega)) | (with_reducible refine gBel ?_ (by with_reducible assumption)))) g5
  have y5 := S5.inside
  have z5 := G5.size
  clear g5
  go_wp2_with fail
  refine (l01Next_any _ b A n c l _ hl hn h8 (by repeat' (first | (with_reducible assumption) | (with_reducible refine Src.alloc ?_ _) | (with_reducible refine Src.drew ?_) | (with_reducible refine Src.drewN ?_ _) | (with_reducible refine Src.set ?_ ?_ _) | omega | (simp; done) | (simp; omega)))).mono ?_
  rintro e w6 ⟨v6, rfl, lo6, hi6, S6, g6⟩
  have hv6 : v6 ≤ 2499 := by omega
  clear hi6
  have G6 : w0.grownBy w6 (some b) := grownTrans (by repeat' (first | (with_reducible exact grownRefl _ _) | (with_reducible assumption) | (with_reducible refine gAlloc ?_ _) | (with_reducible refine grownDrew ?_) | (with_reducible refine gDrewN ?_ _) | (with_reducible refine gSet ?_ ?_ _) | (left; with_reducible rfl) | (right; first | omega | (simp; done) | (simp; omega)) | (with_reducible refine gBel ?_ (by with_reducible assumption)))) g6
  have y6 := S6.inside
  have z6 := G6.size
  clear g6
  go_wp2_with fail
  obtain ⟨i5a, i5b⟩ := i5
  refine (l08Height_any v5 _ i5a i5b).mono ?_
  rintro e w7 ⟨rfl, hw7⟩
  have S7 : Src w7 b A n c l := by rw [← hw7]; exact S6.alloc _
  have G7 : w0.grownBy w7 (some b) := by rw [← hw7]; exact gAlloc G6 _
  have hh := heightOf_bd v5
  generalize heightOf v5 = hgt at *
  have y7 := S7.inside
  have z7 := G7.size
  clear hw7
  go_wp2_with fail
  have Q1 : Src (w7.alloc (.cells #[.int .i64 v5, .int .i64 v6, .int .i64 hgt] 49)) b A n c l := S7.alloc _
  have Q2 : w0.grownBy (w7.alloc (.cells #[.int .i64 v5, .int .i64 v6, .int .i64 hgt] 49)) (some b) := gAlloc G7 _
  have x0 : (w7.alloc (.cells #[.int .i64 v5, .int .i64 v6, .int .i64 hgt] 49)).cell? ⟨w7.heap.size, 0, none⟩ = some (.int .i64 v5) := by simp [go_sem]
  have f0 : (w7.alloc (.cells #[.int .i64 v5, .int .i64 v6, .int .i64 hgt] 49)).frozen? ⟨w7.heap.size, 0, none⟩ = false := by simp [go_sem]
  have x1 : (w7.alloc (.cells #[.int .i64 v5, .int .i64 v6, .int .i64 hgt] 49)).cell? ⟨w7.heap.size, 1, none⟩ = some (.int .i64 v6) := by simp [go_sem]
  have f1 : (w7.alloc (.cells #[.int .i64 v5, .int .i64 v6, .int .i64 hgt] 49)).frozen? ⟨w7.heap.size, 1, none⟩ = false := by simp [go_sem]
  have x2 : (w7.alloc (.cells #[.int .i64 v5, .int .i64 v6, .int .i64 hgt] 49)).cell? ⟨w7.heap.size, 2, none⟩ = some (.int .i64 hgt) := by simp [go_sem]
  have f2 : (w7.alloc (.cells #[.int .i64 v5, .int .i64 v6, .int .i64 hgt] 49)).frozen? ⟨w7.heap.size, 2, none⟩ = false := by simp [go_sem]
  have hts : w7.heap.size < (w7.alloc (.cells #[.int .i64 v5, .int .i64 v6, .int .i64 hgt] 49)).heap.size := by simp
  have htb : w7.heap.size ≠ b := by omega
  have htr : w7.heap.size ≠ r := by omega
  have htw : w0.heap.size ≤ w7.heap.size := z7
  generalize w7.alloc (.cells #[.int .i64 v5, .int .i64 v6, .int .i64 hgt] 49) = wt at *
  obtain ⟨tb, htbe⟩ : ∃ q, w7.heap.size = q := ⟨_, rfl⟩
  rw [htbe] at x0 x1 x2 f0 f1 f2 hts htb htr htw
  rw [htbe]
  have KT := Lib.hid (show ∀ W : World, wt.grownBy W (some b) → W.cell? ⟨tb, 0, none⟩ = some (.int .i64 v5) ∧ W.cell? ⟨tb, 1, none⟩ = some (.int .i64 v6) ∧ W.cell? ⟨tb, 2, none⟩ = some (.int .i64 hgt) ∧ W.frozen? ⟨tb, 0, none⟩ = false ∧ W.frozen? ⟨tb, 1, none⟩ = false ∧ W.frozen? ⟨tb, 2, none⟩ = false from fun W h => ⟨(gCell h hts htb).trans x0, (gCell h hts htb).trans x1, (gCell h hts htb).trans x2, (gFroz h hts htb).trans f0, (gFroz h hts htb).trans f1, (gFroz h hts htb).trans f2⟩)
  clear x0 x1 x2 f0 f1 f2 htbe S7 G7 G6 S6 z7 y7
  refine (l01Next_any _ b A n c l _ hl hn h8 Q1).mono ?_
  rintro e w8 ⟨v8, rfl, lo8, hi8, S8, g8⟩
  have G8 : w0.grownBy w8 (some b) := grownTrans Q2 g8
  have T8 := g8
  have y8 := S8.inside
  clear g8 hi8 Q1 Q2
  by_cases q0 : v8 = 0
  · have tv0 : (v8 == 0) = true := by rw [beq_iff_eq]; omega
    clear q0
    go_wp2_with fail
    refine (l01Pick_any _ _ _ _ b A n c l _ hl hn h8 (S8.alloc _) (Full.made _ _ _) ?_ ?_ ?_ ?_).mono ?_
    · first | exact nums_3 _ _ _ | exact nums_4 _ _ _ _ | exact nums_5 _ _ _ _ _ | exact nums_6 _ _ _ _ _ _ | exact nums_7 _ _ _ _ _ _ _ | exact nums_8 _ _ _ _ _ _ _ _
    · omega
    · omega
    · omega
    rintro e w9 ⟨v9, rfl, mem9, S9, g9⟩
    have i9 : I64 v9 := pick4 (P := I64) mem9 (by unfold I64; omega) (by unfold I64; omega) (by unfold I64; omega) (by unfold I64; omega)
    have G9 : w0.grownBy w9 (some b) := grownTrans (gAlloc G8 _) g9
    have T9 : wt.grownBy w9 (some b) := grownTrans (gAlloc T8 _) g9
    have y9 := S9.inside
    clear g9 mem9
    obtain ⟨x0, x1, x2, f0, f1, f2⟩ := KT.out w9 T9
    obtain ⟨c0, c1, c2, d0, d1, d2⟩ := KR.out w9 G9
    have lt9 : tb < w9.heap.size := Nat.lt_of_lt_of_le hts T9.size
    have lr9 : r < w9.heap.size := Nat.lt_of_lt_of_le hrs G9.size
    have HG := grownTrans hw0 G9
    have hrw : w.heap.size ≤ r := Nat.le_of_eq HRE.out
    have htw2 : w.heap.size ≤ tb := Nat.le_trans hw0.size htw
    clear G9
    go_wp2_with fail
    refine bodyPost_ret (v := .agg #[.int .i64 v9, .int .i64 v6, .int .i64 hgt]) ?_ rfl ?_
    · simp [results, Tryz.results38, go_sem, *]
    · refine ⟨v9, v6, hgt, rfl, i9, (by unfold I64; omega), (by unfold I64; omega), by repeat' (first | (with_reducible assumption) | (with_reducible refine Src.alloc ?_ _) | (with_reducible refine Src.drew ?_) | (with_reducible refine Src.drewN ?_ _) | (with_reducible refine Src.set ?_ ?_ _) | omega | (simp; done) | (simp; omega)), by repeat' (first | (with_reducible exact grownRefl _ _) | (with_reducible assumption) | (with_reducible refine gAlloc ?_ _) | (with_reducible refine grownDrew ?_) | (with_reducible refine gDrewN ?_ _) | (with_reducible refine gSet ?_ ?_ _) | (left; with_reducible rfl) | (right; first | omega | (simp; done) | (simp; omega)) | (with_reducible refine gBel ?_ (by with_reducible assumption)))⟩
  · by_cases q1 : v8 = 1
    · have tv0 : (v8 == 0) = false := by rw [beq_eq_false_iff_ne]; omega
      have tv1 : (v8 == 1) = true := by rw [beq_iff_eq]; omega
      clear q0 q1
      go_wp2_with fail
      refine (l01Pick_any _ _ _ _ b A n c l _ hl hn h8 (S8.alloc _) (Full.made _ _ _) ?_ ?_ ?_ ?_).mono ?_
      · first | exact nums_3 _ _ _ | exact nums_4 _ _ _ _ | exact nums_5 _ _ _ _ _ | exact nums_6 _ _ _ _ _ _ | exact nums_7 _ _ _ _ _ _ _ | exact nums_8 _ _ _ _ _ _ _ _
      · omega
      · omega
      · omega
      rintro e w9 ⟨v9, rfl, mem9, S9, g9⟩
      have i9 : I64 v9 := pick3 (P := I64) mem9 (by unfold I64; omega) (by unfold I64; omega) (by unfold I64; omega)
      have G9 : w0.grownBy w9 (some b) := grownTrans (gAlloc G8 _) g9
      have T9 : wt.grownBy w9 (some b) := grownTrans (gAlloc T8 _) g9
      have y9 := S9.inside
      clear g9 mem9
      obtain ⟨x0, x1, x2, f0, f1, f2⟩ := KT.out w9 T9
      obtain ⟨c0, c1, c2, d0, d1, d2⟩ := KR.out w9 G9
      have lt9 : tb < w9.heap.size := Nat.lt_of_lt_of_le hts T9.size
      have lr9 : r < w9.heap.size := Nat.lt_of_lt_of_le hrs G9.size
      have HG := grownTrans hw0 G9
      have hrw : w.heap.size ≤ r := Nat.le_of_eq HRE.out
      have htw2 : w.heap.size ≤ tb := Nat.le_trans hw0.size htw
      clear G9
      go_wp2_with fail
      refine bodyPost_ret (v := .agg #[.int .i64 v5, .int .i64 v9, .int .i64 hgt]) ?_ rfl ?_
      · simp [results, Tryz.results38, go_sem, *]
      · refine ⟨v5, v9, hgt, rfl, (by unfold I64; omega), i9, (by unfold I64; omega), by repeat' (first | (with_reducible assumption) | (with_reducible refine Src.alloc ?_ _) | (with_reducible refine Src.drew ?_) | (with_reducible refine Src.drewN ?_ _) | (with_reducible refine Src.set ?_ ?_ _) | omega | (simp; done) | (simp; omega)), by repeat' (first | (with_reducible exact grownRefl _ _) | (with_reducible assumption) | (with_reducible refine gAlloc ?_ _) | (with_reducible refine grownDrew ?_) | (with_reducible refine gDrewN ?_ _) | (with_reducible refine gSet ?_ ?_ _) | (left; with_reducible rfl) | (right; first | omega | (simp; done) | (simp; omega)) | (with_reducible refine gBel ?_ (by with_reducible assumption)))⟩
    · by_cases q2 : v8 = 2
      · have tv0 : (v8 == 0) = false := by rw [beq_eq_false_iff_ne]; omega
        have tv1 : (v8 == 1) = false := by rw [beq_eq_false_iff_ne]; omega
        have tv2 : (v8 == 2) = true := by rw [beq_iff_eq]; omega
        clear q0 q1 q2
        go_wp2_with fail
        refine (l01Next_any _ b A n c l _ hl hn h8 S8).mono ?_
        rintro e w9 ⟨v9, rfl, lo9, hi9, S9, g9⟩
        have G9 : w0.grownBy w9 (some b) := grownTrans G8 g9
        have T9 : wt.grownBy w9 (some b) := grownTrans T8 g9
        have y9 := S9.inside
        clear g9
        obtain ⟨x0, x1, x2, f0, f1, f2⟩ := KT.out w9 T9
        obtain ⟨c0, c1, c2, d0, d1, d2⟩ := KR.out w9 G9
        have lt9 : tb < w9.heap.size := Nat.lt_of_lt_of_le hts T9.size
        have lr9 : r < w9.heap.size := Nat.lt_of_lt_of_le hrs G9.size
        have HG := grownTrans hw0 G9
        have hrw : w.heap.size ≤ r := Nat.le_of_eq HRE.out
        have htw2 : w.heap.size ≤ tb := Nat.le_trans hw0.size htw
        clear G9
        go_wp2_with fail
        refine bodyPost_ret (v := .agg #[.int .i64 v5, .int .i64 v6, .int .i64 (v9 - 1)]) ?_ rfl ?_
        · simp [results, Tryz.results38, go_sem, *]
        · refine ⟨v5, v6, (v9 - 1), rfl, (by unfold I64; omega), (by unfold I64; omega), (by unfold I64; omega), by repeat' (first | (with_reducible assumption) | (with_reducible refine Src.alloc ?_ _) | (with_reducible refine Src.drew ?_) | (with_reducible refine Src.drewN ?_ _) | (with_reducible refine Src.set ?_ ?_ _) | omega | (simp; done) | (simp; omega)), by repeat' (first | (with_reducible exact grownRefl _ _) | (with_reducible assumption) | (with_reducible refine gAlloc ?_ _) | (with_reducible refine grownDrew ?_) | (with_reducible refine gDrewN ?_ _) | (with_reducible refine gSet ?_ ?_ _) | (left; with_reducible rfl) | (right; first | omega | (simp; done) | (simp; omega)) | (with_reducible refine gBel ?_ (by with_reducible assumption)))⟩
      · have tv0 : (v8 == 0) = false := by rw [beq_eq_false_iff_ne]; omega
        have tv1 : (v8 == 1) = false := by rw [beq_eq_false_iff_ne]; omega
        have tv2 : (v8 == 2) = false := by rw [beq_eq_false_iff_ne]; omega
        clear q0 q1 q2
        obtain ⟨x0, x1, x2, f0, f1, f2⟩ := KT.out w8 T8
        obtain ⟨c0, c1, c2, d0, d1, d2⟩ := KR.out w8 G8
        have lt8 : tb < w8.heap.size := Nat.lt_of_lt_of_le hts T8.size
        have lr8 : r < w8.heap.size := Nat.lt_of_lt_of_le hrs G8.size
        have HG := grownTrans hw0 G8
        have hrw : w.heap.size ≤ r := Nat.le_of_eq HRE.out
        have htw2 : w.heap.size ≤ tb := Nat.le_trans hw0.size htw
        clear G8
        go_wp2_with fail
        refine bodyPost_ret (v := .agg #[.int .i64 v5, .int .i64 v6, .int .i64 hgt]) ?_ rfl ?_
        · simp [results, Tryz.results38, go_sem, *]
        · refine ⟨v5, v6, hgt, rfl, (by unfold I64; omega), (by unfold I64; omega), (by unfold I64; omega), by repeat' (first | (with_reducible assumption) | (with_reducible refine Src.alloc ?_ _) | (with_reducible refine Src.drew ?_) | (with_reducible refine Src.drewN ?_ _) | (with_reducible refine Src.set ?_ ?_ _) | omega | (simp; done) | (simp; omega)), by repeat' (first | (with_reducible exact grownRefl _ _) | (with_reducible assumption) | (with_reducible refine gAlloc ?_ _) | (with_reducible refine grownDrew ?_) | (with_reducible refine gDrewN ?_ _) | (with_reducible refine gSet ?_ ?_ _) | (left; with_reducible rfl) | (right; first | omega | (simp; done) | (simp; omega)) | (with_reducible refine gBel ?_ (by with_reducible assumption)))⟩
end Go.Proofs.YtpbhncgjnmaojaaGreatDoor
