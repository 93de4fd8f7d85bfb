/- Draws of pairs of ticks, of tables of a proof (layer 9). No condition. -/
import Derived.Test.YtpbhncgjnmaojaaDoorDrM
namespace Go.Proofs.YtpbhncgjnmaojaaDoor
open Go.RowKit
set_option linter.unusedVariables false
set_option linter.unusedSimpArgs false

theorem i64_wrap (x : Int) : I64 (IntKind.i64.wrap x) := by
  have h := IntKind.i64.wrap x
  unfold I64 IntKind.wrap
  simp [IntKind.bits, IntKind.signed]
  omega
/-- two ticks drawn -/
def GivesT2 (w : World) (e : Ending) (w' : World) : Prop := ∃ x y z x' y' z' : Int, e = .returned (.tuple #[.agg #[.int .i64 x, .int .i64 y, .int .i64 z], .agg #[.int .i64 x', .int .i64 y', .int .i64 z']]) ∧ I64 x ∧ I64 y ∧ I64 z ∧ I64 x' ∧ I64 y' ∧ I64 z' ∧ Below w.heap.size w w'
set_option maxRecDepth 100000 in
set_option maxHeartbeats 4000000 in
theorem DrawDoCollide_any (A : Option Addr) (n c : Nat) (l : List Int) (w : World) (hl : l.length = n) (hn : n ≤ 1048576) (h8 : U8s l) (hs : Sees w w.heap.size A (l.map (Value.int .u8))) :
    Calls Tryd.prog 35 #[.slice A n c] w (GivesT2 w) := by
  go_enter Tryd.func35, Tryd.ntmps35
  go_wp2_with fail
  refine (l01From_any A n c l _ hl hn h8 ?_).mono ?_
  · exact (hs.over (by repeat' (first | exact Below.refl _ _ | assumption | refine Below.alloc ?_ (by first | omega | (simp; done) | (simp; omega)) _ | refine Below.drew ?_ | refine Below.setCell ?_ (by first | omega | (simp; done) | (simp; omega)) _))).wider (by first | omega | (simp; done) | (simp; omega))
  rintro e w0 ⟨b, rfl, hb0, S0, B0⟩
  have hb : w.heap.size + 2 ≤ b := by first | omega | (simp at hb0; omega)
  have cl0 : w.heap.size < w0.heap.size := Nat.lt_of_lt_of_le (by first | omega | (simp; done) | (simp; omega)) B0.size
  have cn0 : w.heap.size ≠ b := by omega
  have cb00 : w0.cell? ⟨w.heap.size, 0, none⟩ = some (.int .i64 0) := (by rw [B0.cell (by first | omega | (simp; done) | (simp; omega))]; simp [go_sem])
  have cf00 : w0.frozen? ⟨w.heap.size, 0, none⟩ = false := (by rw [B0.frozen (by first | omega | (simp; done) | (simp; omega))]; simp [go_sem])
  have cb01 : w0.cell? ⟨w.heap.size, 1, none⟩ = some (.int .i64 0) := (by rw [B0.cell (by first | omega | (simp; done) | (simp; omega))]; simp [go_sem])
  have cf01 : w0.frozen? ⟨w.heap.size, 1, none⟩ = false := (by rw [B0.frozen (by first | omega | (simp; done) | (simp; omega))]; simp [go_sem])
  have cb02 : w0.cell? ⟨w.heap.size, 2, none⟩ = some (.int .i64 0) := (by rw [B0.cell (by first | omega | (simp; done) | (simp; omega))]; simp [go_sem])
  have cf02 : w0.frozen? ⟨w.heap.size, 2, none⟩ = false := (by rw [B0.frozen (by first | omega | (simp; done) | (simp; omega))]; simp [go_sem])
  have cl1 : (w.heap.size + 1) < w0.heap.size := Nat.lt_of_lt_of_le (by first | omega | (simp; done) | (simp; omega)) B0.size
  have cn1 : (w.heap.size + 1) ≠ b := by omega
  have cb10 : w0.cell? ⟨(w.heap.size + 1), 0, none⟩ = some (.int .i64 0) := (by rw [B0.cell (by first | omega | (simp; done) | (simp; omega))]; simp [go_sem])
  have cf10 : w0.frozen? ⟨(w.heap.size + 1), 0, none⟩ = false := (by rw [B0.frozen (by first | omega | (simp; done) | (simp; omega))]; simp [go_sem])
  have cb11 : w0.cell? ⟨(w.heap.size + 1), 1, none⟩ = some (.int .i64 0) := (by rw [B0.cell (by first | omega | (simp; done) | (simp; omega))]; simp [go_sem])
  have cf11 : w0.frozen? ⟨(w.heap.size + 1), 1, none⟩ = false := (by rw [B0.frozen (by first | omega | (simp; done) | (simp; omega))]; simp [go_sem])
  have cb12 : w0.cell? ⟨(w.heap.size + 1), 2, none⟩ = some (.int .i64 0) := (by rw [B0.cell (by first | omega | (simp; done) | (simp; omega))]; simp [go_sem])
  have cf12 : w0.frozen? ⟨(w.heap.size + 1), 2, none⟩ = false := (by rw [B0.frozen (by first | omega | (simp; done) | (simp; omega))]; simp [go_sem])
  have y0 := S0.inside
  replace B0 : Below w.heap.size w w0 := Below.trans (by repeat' (first | exact Below.refl _ _ | assumption | refine Below.alloc ?_ (by first | omega | (simp; done) | (simp; omega)) _ | refine Below.drew ?_ | refine Below.setCell ?_ (by first | omega | (simp; done) | (simp; omega)) _)) (B0.mono (by first | omega | (simp; done) | (simp; omega)))
  have z0 := B0.size
  have hbw : w.heap.size ≤ b := by omega
  clear hb0 hs
  go_wp2_with fail
  refine (l09DrawTick_any b A n c l _ hl hn h8 S0).mono ?_
  rintro e w1 ⟨x, y, z, rfl, i1, i2, i3, S1, G1⟩
  have I1 := Lib.hid (And.intro i1 (And.intro i2 i3))
  have y1 := S1.inside
  have z1 := G1.size
  clear i1 i2 i3
  go_wp2_with fail
  have Q1 : Src (w1.alloc (.cells #[.int .i64 x, .int .i64 y, .int .i64 z] 26)) b A n c l := S1.alloc _
  have P1 : w0.grownBy (w1.alloc (.cells #[.int .i64 x, .int .i64 y, .int .i64 z] 26)) (some b) := gAlloc G1 _
  have x10 : (w1.alloc (.cells #[.int .i64 x, .int .i64 y, .int .i64 z] 26)).cell? ⟨w1.heap.size, 0, none⟩ = some (.int .i64 x) := by simp [go_sem]
  have x11 : (w1.alloc (.cells #[.int .i64 x, .int .i64 y, .int .i64 z] 26)).cell? ⟨w1.heap.size, 1, none⟩ = some (.int .i64 y) := by simp [go_sem]
  have x12 : (w1.alloc (.cells #[.int .i64 x, .int .i64 y, .int .i64 z] 26)).cell? ⟨w1.heap.size, 2, none⟩ = some (.int .i64 z) := by simp [go_sem]
  have f10 : (w1.alloc (.cells #[.int .i64 x, .int .i64 y, .int .i64 z] 26)).frozen? ⟨w1.heap.size, 0, none⟩ = false := by simp [go_sem]
  have f11 : (w1.alloc (.cells #[.int .i64 x, .int .i64 y, .int .i64 z] 26)).frozen? ⟨w1.heap.size, 1, none⟩ = false := by simp [go_sem]
  have f12 : (w1.alloc (.cells #[.int .i64 x, .int .i64 y, .int .i64 z] 26)).frozen? ⟨w1.heap.size, 2, none⟩ = false := by simp [go_sem]
  have hts1 : w1.heap.size < (w1.alloc (.cells #[.int .i64 x, .int .i64 y, .int .i64 z] 26)).heap.size := by simp
  have htb1 : w1.heap.size ≠ b := by omega
  have htw1 : w0.heap.size ≤ w1.heap.size := z1
  generalize w1.alloc (.cells #[.int .i64 x, .int .i64 y, .int .i64 z] 26) = wt1 at *
  obtain ⟨ta, hte1⟩ : ∃ q, w1.heap.size = q := ⟨_, rfl⟩
  rw [hte1] at x10 x11 x12 f10 f11 f12 hts1 htb1 htw1
  rw [hte1]
  have yt1 := Q1.inside
  clear S1 G1 y1 z1 hte1
  refine (l09DrawTick_any b A n c l _ hl hn h8 Q1).mono ?_
  rintro e w2 ⟨x', y', z', rfl, i1, i2, i3, S2, G2⟩
  have I2 := Lib.hid (And.intro i1 (And.intro i2 i3))
  have y2 := S2.inside
  have z2 := G2.size
  clear i1 i2 i3
  go_wp2_with fail
  have Q2 : Src (w2.alloc (.cells #[.int .i64 x', .int .i64 y', .int .i64 z'] 26)) b A n c l := S2.alloc _
  have P2 : wt1.grownBy (w2.alloc (.cells #[.int .i64 x', .int .i64 y', .int .i64 z'] 26)) (some b) := gAlloc G2 _
  have x20 : (w2.alloc (.cells #[.int .i64 x', .int .i64 y', .int .i64 z'] 26)).cell? ⟨w2.heap.size, 0, none⟩ = some (.int .i64 x') := by simp [go_sem]
  have x21 : (w2.alloc (.cells #[.int .i64 x', .int .i64 y', .int .i64 z'] 26)).cell? ⟨w2.heap.size, 1, none⟩ = some (.int .i64 y') := by simp [go_sem]
  have x22 : (w2.alloc (.cells #[.int .i64 x', .int .i64 y', .int .i64 z'] 26)).cell? ⟨w2.heap.size, 2, none⟩ = some (.int .i64 z') := by simp [go_sem]
  have f20 : (w2.alloc (.cells #[.int .i64 x', .int .i64 y', .int .i64 z'] 26)).frozen? ⟨w2.heap.size, 0, none⟩ = false := by simp [go_sem]
  have f21 : (w2.alloc (.cells #[.int .i64 x', .int .i64 y', .int .i64 z'] 26)).frozen? ⟨w2.heap.size, 1, none⟩ = false := by simp [go_sem]
  have f22 : (w2.alloc (.cells #[.int .i64 x', .int .i64 y', .int .i64 z'] 26)).frozen? ⟨w2.heap.size, 2, none⟩ = false := by simp [go_sem]
  have hts2 : w2.heap.size < (w2.alloc (.cells #[.int .i64 x', .int .i64 y', .int .i64 z'] 26)).heap.size := by simp
  have htb2 : w2.heap.size ≠ b := by omega
  have htw2 : wt1.heap.size ≤ w2.heap.size := z2
  generalize w2.alloc (.cells #[.int .i64 x', .int .i64 y', .int .i64 z'] 26) = wt2 at *
  obtain ⟨tb, hte2⟩ : ∃ q, w2.heap.size = q := ⟨_, rfl⟩
  rw [hte2] at x20 x21 x22 f20 f21 f22 hts2 htb2 htw2
  rw [hte2]
  have yt2 := Q2.inside
  clear S2 G2 y2 z2 hte2
  have hab : ta ≠ tb := by omega
  have hba : tb ≠ ta := by omega
  have har0 : ta ≠ w.heap.size := by omega
  have har1 : ta ≠ (w.heap.size + 1) := by omega
  have hbr0 : tb ≠ w.heap.size := by omega
  have hbr1 : tb ≠ (w.heap.size + 1) := by omega
  have GW : w0.grownBy wt2 (some b) := grownTrans P1 P2
  have p1 := P2.size
  have lr0 : w.heap.size < wt2.heap.size := Nat.lt_of_lt_of_le cl0 GW.size
  have lr1 : (w.heap.size + 1) < wt2.heap.size := Nat.lt_of_lt_of_le cl1 GW.size
  have r00 := (gCell (j := 0) GW cl0 cn0).trans cb00
  have q00 := (gFroz (j := 0) GW cl0 cn0).trans cf00
  have r01 := (gCell (j := 1) GW cl0 cn0).trans cb01
  have q01 := (gFroz (j := 1) GW cl0 cn0).trans cf01
  have r02 := (gCell (j := 2) GW cl0 cn0).trans cb02
  have q02 := (gFroz (j := 2) GW cl0 cn0).trans cf02
  have r10 := (gCell (j := 0) GW cl1 cn1).trans cb10
  have q10 := (gFroz (j := 0) GW cl1 cn1).trans cf10
  have r11 := (gCell (j := 1) GW cl1 cn1).trans cb11
  have q11 := (gFroz (j := 1) GW cl1 cn1).trans cf11
  have r12 := (gCell (j := 2) GW cl1 cn1).trans cb12
  have q12 := (gFroz (j := 2) GW cl1 cn1).trans cf12
  have BW : Below w.heap.size w wt2 := B0.trans (gBelow GW hbw z0)
  have KA := Lib.hid (show ∀ W : World, wt2.grownBy W (some b) → W.cell? ⟨ta, 0, none⟩ = some (.int .i64 x) ∧ W.cell? ⟨ta, 1, none⟩ = some (.int .i64 y) ∧ W.cell? ⟨ta, 2, none⟩ = some (.int .i64 z) ∧ W.cell? ⟨tb, 0, none⟩ = some (.int .i64 x') ∧ W.cell? ⟨tb, 1, none⟩ = some (.int .i64 y') ∧ W.cell? ⟨tb, 2, none⟩ = some (.int .i64 z') ∧ W.cell? ⟨w.heap.size, 0, none⟩ = some (.int .i64 0) ∧ W.cell? ⟨w.heap.size, 1, none⟩ = some (.int .i64 0) ∧ W.cell? ⟨w.heap.size, 2, none⟩ = some (.int .i64 0) ∧ W.cell? ⟨(w.heap.size + 1), 0, none⟩ = some (.int .i64 0) ∧ W.cell? ⟨(w.heap.size + 1), 1, none⟩ = some (.int .i64 0) ∧ W.cell? ⟨(w.heap.size + 1), 2, none⟩ = some (.int .i64 0) ∧ W.frozen? ⟨w.heap.size, 0, none⟩ = false ∧ W.frozen? ⟨w.heap.size, 1, none⟩ = false ∧ W.frozen? ⟨w.heap.size, 2, none⟩ = false ∧ W.frozen? ⟨(w.heap.size + 1), 0, none⟩ = false ∧ W.frozen? ⟨(w.heap.size + 1), 1, none⟩ = false ∧ W.frozen? ⟨(w.heap.size + 1), 2, none⟩ = false ∧ W.frozen? ⟨tb, 1, none⟩ = false from fun W h => ⟨((gCell h (Nat.lt_of_lt_of_le hts1 p1) htb1).trans ((gCell P2 hts1 htb1).trans x10)), ((gCell h (Nat.lt_of_lt_of_le hts1 p1) htb1).trans ((gCell P2 hts1 htb1).trans x11)), ((gCell h (Nat.lt_of_lt_of_le hts1 p1) htb1).trans ((gCell P2 hts1 htb1).trans x12)), ((gCell h hts2 htb2).trans x20), ((gCell h hts2 htb2).trans x21), ((gCell h hts2 htb2).trans x22), ((gCell h lr0 cn0).trans r00), ((gCell h lr0 cn0).trans r01), ((gCell h lr0 cn0).trans r02), ((gCell h lr1 cn1).trans r10), ((gCell h lr1 cn1).trans r11), ((gCell h lr1 cn1).trans r12), ((gFroz h lr0 cn0).trans q00), ((gFroz h lr0 cn0).trans q01), ((gFroz h lr0 cn0).trans q02), ((gFroz h lr1 cn1).trans q10), ((gFroz h lr1 cn1).trans q11), ((gFroz h lr1 cn1).trans q12), ((gFroz h hts2 htb2).trans f21)⟩)
  have LA : ∀ W : World, wt2.grownBy W (some b) → ta < W.heap.size ∧ tb < W.heap.size ∧ w.heap.size < W.heap.size ∧ (w.heap.size + 1) < W.heap.size := fun W h => by have := h.size; omega
  clear x10 f10 x11 f11 x12 f12 x20 f20 x21 f21 x22 f22 cb00 cf00 r00 q00 cb01 cf01 r01 q01 cb02 cf02 r02 q02 cb10 cf10 r10 q10 cb11 cf11 r11 q11 cb12 cf12 r12 q12
  refine (l01Next_any _ b A n c l _ hl hn h8 Q2).mono ?_
  rintro e w3 ⟨v3, rfl, lo3, hi3, S3, G3⟩
  have y3 := S3.inside
  have L3 := LA _ G3
  obtain ⟨l3a, l3b, l3c, l3d⟩ := L3
  clear hi3 Q1 Q2
  obtain ⟨a0, a1, a2, e0, e1, e2, c00, c01, c02, c10, c11, c12, d00, d01, d02, d10, d11, d12, d2⟩ := KA.out w3 G3
  have B3 : Below w.heap.size w w3 := BW.trans (gBelow G3 hbw BW.size)
  go_upto_if 15 with fail
  go_cut [] (fun wx => ∃ yq : Int, Hid (I64 yq) ∧ wx.cell? ⟨ta, 0, none⟩ = some (.int .i64 x) ∧ wx.cell? ⟨ta, 1, none⟩ = some (.int .i64 y) ∧ wx.cell? ⟨ta, 2, none⟩ = some (.int .i64 z) ∧ wx.cell? ⟨tb, 0, none⟩ = some (.int .i64 x') ∧ wx.cell? ⟨tb, 1, none⟩ = some (.int .i64 yq) ∧ wx.cell? ⟨tb, 2, none⟩ = some (.int .i64 z') ∧ wx.cell? ⟨w.heap.size, 0, none⟩ = some (.int .i64 0) ∧ wx.cell? ⟨w.heap.size, 1, none⟩ = some (.int .i64 0) ∧ wx.cell? ⟨w.heap.size, 2, none⟩ = some (.int .i64 0) ∧ wx.cell? ⟨(w.heap.size + 1), 0, none⟩ = some (.int .i64 0) ∧ wx.cell? ⟨(w.heap.size + 1), 1, none⟩ = some (.int .i64 0) ∧ wx.cell? ⟨(w.heap.size + 1), 2, none⟩ = some (.int .i64 0) ∧ wx.frozen? ⟨w.heap.size, 0, none⟩ = false ∧ wx.frozen? ⟨w.heap.size, 1, none⟩ = false ∧ wx.frozen? ⟨w.heap.size, 2, none⟩ = false ∧ wx.frozen? ⟨(w.heap.size + 1), 0, none⟩ = false ∧ wx.frozen? ⟨(w.heap.size + 1), 1, none⟩ = false ∧ wx.frozen? ⟨(w.heap.size + 1), 2, none⟩ = false ∧ Below w.heap.size w wx)
  case first =>
    by_cases h0 : v3 = 0
    · have t0 : (v3 == 0) = true := beq_iff_eq.2 h0
      clear h0
      go_wp2_with fail
      go_region_held3 (fun w' => w'.cell? ⟨ta, 1, none⟩ = some (.int .i64 y)) (first | go_keep | (simp [go_sem, *]; done)) (first
        | (go_at_call 61; (with_reducible refine (l01Next_any _ b A n c l _ hl hn h8 ?_).mono ?_); (focus (repeat' (first | (with_reducible assumption) | (with_reducible refine Src.alloc ?_ _) | (with_reducible refine Src.drew ?_) | (with_reducible refine Src.drewN ?_ _) | (with_reducible refine Src.set ?_ ?_ _) | omega | (simp; done) | (simp; omega)))); rintro e w4 ⟨v4, rfl, lo4, hi4, S4, g4⟩; have G4 : wt2.grownBy w4 (some b) := grownTrans (by repeat' (first | (with_reducible exact grownRefl _ _) | (with_reducible assumption) | (with_reducible refine gAlloc ?_ _) | (with_reducible refine grownDrew ?_) | (with_reducible refine gDrewN ?_ _) | (with_reducible refine gSet ?_ ?_ _) | (left; with_reducible rfl) | (right; first | omega | (simp; done) | (simp; omega)) | (with_reducible refine gBel ?_ (by with_reducible assumption)))) g4; have K4 := KA.out w4 G4; have L4 := LA _ G4; obtain ⟨l4a, l4b, l4c, l4d⟩ := L4; obtain ⟨ma0, ma1, ma2, me0, me1, me2, mc00, mc01, mc02, mc10, mc11, mc12, md00, md01, md02, md10, md11, md12, md2⟩ := K4; have B4 : Below w.heap.size w w4 := BW.trans (gBelow G4 hbw BW.size); clear g4 G4 hi4))
      go_wp2_with fail
      go_meet
      refine ⟨IntKind.i64.wrap (y + IntKind.i64.wrap (60 * IntKind.i64.wrap (v4 - 6))), Lib.hid (i64_wrap _), ?_, ?_, ?_, ?_, ?_, ?_, ?_, ?_, ?_, ?_, ?_, ?_, ?_, ?_, ?_, ?_, ?_, ?_, by repeat' (first | (with_reducible exact Below.refl _ _) | (with_reducible assumption) | (with_reducible refine Below.alloc ?_ ?_ _) | (with_reducible refine Below.drew ?_) | (with_reducible refine belowDraws ?_ _) | (with_reducible refine Below.setCell ?_ ?_ _) | omega | (simp; done) | (simp; omega))⟩
      all_goals simp [go_sem, *]
    · have t0 : (v3 == 0) = false := by simpa using h0
      clear h0
      go_wp2_with fail
      go_meet
      exact ⟨y', Lib.hid I2.out.2.1, a0, a1, a2, e0, e1, e2, c00, c01, c02, c10, c11, c12, d00, d01, d02, d10, d11, d12, B3⟩
  case rest =>
  obtain ⟨yq, HY, a0, a1, a2, e0, e1, e2, c00, c01, c02, c10, c11, c12, d00, d01, d02, d10, d11, d12, BX⟩ := hcut
  obtain ⟨wz, rfl⟩ : ∃ w0 : World, w0 = wc := ⟨_, rfl⟩
  have lz0 : w.heap.size < wz.heap.size := by simpa using World.block_lt_of_cell? wz _ c00
  have lz1 : (w.heap.size + 1) < wz.heap.size := by simpa using World.block_lt_of_cell? wz _ c10
  clear KA LA l3a l3b l3c l3d B3 S3 G3 y3 BW GW
  go_wp2_with fail
  go_region
  all_goals go_wp2_with fail
  all_goals (refine bodyPost_ret (v := .tuple #[.agg #[.int .i64 x, .int .i64 y, .int .i64 z], .agg #[.int .i64 x', .int .i64 yq, .int .i64 z']]) ?_ rfl ?_; (focus (simp [results, Tryd.results35, go_sem, *])); exact ⟨x, y, z, x', yq, z', rfl, I1.out.1, I1.out.2.1, I1.out.2.2, I2.out.1, HY.out, I2.out.2.2, by repeat' (first | (with_reducible exact Below.refl _ _) | (with_reducible assumption) | (with_reducible refine Below.alloc ?_ ?_ _) | (with_reducible refine Below.drew ?_) | (with_reducible refine belowDraws ?_ _) | (with_reducible refine Below.setCell ?_ ?_ _) | omega | (simp; done) | (simp; omega))⟩)

end Go.Proofs.YtpbhncgjnmaojaaDoor
