/- ReadStock (layer 11): the program's, the reference's, and the law. No condition. -/
import Derived.Test.YthnjiiodpjielaaSet
import Derived.Test.YthnjiiodpjielaaStk4
namespace Go.Proofs.Ythnjiiodpjielaa
open Go.RowKit
set_option linter.unusedVariables false
set_option linter.unusedSimpArgs false

open Classical in
/-- the number of the figure that is read -/
noncomputable def rdM (s tg : Int) : Int := if h : ∃ m, FB (off s tg) 0 (9000 * decades s) m then Classical.choose h else 0
theorem rdM_of {s tg m : Int} (h : FB (off s tg) 0 (9000 * decades s) m) : m = rdM s tg := by
  have hx : ∃ m, FB (off s tg) 0 (9000 * decades s) m := ⟨m, h⟩
  rw [rdM, dif_pos hx]
  exact h.one (Classical.choose_spec hx)
noncomputable def rStock (a : Int) (ls lt : List Int) (x y s : Int) : (Int × Int) × Int := if l11C a ls lt x y false s = 0 then ((nD (rdM s y), nT (rdM s y)), 0) else ((0, 0), l11C a ls lt x y false s)
theorem goodTo_all {l : List Int} : ∀ {k j : Nat}, goodTo l k = true → j < k → errScaleB (l.getD j 0) = true
  | 0, j, _, h => by omega
  | k + 1, j, h, hj => by
    rw [goodTo, Bool.and_eq_true, Bool.and_eq_true] at h
    by_cases e : j = k
    · rw [e]; exact h.2.1
    · exact goodTo_all h.1 (by omega)
theorem scale_bd {l : List Int} {s : Int} (h : scalesB l = true) (hm : s ∈ l) : 0 ≤ s ∧ s ≤ 4 := by
  rw [scalesB, Bool.and_eq_true] at h
  obtain ⟨j, hj, e⟩ := List.mem_iff_getElem.1 hm
  have := goodTo_all h.1 hj
  rw [List.getD_eq_getElem?_getD, List.getElem?_eq_getElem hj, Option.getD_some, e] at this
  exact errScaleB_iff.1 this
theorem stock_bd {a : Int} {ls lt : List Int} {s : Int} (h : ruleB a ls lt = true) (hm : s ∈ ls) : 0 ≤ s ∧ s ≤ 4 := by
  rw [ruleB, Bool.and_eq_true, Bool.and_eq_true] at h
  exact scale_bd h.2.1 hm
theorem readAt_any (s tg : Int) (w : World) (s1 : 0 ≤ s) (s2 : s ≤ 4) (g1 : -2097152 ≤ tg) (g2 : tg ≤ 2097152) :
    Calls Try.prog 129 #[.int .i64 s, .int .i64 tg] w fun e w' => e = .returned (.agg #[.int .i64 (nD (rdM s tg)), .int .i64 (nT (rdM s tg))]) ∧ Below w.heap.size w w' := by
  have h : Calls Try.prog 129 #[.int .i64 s, .int .i64 tg] w (ReadIs s tg w) := by
    by_cases hc : s = 4
    · exact readAt_two s tg w s1 s2 hc g1 g2
    · exact readAt_one s tg w s1 s2 hc g1 g2
  refine h.mono ?_
  rintro e w' ⟨m, rfl, hF, hb⟩
  rw [rdM_of hF]
  exact ⟨rfl, hb⟩
theorem l11Read_rd (s tg : Int) (w : World) (s1 : 0 ≤ s) (s2 : s ≤ 4) (g1 : -2097152 ≤ tg) (g2 : tg ≤ 2097152) :
    Calls Try.prog 124 #[.int .i64 s, .int .i64 tg] w fun e w' => e = .returned (.agg #[.int .i64 (nD (rdM s tg)), .int .i64 (nT (rdM s tg))]) ∧ Below w.heap.size w w' := by
  refine (l11Read_any s tg w s1 s2 g1 g2).mono ?_
  rintro e w' ⟨m, rfl, hF, hb⟩
  rw [rdM_of hF]
  exact ⟨rfl, hb⟩
set_option maxRecDepth 100000 in
set_option maxHeartbeats 4000000 in
theorem iReadStock_any (a : Int) (As : Option Addr) (ns cs : Nat) (ls : List Int) (At : Option Addr) (nt ct : Nat) (lt : List Int) (x y s : Int) (w : World) (hls : ls.length = ns) (hcs : ns ≤ cs) (hns : ns ≤ 1048576) (hrs : Sees w w.heap.size As (ls.map (Value.int .i64))) (hlt : lt.length = nt) (hct : nt ≤ ct) (hnt : nt ≤ 1048576) (hrt : Sees w w.heap.size At (lt.map (Value.int .i64))) :
    Calls Try.prog 57 #[.agg #[.int .i64 a, .slice As ns cs, .slice At nt ct], .agg #[.int .i64 x, .int .i64 y], .int .i64 s] w fun e w' => e = .returned (endSet (rStock a ls lt x y s)) ∧ Below w.heap.size w w' := by
  have IR := fun W (hB : Below w.heap.size w W) => iIsRule_any a As ns cs ls At nt ct lt W hls hcs hns ((hrs.over hB).wider hB.size) hlt hct hnt ((hrt.over hB).wider hB.size)
  have IS := fun W => oneAlloc (iIsSetting_any x y W)
  have HS := fun W (hB : Below w.heap.size w W) => oneAlloc (hasScale_any a As ns cs ls At nt ct lt false s W hls hcs hns ((hrs.over hB).wider hB.size) hlt hct hnt ((hrt.over hB).wider hB.size))
  clear hls hlt hrs hrt
  by_cases g1 : ruleB a ls lt = true
  · rw [g1] at IR
    by_cases g2 : setB x y = true
    · rw [g2] at IS
      obtain ⟨_, y1, y2⟩ := setB_iff.1 g2
      by_cases g3 : s ∈ onScales false ls lt
      · have HV := Lib.hid (show rStock a ls lt x y s = ((nD (rdM s y), nT (rdM s y)), 0) by rw [rStock, if_pos (l11C_0 g1 g2 g3)])
        rw [show decide (s ∈ onScales false ls lt) = true from decide_eq_true g3] at HS
        obtain ⟨s0, s4⟩ := stock_bd g1 (show s ∈ ls from g3)
        have RD := fun W => readAt_any s y W s0 s4 (by omega) (by omega)
        generalize nD (rdM s y) = rd at *
        generalize nT (rdM s y) = rt at *
        clear g1 g2 g3
        go_enter Try.func57, Try.ntmps57
        go_upto_region 0 with fail
        go_cut [3, 4, 6, 7] (fun s3 s4 s6 s7 wx => s3 = .pointer (some ⟨w.heap.size, 0, none⟩) ∧ s4 = .pointer (some ⟨w.heap.size + 1, 0, none⟩) ∧ s6 = .pointer (some ⟨w.heap.size + 1 + 1, 0, none⟩) ∧ s7 = .int .i64 0 ∧ wx.cell? ⟨w.heap.size, 0, none⟩ = some (.int .i64 a) ∧ wx.cell? ⟨w.heap.size, 1, none⟩ = some (.slice As ns cs) ∧ wx.cell? ⟨w.heap.size, 2, none⟩ = some (.slice At nt ct) ∧ wx.cell? ⟨(w.heap.size + 1), 0, none⟩ = some (.int .i64 x) ∧ wx.cell? ⟨(w.heap.size + 1), 1, none⟩ = some (.int .i64 y) ∧ wx.cell? ⟨(w.heap.size + 1 + 1), 0, none⟩ = some (.int .i64 0) ∧ wx.cell? ⟨(w.heap.size + 1 + 1), 1, none⟩ = some (.int .i64 0) ∧ wx.frozen? ⟨(w.heap.size + 1 + 1), 0, none⟩ = false ∧ wx.frozen? ⟨(w.heap.size + 1 + 1), 1, none⟩ = false ∧ (w.heap.size + 1 + 1) < wx.heap.size ∧ Below w.heap.size w wx)
        case first =>
          go_wp2_with fail
          go_meet
          refine ⟨rfl, rfl, rfl, rfl, ?_, ?_, ?_, ?_, ?_, ?_, ?_, ?_, ?_, ?_, by repeat' (first | exact Below.refl _ _ | assumption | refine Below.alloc ?_ (by first | omega | (simp; done) | (simp; omega)) _ | refine Below.drew ?_ | refine Below.setCell ?_ (by first | omega | (simp; done) | (simp; omega)) _)⟩
          all_goals (first | omega | (simp [go_sem]; done) | (simp; omega))
        case rest =>
        obtain ⟨rfl, rfl, rfl, rfl, c0, c1, c2, c3, c4, c5, c6, c7, c8, hl, B0⟩ := hcut
        obtain ⟨w0, rfl⟩ : ∃ w0 : World, w0 = wc := ⟨_, rfl⟩
        have lt0 : w.heap.size < w0.heap.size := by omega
        have lt1 : w.heap.size + 1 < w0.heap.size := by omega
        have lt2 : w.heap.size + 1 + 1 < w0.heap.size := by omega
        have KP := Lib.hid (show ∀ W : World, Below w0.heap.size w0 W → W.cell? ⟨w.heap.size, 0, none⟩ = some (.int .i64 a) ∧ W.cell? ⟨w.heap.size, 1, none⟩ = some (.slice As ns cs) ∧ W.cell? ⟨w.heap.size, 2, none⟩ = some (.slice At nt ct) ∧ W.cell? ⟨(w.heap.size + 1), 0, none⟩ = some (.int .i64 x) ∧ W.cell? ⟨(w.heap.size + 1), 1, none⟩ = some (.int .i64 y) ∧ W.cell? ⟨(w.heap.size + 1 + 1), 0, none⟩ = some (.int .i64 0) ∧ W.cell? ⟨(w.heap.size + 1 + 1), 1, none⟩ = some (.int .i64 0) ∧ W.frozen? ⟨(w.heap.size + 1 + 1), 0, none⟩ = false ∧ W.frozen? ⟨(w.heap.size + 1 + 1), 1, none⟩ = false from fun W hW => ⟨(hW.cell (by first | omega | (simp; done) | (simp; omega))).trans c0, (hW.cell (by first | omega | (simp; done) | (simp; omega))).trans c1, (hW.cell (by first | omega | (simp; done) | (simp; omega))).trans c2, (hW.cell (by first | omega | (simp; done) | (simp; omega))).trans c3, (hW.cell (by first | omega | (simp; done) | (simp; omega))).trans c4, (hW.cell (by first | omega | (simp; done) | (simp; omega))).trans c5, (hW.cell (by first | omega | (simp; done) | (simp; omega))).trans c6, (hW.frozen (by first | omega | (simp; done) | (simp; omega))).trans c7, (hW.frozen (by first | omega | (simp; done) | (simp; omega))).trans c8⟩)
        go_wp2_with (first
          | (go_at_call 126; (with_reducible refine (IR _ ?_).mono ?_); (focus (repeat' (first | exact Below.refl _ _ | assumption | (refine B0.trans (Below.mono ?_ B0.size); assumption) | refine Below.alloc ?_ (by first | omega | (simp; done) | (simp; omega)) _ | refine Below.drew ?_ | refine Below.setCell ?_ (by first | omega | (simp; done) | (simp; omega)) _))); rintro e w1 ⟨rfl, hb1⟩; have hB1 : Below w0.heap.size w0 w1 := Below.trans (by repeat' (first | exact Below.refl _ _ | assumption | refine Below.alloc ?_ (by first | omega | (simp; done) | (simp; omega)) _ | refine Below.drew ?_ | refine Below.setCell ?_ (by first | omega | (simp; done) | (simp; omega)) _)) (hb1.mono (by first | omega | (simp; done) | (simp; omega))); have hz1 := hB1.size; obtain ⟨q1_0, q1_1, q1_2, q1_3, q1_4, q1_5, q1_6, q1_7, q1_8⟩ := KP.out w1 hB1; clear hb1)
          | (go_at_call 127; (with_reducible refine (IS _).mono ?_); rintro e w2 ⟨rfl, hb2⟩; have hB2 : Below w0.heap.size w0 w2 := Below.trans (by repeat' (first | exact Below.refl _ _ | assumption | refine Below.alloc ?_ (by first | omega | (simp; done) | (simp; omega)) _ | refine Below.drew ?_ | refine Below.setCell ?_ (by first | omega | (simp; done) | (simp; omega)) _)) (hb2.mono (by first | omega | (simp; done) | (simp; omega))); have hz2 := hB2.size; obtain ⟨q2_0, q2_1, q2_2, q2_3, q2_4, q2_5, q2_6, q2_7, q2_8⟩ := KP.out w2 hB2; clear hb2)
          | (go_at_call 128; (with_reducible refine (HS _ ?_).mono ?_); (focus (repeat' (first | exact Below.refl _ _ | assumption | (refine B0.trans (Below.mono ?_ B0.size); assumption) | refine Below.alloc ?_ (by first | omega | (simp; done) | (simp; omega)) _ | refine Below.drew ?_ | refine Below.setCell ?_ (by first | omega | (simp; done) | (simp; omega)) _))); rintro e w3 ⟨rfl, hb3⟩; have hB3 : Below w0.heap.size w0 w3 := Below.trans (by repeat' (first | exact Below.refl _ _ | assumption | refine Below.alloc ?_ (by first | omega | (simp; done) | (simp; omega)) _ | refine Below.drew ?_ | refine Below.setCell ?_ (by first | omega | (simp; done) | (simp; omega)) _)) (hb3.mono (by first | omega | (simp; done) | (simp; omega))); have hz3 := hB3.size; obtain ⟨q3_0, q3_1, q3_2, q3_3, q3_4, q3_5, q3_6, q3_7, q3_8⟩ := KP.out w3 hB3; clear hb3)
          | (go_at_call 129; (with_reducible refine (RD _).mono ?_); rintro e w4 ⟨rfl, hb4⟩; have hB4 : Below w0.heap.size w0 w4 := Below.trans (by repeat' (first | exact Below.refl _ _ | assumption | refine Below.alloc ?_ (by first | omega | (simp; done) | (simp; omega)) _ | refine Below.drew ?_ | refine Below.setCell ?_ (by first | omega | (simp; done) | (simp; omega)) _)) (hb4.mono (by first | omega | (simp; done) | (simp; omega))); have hz4 := hB4.size; obtain ⟨q4_0, q4_1, q4_2, q4_3, q4_4, q4_5, q4_6, q4_7, q4_8⟩ := KP.out w4 hB4; clear hb4))
        (refine bodyPost_ret (v := .tuple #[.agg #[.int .i64 rd, .int .i64 rt], .int .i64 0]) ?_ rfl ?_; (focus (simp [results, Try.results57, go_sem, *])); exact ⟨endSet_of HV.out, by repeat' (first | exact Below.refl _ _ | assumption | (refine B0.trans (Below.mono ?_ B0.size); assumption) | refine Below.alloc ?_ (by first | omega | (simp; done) | (simp; omega)) _ | refine Below.drew ?_ | refine Below.setCell ?_ (by first | omega | (simp; done) | (simp; omega)) _)⟩)
      · have HV := Lib.hid (show rStock a ls lt x y s = ((0, 0), 2) by rw [rStock, if_neg (by rw [l11C_2 g1 g2 g3]; decide), l11C_2 g1 g2 g3])
        rw [show decide (s ∈ onScales false ls lt) = false from decide_eq_false g3] at HS
        clear g1 g2 g3
        go_enter Try.func57, Try.ntmps57
        go_upto_region 0 with fail
        go_cut [3, 4, 6, 7] (fun s3 s4 s6 s7 wx => s3 = .pointer (some ⟨w.heap.size, 0, none⟩) ∧ s4 = .pointer (some ⟨w.heap.size + 1, 0, none⟩) ∧ s6 = .pointer (some ⟨w.heap.size + 1 + 1, 0, none⟩) ∧ s7 = .int .i64 0 ∧ wx.cell? ⟨w.heap.size, 0, none⟩ = some (.int .i64 a) ∧ wx.cell? ⟨w.heap.size, 1, none⟩ = some (.slice As ns cs) ∧ wx.cell? ⟨w.heap.size, 2, none⟩ = some (.slice At nt ct) ∧ wx.cell? ⟨(w.heap.size + 1), 0, none⟩ = some (.int .i64 x) ∧ wx.cell? ⟨(w.heap.size + 1), 1, none⟩ = some (.int .i64 y) ∧ wx.cell? ⟨(w.heap.size + 1 + 1), 0, none⟩ = some (.int .i64 0) ∧ wx.cell? ⟨(w.heap.size + 1 + 1), 1, none⟩ = some (.int .i64 0) ∧ wx.frozen? ⟨(w.heap.size + 1 + 1), 0, none⟩ = false ∧ wx.frozen? ⟨(w.heap.size + 1 + 1), 1, none⟩ = false ∧ (w.heap.size + 1 + 1) < wx.heap.size ∧ Below w.heap.size w wx)
        case first =>
          go_wp2_with fail
          go_meet
          refine ⟨rfl, rfl, rfl, rfl, ?_, ?_, ?_, ?_, ?_, ?_, ?_, ?_, ?_, ?_, by repeat' (first | exact Below.refl _ _ | assumption | refine Below.alloc ?_ (by first | omega | (simp; done) | (simp; omega)) _ | refine Below.drew ?_ | refine Below.setCell ?_ (by first | omega | (simp; done) | (simp; omega)) _)⟩
          all_goals (first | omega | (simp [go_sem]; done) | (simp; omega))
        case rest =>
        obtain ⟨rfl, rfl, rfl, rfl, c0, c1, c2, c3, c4, c5, c6, c7, c8, hl, B0⟩ := hcut
        obtain ⟨w0, rfl⟩ : ∃ w0 : World, w0 = wc := ⟨_, rfl⟩
        have lt0 : w.heap.size < w0.heap.size := by omega
        have lt1 : w.heap.size + 1 < w0.heap.size := by omega
        have lt2 : w.heap.size + 1 + 1 < w0.heap.size := by omega
        have KP := Lib.hid (show ∀ W : World, Below w0.heap.size w0 W → W.cell? ⟨w.heap.size, 0, none⟩ = some (.int .i64 a) ∧ W.cell? ⟨w.heap.size, 1, none⟩ = some (.slice As ns cs) ∧ W.cell? ⟨w.heap.size, 2, none⟩ = some (.slice At nt ct) ∧ W.cell? ⟨(w.heap.size + 1), 0, none⟩ = some (.int .i64 x) ∧ W.cell? ⟨(w.heap.size + 1), 1, none⟩ = some (.int .i64 y) ∧ W.cell? ⟨(w.heap.size + 1 + 1), 0, none⟩ = some (.int .i64 0) ∧ W.cell? ⟨(w.heap.size + 1 + 1), 1, none⟩ = some (.int .i64 0) ∧ W.frozen? ⟨(w.heap.size + 1 + 1), 0, none⟩ = false ∧ W.frozen? ⟨(w.heap.size + 1 + 1), 1, none⟩ = false from fun W hW => ⟨(hW.cell (by first | omega | (simp; done) | (simp; omega))).trans c0, (hW.cell (by first | omega | (simp; done) | (simp; omega))).trans c1, (hW.cell (by first | omega | (simp; done) | (simp; omega))).trans c2, (hW.cell (by first | omega | (simp; done) | (simp; omega))).trans c3, (hW.cell (by first | omega | (simp; done) | (simp; omega))).trans c4, (hW.cell (by first | omega | (simp; done) | (simp; omega))).trans c5, (hW.cell (by first | omega | (simp; done) | (simp; omega))).trans c6, (hW.frozen (by first | omega | (simp; done) | (simp; omega))).trans c7, (hW.frozen (by first | omega | (simp; done) | (simp; omega))).trans c8⟩)
        go_wp2_with (first
          | (go_at_call 126; (with_reducible refine (IR _ ?_).mono ?_); (focus (repeat' (first | exact Below.refl _ _ | assumption | (refine B0.trans (Below.mono ?_ B0.size); assumption) | refine Below.alloc ?_ (by first | omega | (simp; done) | (simp; omega)) _ | refine Below.drew ?_ | refine Below.setCell ?_ (by first | omega | (simp; done) | (simp; omega)) _))); rintro e w1 ⟨rfl, hb1⟩; have hB1 : Below w0.heap.size w0 w1 := Below.trans (by repeat' (first | exact Below.refl _ _ | assumption | refine Below.alloc ?_ (by first | omega | (simp; done) | (simp; omega)) _ | refine Below.drew ?_ | refine Below.setCell ?_ (by first | omega | (simp; done) | (simp; omega)) _)) (hb1.mono (by first | omega | (simp; done) | (simp; omega))); have hz1 := hB1.size; obtain ⟨q1_0, q1_1, q1_2, q1_3, q1_4, q1_5, q1_6, q1_7, q1_8⟩ := KP.out w1 hB1; clear hb1)
          | (go_at_call 127; (with_reducible refine (IS _).mono ?_); rintro e w2 ⟨rfl, hb2⟩; have hB2 : Below w0.heap.size w0 w2 := Below.trans (by repeat' (first | exact Below.refl _ _ | assumption | refine Below.alloc ?_ (by first | omega | (simp; done) | (simp; omega)) _ | refine Below.drew ?_ | refine Below.setCell ?_ (by first | omega | (simp; done) | (simp; omega)) _)) (hb2.mono (by first | omega | (simp; done) | (simp; omega))); have hz2 := hB2.size; obtain ⟨q2_0, q2_1, q2_2, q2_3, q2_4, q2_5, q2_6, q2_7, q2_8⟩ := KP.out w2 hB2; clear hb2)
          | (go_at_call 128; (with_reducible refine (HS _ ?_).mono ?_); (focus (repeat' (first | exact Below.refl _ _ | assumption | (refine B0.trans (Below.mono ?_ B0.size); assumption) | refine Below.alloc ?_ (by first | omega | (simp; done) | (simp; omega)) _ | refine Below.drew ?_ | refine Below.setCell ?_ (by first | omega | (simp; done) | (simp; omega)) _))); rintro e w3 ⟨rfl, hb3⟩; have hB3 : Below w0.heap.size w0 w3 := Below.trans (by repeat' (first | exact Below.refl _ _ | assumption | refine Below.alloc ?_ (by first | omega | (simp; done) | (simp; omega)) _ | refine Below.drew ?_ | refine Below.setCell ?_ (by first | omega | (simp; done) | (simp; omega)) _)) (hb3.mono (by first | omega | (simp; done) | (simp; omega))); have hz3 := hB3.size; obtain ⟨q3_0, q3_1, q3_2, q3_3, q3_4, q3_5, q3_6, q3_7, q3_8⟩ := KP.out w3 hB3; clear hb3))
        (refine bodyPost_ret (v := .tuple #[.agg #[.int .i64 0, .int .i64 0], .int .i64 2]) ?_ rfl ?_; (focus (simp [results, Try.results57, go_sem, *])); exact ⟨endSet_of HV.out, by repeat' (first | exact Below.refl _ _ | assumption | (refine B0.trans (Below.mono ?_ B0.size); assumption) | refine Below.alloc ?_ (by first | omega | (simp; done) | (simp; omega)) _ | refine Below.drew ?_ | refine Below.setCell ?_ (by first | omega | (simp; done) | (simp; omega)) _)⟩)
    · have g2' : setB x y = false := by simpa using g2
      have HV := Lib.hid (show rStock a ls lt x y s = ((0, 0), 1) by rw [rStock, if_neg (by rw [l11C_1 (.inr g2')]; decide), l11C_1 (.inr g2')])
      rw [g2'] at IS
      clear g1 g2 g2' HS
      go_enter Try.func57, Try.ntmps57
      go_upto_region 0 with fail
      go_cut [3, 4, 6, 7] (fun s3 s4 s6 s7 wx => s3 = .pointer (some ⟨w.heap.size, 0, none⟩) ∧ s4 = .pointer (some ⟨w.heap.size + 1, 0, none⟩) ∧ s6 = .pointer (some ⟨w.heap.size + 1 + 1, 0, none⟩) ∧ s7 = .int .i64 0 ∧ wx.cell? ⟨w.heap.size, 0, none⟩ = some (.int .i64 a) ∧ wx.cell? ⟨w.heap.size, 1, none⟩ = some (.slice As ns cs) ∧ wx.cell? ⟨w.heap.size, 2, none⟩ = some (.slice At nt ct) ∧ wx.cell? ⟨(w.heap.size + 1), 0, none⟩ = some (.int .i64 x) ∧ wx.cell? ⟨(w.heap.size + 1), 1, none⟩ = some (.int .i64 y) ∧ wx.cell? ⟨(w.heap.size + 1 + 1), 0, none⟩ = some (.int .i64 0) ∧ wx.cell? ⟨(w.heap.size + 1 + 1), 1, none⟩ = some (.int .i64 0) ∧ wx.frozen? ⟨(w.heap.size + 1 + 1), 0, none⟩ = false ∧ wx.frozen? ⟨(w.heap.size + 1 + 1), 1, none⟩ = false ∧ (w.heap.size + 1 + 1) < wx.heap.size ∧ Below w.heap.size w wx)
      case first =>
        go_wp2_with fail
        go_meet
        refine ⟨rfl, rfl, rfl, rfl, ?_, ?_, ?_, ?_, ?_, ?_, ?_, ?_, ?_, ?_, by repeat' (first | exact Below.refl _ _ | assumption | refine Below.alloc ?_ (by first | omega | (simp; done) | (simp; omega)) _ | refine Below.drew ?_ | refine Below.setCell ?_ (by first | omega | (simp; done) | (simp; omega)) _)⟩
        all_goals (first | omega | (simp [go_sem]; done) | (simp; omega))
      case rest =>
      obtain ⟨rfl, rfl, rfl, rfl, c0, c1, c2, c3, c4, c5, c6, c7, c8, hl, B0⟩ := hcut
      obtain ⟨w0, rfl⟩ : ∃ w0 : World, w0 = wc := ⟨_, rfl⟩
      have lt0 : w.heap.size < w0.heap.size := by omega
      have lt1 : w.heap.size + 1 < w0.heap.size := by omega
      have lt2 : w.heap.size + 1 + 1 < w0.heap.size := by omega
      have KP := Lib.hid (show ∀ W : World, Below w0.heap.size w0 W → W.cell? ⟨w.heap.size, 0, none⟩ = some (.int .i64 a) ∧ W.cell? ⟨w.heap.size, 1, none⟩ = some (.slice As ns cs) ∧ W.cell? ⟨w.heap.size, 2, none⟩ = some (.slice At nt ct) ∧ W.cell? ⟨(w.heap.size + 1), 0, none⟩ = some (.int .i64 x) ∧ W.cell? ⟨(w.heap.size + 1), 1, none⟩ = some (.int .i64 y) ∧ W.cell? ⟨(w.heap.size + 1 + 1), 0, none⟩ = some (.int .i64 0) ∧ W.cell? ⟨(w.heap.size + 1 + 1), 1, none⟩ = some (.int .i64 0) ∧ W.frozen? ⟨(w.heap.size + 1 + 1), 0, none⟩ = false ∧ W.frozen? ⟨(w.heap.size + 1 + 1), 1, none⟩ = false from fun W hW => ⟨(hW.cell (by first | omega | (simp; done) | (simp; omega))).trans c0, (hW.cell (by first | omega | (simp; done) | (simp; omega))).trans c1, (hW.cell (by first | omega | (simp; done) | (simp; omega))).trans c2, (hW.cell (by first | omega | (simp; done) | (simp; omega))).trans c3, (hW.cell (by first | omega | (simp; done) | (simp; omega))).trans c4, (hW.cell (by first | omega | (simp; done) | (simp; omega))).trans c5, (hW.cell (by first | omega | (simp; done) | (simp; omega))).trans c6, (hW.frozen (by first | omega | (simp; done) | (simp; omega))).trans c7, (hW.frozen (by first | omega | (simp; done) | (simp; omega))).trans c8⟩)
      go_wp2_with (first
        | (go_at_call 126; (with_reducible refine (IR _ ?_).mono ?_); (focus (repeat' (first | exact Below.refl _ _ | assumption | (refine B0.trans (Below.mono ?_ B0.size); assumption) | refine Below.alloc ?_ (by first | omega | (simp; done) | (simp; omega)) _ | refine Below.drew ?_ | refine Below.setCell ?_ (by first | omega | (simp; done) | (simp; omega)) _))); rintro e w1 ⟨rfl, hb1⟩; have hB1 : Below w0.heap.size w0 w1 := Below.trans (by repeat' (first | exact Below.refl _ _ | assumption | refine Below.alloc ?_ (by first | omega | (simp; done) | (simp; omega)) _ | refine Below.drew ?_ | refine Below.setCell ?_ (by first | omega | (simp; done) | (simp; omega)) _)) (hb1.mono (by first | omega | (simp; done) | (simp; omega))); have hz1 := hB1.size; obtain ⟨q1_0, q1_1, q1_2, q1_3, q1_4, q1_5, q1_6, q1_7, q1_8⟩ := KP.out w1 hB1; clear hb1)
        | (go_at_call 127; (with_reducible refine (IS _).mono ?_); rintro e w2 ⟨rfl, hb2⟩; have hB2 : Below w0.heap.size w0 w2 := Below.trans (by repeat' (first | exact Below.refl _ _ | assumption | refine Below.alloc ?_ (by first | omega | (simp; done) | (simp; omega)) _ | refine Below.drew ?_ | refine Below.setCell ?_ (by first | omega | (simp; done) | (simp; omega)) _)) (hb2.mono (by first | omega | (simp; done) | (simp; omega))); have hz2 := hB2.size; obtain ⟨q2_0, q2_1, q2_2, q2_3, q2_4, q2_5, q2_6, q2_7, q2_8⟩ := KP.out w2 hB2; clear hb2))
      (refine bodyPost_ret (v := .tuple #[.agg #[.int .i64 0, .int .i64 0], .int .i64 1]) ?_ rfl ?_; (focus (simp [results, Try.results57, go_sem, *])); exact ⟨endSet_of HV.out, by repeat' (first | exact Below.refl _ _ | assumption | (refine B0.trans (Below.mono ?_ B0.size); assumption) | refine Below.alloc ?_ (by first | omega | (simp; done) | (simp; omega)) _ | refine Below.drew ?_ | refine Below.setCell ?_ (by first | omega | (simp; done) | (simp; omega)) _)⟩)
  · have g1' : ruleB a ls lt = false := by simpa using g1
    have HV := Lib.hid (show rStock a ls lt x y s = ((0, 0), 1) by rw [rStock, if_neg (by rw [l11C_1 (.inl g1')]; decide), l11C_1 (.inl g1')])
    rw [g1'] at IR
    clear g1 g1' HS IS
    go_enter Try.func57, Try.ntmps57
    go_upto_region 0 with fail
    go_cut [3, 4, 6, 7] (fun s3 s4 s6 s7 wx => s3 = .pointer (some ⟨w.heap.size, 0, none⟩) ∧ s4 = .pointer (some ⟨w.heap.size + 1, 0, none⟩) ∧ s6 = .pointer (some ⟨w.heap.size + 1 + 1, 0, none⟩) ∧ s7 = .int .i64 0 ∧ wx.cell? ⟨w.heap.size, 0, none⟩ = some (.int .i64 a) ∧ wx.cell? ⟨w.heap.size, 1, none⟩ = some (.slice As ns cs) ∧ wx.cell? ⟨w.heap.size, 2, none⟩ = some (.slice At nt ct) ∧ wx.cell? ⟨(w.heap.size + 1), 0, none⟩ = some (.int .i64 x) ∧ wx.cell? ⟨(w.heap.size + 1), 1, none⟩ = some (.int .i64 y) ∧ wx.cell? ⟨(w.heap.size + 1 + 1), 0, none⟩ = some (.int .i64 0) ∧ wx.cell? ⟨(w.heap.size + 1 + 1), 1, none⟩ = some (.int .i64 0) ∧ wx.frozen? ⟨(w.heap.size + 1 + 1), 0, none⟩ = false ∧ wx.frozen? ⟨(w.heap.size + 1 + 1), 1, none⟩ = false ∧ (w.heap.size + 1 + 1) < wx.heap.size ∧ Below w.heap.size w wx)
    case first =>
      go_wp2_with fail
      go_meet
      refine ⟨rfl, rfl, rfl, rfl, ?_, ?_, ?_, ?_, ?_, ?_, ?_, ?_, ?_, ?_, by repeat' (first | exact Below.refl _ _ | assumption | refine Below.alloc ?_ (by first | omega | (simp; done) | (simp; omega)) _ | refine Below.drew ?_ | refine Below.setCell ?_ (by first | omega | (simp; done) | (simp; omega)) _)⟩
      all_goals (first | omega | (simp [go_sem]; done) | (simp; omega))
    case rest =>
    obtain ⟨rfl, rfl, rfl, rfl, c0, c1, c2, c3, c4, c5, c6, c7, c8, hl, B0⟩ := hcut
    obtain ⟨w0, rfl⟩ : ∃ w0 : World, w0 = wc := ⟨_, rfl⟩
    have lt0 : w.heap.size < w0.heap.size := by omega
    have lt1 : w.heap.size + 1 < w0.heap.size := by omega
    have lt2 : w.heap.size + 1 + 1 < w0.heap.size := by omega
    have KP := Lib.hid (show ∀ W : World, Below w0.heap.size w0 W → W.cell? ⟨w.heap.size, 0, none⟩ = some (.int .i64 a) ∧ W.cell? ⟨w.heap.size, 1, none⟩ = some (.slice As ns cs) ∧ W.cell? ⟨w.heap.size, 2, none⟩ = some (.slice At nt ct) ∧ W.cell? ⟨(w.heap.size + 1), 0, none⟩ = some (.int .i64 x) ∧ W.cell? ⟨(w.heap.size + 1), 1, none⟩ = some (.int .i64 y) ∧ W.cell? ⟨(w.heap.size + 1 + 1), 0, none⟩ = some (.int .i64 0) ∧ W.cell? ⟨(w.heap.size + 1 + 1), 1, none⟩ = some (.int .i64 0) ∧ W.frozen? ⟨(w.heap.size + 1 + 1), 0, none⟩ = false ∧ W.frozen? ⟨(w.heap.size + 1 + 1), 1, none⟩ = false from fun W hW => ⟨(hW.cell (by first | omega | (simp; done) | (simp; omega))).trans c0, (hW.cell (by first | omega | (simp; done) | (simp; omega))).trans c1, (hW.cell (by first | omega | (simp; done) | (simp; omega))).trans c2, (hW.cell (by first | omega | (simp; done) | (simp; omega))).trans c3, (hW.cell (by first | omega | (simp; done) | (simp; omega))).trans c4, (hW.cell (by first | omega | (simp; done) | (simp; omega))).trans c5, (hW.cell (by first | omega | (simp; done) | (simp; omega))).trans c6, (hW.frozen (by first | omega | (simp; done) | (simp; omega))).trans c7, (hW.frozen (by first | omega | (simp; done) | (simp; omega))).trans c8⟩)
    go_wp2_with (first
      | (go_at_call 126; (with_reducible refine (IR _ ?_).mono ?_); (focus (repeat' (first | exact Below.refl _ _ | assumption | (refine B0.trans (Below.mono ?_ B0.size); assumption) | refine Below.alloc ?_ (by first | omega | (simp; done) | (simp; omega)) _ | refine Below.drew ?_ | refine Below.setCell ?_ (by first | omega | (simp; done) | (simp; omega)) _))); rintro e w1 ⟨rfl, hb1⟩; have hB1 : Below w0.heap.size w0 w1 := Below.trans (by repeat' (first | exact Below.refl _ _ | assumption | refine Below.alloc ?_ (by first | omega | (simp; done) | (simp; omega)) _ | refine Below.drew ?_ | refine Below.setCell ?_ (by first | omega | (simp; done) | (simp; omega)) _)) (hb1.mono (by first | omega | (simp; done) | (simp; omega))); have hz1 := hB1.size; obtain ⟨q1_0, q1_1, q1_2, q1_3, q1_4, q1_5, q1_6, q1_7, q1_8⟩ := KP.out w1 hB1; clear hb1))
    (refine bodyPost_ret (v := .tuple #[.agg #[.int .i64 0, .int .i64 0], .int .i64 1]) ?_ rfl ?_; (focus (simp [results, Try.results57, go_sem, *])); exact ⟨endSet_of HV.out, by repeat' (first | exact Below.refl _ _ | assumption | (refine B0.trans (Below.mono ?_ B0.size); assumption) | refine Below.alloc ?_ (by first | omega | (simp; done) | (simp; omega)) _ | refine Below.drew ?_ | refine Below.setCell ?_ (by first | omega | (simp; done) | (simp; omega)) _)⟩)
set_option maxRecDepth 100000 in
set_option maxHeartbeats 4000000 in
theorem sReadStock_any (a : Int) (As : Option Addr) (ns cs : Nat) (ls : List Int) (At : Option Addr) (nt ct : Nat) (lt : List Int) (x y s : Int) (w : World) (hls : ls.length = ns) (hcs : ns ≤ cs) (hns : ns ≤ 1048576) (hrs : Sees w w.heap.size As (ls.map (Value.int .i64))) (hlt : lt.length = nt) (hct : nt ≤ ct) (hnt : nt ≤ 1048576) (hrt : Sees w w.heap.size At (lt.map (Value.int .i64))) :
    Calls Try.prog 54 #[.agg #[.int .i64 a, .slice As ns cs, .slice At nt ct], .agg #[.int .i64 x, .int .i64 y], .int .i64 s] w fun e w' => e = .returned (endSet (rStock a ls lt x y s)) ∧ Below w.heap.size w w' := by
  have LC := fun W (hB : Below w.heap.size w W) => l11Code_any a As ns cs ls At nt ct lt x y false s W hls hcs hns ((hrs.over hB).wider hB.size) hlt hct hnt ((hrt.over hB).wider hB.size)
  clear hls hlt hrs hrt
  by_cases g : l11C a ls lt x y false s = 0
  · have g1 : ruleB a ls lt = true ∧ s ∈ ls := by
      unfold l11C at g
      split at g
      · rename_i hh
        rw [Bool.and_eq_true] at hh
        split at g
        · rename_i hm
          exact ⟨hh.1, hm⟩
        · cases g
      · cases g
    obtain ⟨_, y1, y2⟩ := setB_iff.1 (l11C_zero g)
    have HV := Lib.hid (show rStock a ls lt x y s = ((nD (rdM s y), nT (rdM s y)), 0) by rw [rStock, if_pos g])
    obtain ⟨s0, s4⟩ := stock_bd g1.1 g1.2
    have RD := fun W => l11Read_rd s y W s0 s4 (by omega) (by omega)
    rw [g] at LC
    generalize nD (rdM s y) = rd at *
    generalize nT (rdM s y) = rt at *
    clear g g1
    go_enter Try.func54, Try.ntmps54
    go_upto_region 0 with fail
    go_cut [3, 4, 6, 7] (fun s3 s4 s6 s7 wx => s3 = .pointer (some ⟨w.heap.size, 0, none⟩) ∧ s4 = .pointer (some ⟨w.heap.size + 1, 0, none⟩) ∧ s6 = .pointer (some ⟨w.heap.size + 1 + 1, 0, none⟩) ∧ s7 = .int .i64 0 ∧ wx.cell? ⟨w.heap.size, 0, none⟩ = some (.int .i64 a) ∧ wx.cell? ⟨w.heap.size, 1, none⟩ = some (.slice As ns cs) ∧ wx.cell? ⟨w.heap.size, 2, none⟩ = some (.slice At nt ct) ∧ wx.cell? ⟨(w.heap.size + 1), 0, none⟩ = some (.int .i64 x) ∧ wx.cell? ⟨(w.heap.size + 1), 1, none⟩ = some (.int .i64 y) ∧ wx.cell? ⟨(w.heap.size + 1 + 1), 0, none⟩ = some (.int .i64 0) ∧ wx.cell? ⟨(w.heap.size + 1 + 1), 1, none⟩ = some (.int .i64 0) ∧ wx.frozen? ⟨(w.heap.size + 1 + 1), 0, none⟩ = false ∧ wx.frozen? ⟨(w.heap.size + 1 + 1), 1, none⟩ = false ∧ (w.heap.size + 1 + 1) < wx.heap.size ∧ Below w.heap.size w wx)
    case first =>
      go_wp2_with fail
      go_meet
      refine ⟨rfl, rfl, rfl, rfl, ?_, ?_, ?_, ?_, ?_, ?_, ?_, ?_, ?_, ?_, by repeat' (first | exact Below.refl _ _ | assumption | refine Below.alloc ?_ (by first | omega | (simp; done) | (simp; omega)) _ | refine Below.drew ?_ | refine Below.setCell ?_ (by first | omega | (simp; done) | (simp; omega)) _)⟩
      all_goals (first | omega | (simp [go_sem]; done) | (simp; omega))
    case rest =>
    obtain ⟨rfl, rfl, rfl, rfl, c0, c1, c2, c3, c4, c5, c6, c7, c8, hl, B0⟩ := hcut
    obtain ⟨w0, rfl⟩ : ∃ w0 : World, w0 = wc := ⟨_, rfl⟩
    have lt0 : w.heap.size < w0.heap.size := by omega
    have lt1 : w.heap.size + 1 < w0.heap.size := by omega
    have lt2 : w.heap.size + 1 + 1 < w0.heap.size := by omega
    have KP := Lib.hid (show ∀ W : World, Below w0.heap.size w0 W → W.cell? ⟨w.heap.size, 0, none⟩ = some (.int .i64 a) ∧ W.cell? ⟨w.heap.size, 1, none⟩ = some (.slice As ns cs) ∧ W.cell? ⟨w.heap.size, 2, none⟩ = some (.slice At nt ct) ∧ W.cell? ⟨(w.heap.size + 1), 0, none⟩ = some (.int .i64 x) ∧ W.cell? ⟨(w.heap.size + 1), 1, none⟩ = some (.int .i64 y) ∧ W.cell? ⟨(w.heap.size + 1 + 1), 0, none⟩ = some (.int .i64 0) ∧ W.cell? ⟨(w.heap.size + 1 + 1), 1, none⟩ = some (.int .i64 0) ∧ W.frozen? ⟨(w.heap.size + 1 + 1), 0, none⟩ = false ∧ W.frozen? ⟨(w.heap.size + 1 + 1), 1, none⟩ = false from fun W hW => ⟨(hW.cell (by first | omega | (simp; done) | (simp; omega))).trans c0, (hW.cell (by first | omega | (simp; done) | (simp; omega))).trans c1, (hW.cell (by first | omega | (simp; done) | (simp; omega))).trans c2, (hW.cell (by first | omega | (simp; done) | (simp; omega))).trans c3, (hW.cell (by first | omega | (simp; done) | (simp; omega))).trans c4, (hW.cell (by first | omega | (simp; done) | (simp; omega))).trans c5, (hW.cell (by first | omega | (simp; done) | (simp; omega))).trans c6, (hW.frozen (by first | omega | (simp; done) | (simp; omega))).trans c7, (hW.frozen (by first | omega | (simp; done) | (simp; omega))).trans c8⟩)
    go_wp2_with (first
      | (go_at_call 123; (with_reducible refine (LC _ ?_).mono ?_); (focus (repeat' (first | exact Below.refl _ _ | assumption | (refine B0.trans (Below.mono ?_ B0.size); assumption) | refine Below.alloc ?_ (by first | omega | (simp; done) | (simp; omega)) _ | refine Below.drew ?_ | refine Below.setCell ?_ (by first | omega | (simp; done) | (simp; omega)) _))); rintro e w1 ⟨rfl, hb1⟩; have hB1 : Below w0.heap.size w0 w1 := Below.trans (by repeat' (first | exact Below.refl _ _ | assumption | refine Below.alloc ?_ (by first | omega | (simp; done) | (simp; omega)) _ | refine Below.drew ?_ | refine Below.setCell ?_ (by first | omega | (simp; done) | (simp; omega)) _)) (hb1.mono (by first | omega | (simp; done) | (simp; omega))); have hz1 := hB1.size; obtain ⟨q1_0, q1_1, q1_2, q1_3, q1_4, q1_5, q1_6, q1_7, q1_8⟩ := KP.out w1 hB1; clear hb1)
      | (go_at_call 124; (with_reducible refine (RD _).mono ?_); rintro e w2 ⟨rfl, hb2⟩; have hB2 : Below w0.heap.size w0 w2 := Below.trans (by repeat' (first | exact Below.refl _ _ | assumption | refine Below.alloc ?_ (by first | omega | (simp; done) | (simp; omega)) _ | refine Below.drew ?_ | refine Below.setCell ?_ (by first | omega | (simp; done) | (simp; omega)) _)) (hb2.mono (by first | omega | (simp; done) | (simp; omega))); have hz2 := hB2.size; obtain ⟨q2_0, q2_1, q2_2, q2_3, q2_4, q2_5, q2_6, q2_7, q2_8⟩ := KP.out w2 hB2; clear hb2))
    (refine bodyPost_ret (v := .tuple #[.agg #[.int .i64 rd, .int .i64 rt], .int .i64 0]) ?_ rfl ?_; (focus (simp [results, Try.results54, go_sem, *])); exact ⟨endSet_of HV.out, by repeat' (first | exact Below.refl _ _ | assumption | (refine B0.trans (Below.mono ?_ B0.size); assumption) | refine Below.alloc ?_ (by first | omega | (simp; done) | (simp; omega)) _ | refine Below.drew ?_ | refine Below.setCell ?_ (by first | omega | (simp; done) | (simp; omega)) _)⟩)
  · have HV := Lib.hid (show rStock a ls lt x y s = ((0, 0), l11C a ls lt x y false s) by rw [rStock, if_neg g])
    generalize l11C a ls lt x y false s = z at *
    have tz : (z != 0) = true := by simpa using g
    go_enter Try.func54, Try.ntmps54
    go_upto_region 0 with fail
    go_cut [3, 4, 6, 7] (fun s3 s4 s6 s7 wx => s3 = .pointer (some ⟨w.heap.size, 0, none⟩) ∧ s4 = .pointer (some ⟨w.heap.size + 1, 0, none⟩) ∧ s6 = .pointer (some ⟨w.heap.size + 1 + 1, 0, none⟩) ∧ s7 = .int .i64 0 ∧ wx.cell? ⟨w.heap.size, 0, none⟩ = some (.int .i64 a) ∧ wx.cell? ⟨w.heap.size, 1, none⟩ = some (.slice As ns cs) ∧ wx.cell? ⟨w.heap.size, 2, none⟩ = some (.slice At nt ct) ∧ wx.cell? ⟨(w.heap.size + 1), 0, none⟩ = some (.int .i64 x) ∧ wx.cell? ⟨(w.heap.size + 1), 1, none⟩ = some (.int .i64 y) ∧ wx.cell? ⟨(w.heap.size + 1 + 1), 0, none⟩ = some (.int .i64 0) ∧ wx.cell? ⟨(w.heap.size + 1 + 1), 1, none⟩ = some (.int .i64 0) ∧ wx.frozen? ⟨(w.heap.size + 1 + 1), 0, none⟩ = false ∧ wx.frozen? ⟨(w.heap.size + 1 + 1), 1, none⟩ = false ∧ (w.heap.size + 1 + 1) < wx.heap.size ∧ Below w.heap.size w wx)
    case first =>
      go_wp2_with fail
      go_meet
      refine ⟨rfl, rfl, rfl, rfl, ?_, ?_, ?_, ?_, ?_, ?_, ?_, ?_, ?_, ?_, by repeat' (first | exact Below.refl _ _ | assumption | refine Below.alloc ?_ (by first | omega | (simp; done) | (simp; omega)) _ | refine Below.drew ?_ | refine Below.setCell ?_ (by first | omega | (simp; done) | (simp; omega)) _)⟩
      all_goals (first | omega | (simp [go_sem]; done) | (simp; omega))
    case rest =>
    obtain ⟨rfl, rfl, rfl, rfl, c0, c1, c2, c3, c4, c5, c6, c7, c8, hl, B0⟩ := hcut
    obtain ⟨w0, rfl⟩ : ∃ w0 : World, w0 = wc := ⟨_, rfl⟩
    have lt0 : w.heap.size < w0.heap.size := by omega
    have lt1 : w.heap.size + 1 < w0.heap.size := by omega
    have lt2 : w.heap.size + 1 + 1 < w0.heap.size := by omega
    have KP := Lib.hid (show ∀ W : World, Below w0.heap.size w0 W → W.cell? ⟨w.heap.size, 0, none⟩ = some (.int .i64 a) ∧ W.cell? ⟨w.heap.size, 1, none⟩ = some (.slice As ns cs) ∧ W.cell? ⟨w.heap.size, 2, none⟩ = some (.slice At nt ct) ∧ W.cell? ⟨(w.heap.size + 1), 0, none⟩ = some (.int .i64 x) ∧ W.cell? ⟨(w.heap.size + 1), 1, none⟩ = some (.int .i64 y) ∧ W.cell? ⟨(w.heap.size + 1 + 1), 0, none⟩ = some (.int .i64 0) ∧ W.cell? ⟨(w.heap.size + 1 + 1), 1, none⟩ = some (.int .i64 0) ∧ W.frozen? ⟨(w.heap.size + 1 + 1), 0, none⟩ = false ∧ W.frozen? ⟨(w.heap.size + 1 + 1), 1, none⟩ = false from fun W hW => ⟨(hW.cell (by first | omega | (simp; done) | (simp; omega))).trans c0, (hW.cell (by first | omega | (simp; done) | (simp; omega))).trans c1, (hW.cell (by first | omega | (simp; done) | (simp; omega))).trans c2, (hW.cell (by first | omega | (simp; done) | (simp; omega))).trans c3, (hW.cell (by first | omega | (simp; done) | (simp; omega))).trans c4, (hW.cell (by first | omega | (simp; done) | (simp; omega))).trans c5, (hW.cell (by first | omega | (simp; done) | (simp; omega))).trans c6, (hW.frozen (by first | omega | (simp; done) | (simp; omega))).trans c7, (hW.frozen (by first | omega | (simp; done) | (simp; omega))).trans c8⟩)
    go_wp2_with (first
      | (go_at_call 123; (with_reducible refine (LC _ ?_).mono ?_); (focus (repeat' (first | exact Below.refl _ _ | assumption | (refine B0.trans (Below.mono ?_ B0.size); assumption) | refine Below.alloc ?_ (by first | omega | (simp; done) | (simp; omega)) _ | refine Below.drew ?_ | refine Below.setCell ?_ (by first | omega | (simp; done) | (simp; omega)) _))); rintro e w1 ⟨rfl, hb1⟩; have hB1 : Below w0.heap.size w0 w1 := Below.trans (by repeat' (first | exact Below.refl _ _ | assumption | refine Below.alloc ?_ (by first | omega | (simp; done) | (simp; omega)) _ | refine Below.drew ?_ | refine Below.setCell ?_ (by first | omega | (simp; done) | (simp; omega)) _)) (hb1.mono (by first | omega | (simp; done) | (simp; omega))); have hz1 := hB1.size; obtain ⟨q1_0, q1_1, q1_2, q1_3, q1_4, q1_5, q1_6, q1_7, q1_8⟩ := KP.out w1 hB1; clear hb1))
    (refine bodyPost_ret (v := .tuple #[.agg #[.int .i64 0, .int .i64 0], .int .i64 z]) ?_ rfl ?_; (focus (simp [results, Try.results54, go_sem, *])); exact ⟨endSet_of HV.out, by repeat' (first | exact Below.refl _ _ | assumption | (refine B0.trans (Below.mono ?_ B0.size); assumption) | refine Below.alloc ?_ (by first | omega | (simp; done) | (simp; omega)) _ | refine Below.drew ?_ | refine Below.setCell ?_ (by first | omega | (simp; done) | (simp; omega)) _)⟩)
theorem szRule_bel (a : Int) (As : Option Addr) (ns cs : Nat) (At : Option Addr) (nt ct : Nat) (w : World) (h : ns + nt ≤ 1048576) :
    Calls Try.prog 53 #[.agg #[.int .i64 a, .slice As ns cs, .slice At nt ct], .int .i64 1048576] w fun e w' => e = .returned (.int .i64 (1048576 - (ns : Int) - (nt : Int))) ∧ Below w.heap.size w w' := oneAlloc (szRule_yes a As ns cs At nt ct w h)
set_option maxHeartbeats 400000 in
theorem toSetting_ex (a b : Int) (w : World) :
    Calls Try.prog 56 #[.agg #[.int .i64 a, .int .i64 b]] w fun e w' => e = .returned (.agg #[.int .i64 a, .int .i64 b]) ∧
      ((w.alloc (.cells #[.int .i64 a, .int .i64 b] 81)).alloc (.cells #[.int .i64 a, .int .i64 b] 86)).alloc (.cells #[.int .i64 a, .int .i64 b] 86) = w' := by
  go_enter Try.func56, Try.ntmps56
  go_wp2
  exact bodyPost_ret (v := .agg #[.int .i64 a, .int .i64 b]) (by simp [results, Try.results56, go_sem]) rfl ⟨rfl, rfl⟩
set_option maxHeartbeats 400000 in
theorem eqFigure_bel (a b : Int) (w : World) :
    Calls Try.prog 58 #[.agg #[.int .i64 a, .int .i64 b], .agg #[.int .i64 a, .int .i64 b]] w fun e w' => e = .returned (.bool true) ∧ Below w.heap.size w w' := by
  go_enter Try.func58, Try.ntmps58
  go_wp2
  go_ret
  exact ⟨by simp, by repeat' (first | exact Below.refl _ _ | assumption | refine Below.alloc ?_ (by first | omega | (simp; done) | (simp; omega)) _ | refine Below.drew ?_ | refine Below.setCell ?_ (by first | omega | (simp; done) | (simp; omega)) _)⟩
set_option maxRecDepth 100000 in
set_option maxHeartbeats 8000000 in
theorem fnExactReadStock_walk (a : Int) (As : Option Addr) (ns cs : Nat) (ls : List Int) (At : Option Addr) (nt ct : Nat) (lt : List Int) (x : Int) (y : Int) (s : Int) (w : World) (_ha : I64 a) (hls : ls.length = ns) (hcs : ns ≤ cs) (hms : cs ≤ maxLen) (hrs : Sees w w.heap.size As (ls.map (Value.int .i64))) (_hxs : I64s ls)
    (hlt : lt.length = nt) (hct : nt ≤ ct) (hmt : ct ≤ maxLen) (hrt : Sees w w.heap.size At (lt.map (Value.int .i64))) (_hxt : I64s lt) (_gx : I64 x) (_gy : I64 y) (_gs : I64 s) :
    Calls Try.prog 7 #[.agg #[.int .i64 a, .slice As ns cs, .slice At nt ct], .agg #[.int .i64 x, .int .i64 y], .int .i64 s] w fun e w' => e = .returned (.bool true) ∧ Below w.heap.size w w' := by
  unfold maxLen at hms hmt
  by_cases hsz : ns + nt ≤ 1048576
  · have hns : ns ≤ 1048576 := by omega
    have hnt : nt ≤ 1048576 := by omega
    have SZ := fun W => szRule_bel a As ns cs At nt ct W hsz
    have TR := fun W (hB : Below w.heap.size w W) => toRule_any a As ns cs ls At nt ct lt W hls hns ((hrs.over hB).wider hB.size) hlt hnt ((hrt.over hB).wider hB.size)
    have EQ := fun (g h g' h' : Nat) W (hF : (Full W g 2 (ls.map (Value.int .i64)).toArray ∧ Full W h 2 (lt.map (Value.int .i64)).toArray) ∧ (Full W g' 2 (ls.map (Value.int .i64)).toArray ∧ Full W h' 2 (lt.map (Value.int .i64)).toArray)) => eqRule_same a (some ⟨g, 0, none⟩) (some ⟨g', 0, none⟩) (some ⟨h, 0, none⟩) (some ⟨h', 0, none⟩) ns nt ns ns nt nt ls lt W hls hns hlt hnt hF.1.1.sees hF.2.1.sees hF.1.2.sees hF.2.2.sees
    have SS := fun (g h : Nat) W (hF : Full W g 2 (ls.map (Value.int .i64)).toArray ∧ Full W h 2 (lt.map (Value.int .i64)).toArray) => sReadStock_any a (some ⟨g, 0, none⟩) ns ns ls (some ⟨h, 0, none⟩) nt nt lt x y s W hls (Nat.le_refl _) hns hF.1.sees hlt (Nat.le_refl _) hnt hF.2.sees
    have II := fun (g h : Nat) W (hF : Full W g 2 (ls.map (Value.int .i64)).toArray ∧ Full W h 2 (lt.map (Value.int .i64)).toArray) => iReadStock_any a (some ⟨g, 0, none⟩) ns ns ls (some ⟨h, 0, none⟩) nt nt lt x y s W hls (Nat.le_refl _) hns hF.1.sees hlt (Nat.le_refl _) hnt hF.2.sees
    obtain ⟨⟨⟨k1, k2⟩, z⟩, HP⟩ : ∃ p, Hid (rStock a ls lt x y s = p) := ⟨_, Lib.hid rfl⟩
    rw [HP.out] at SS II
    unfold endSet at SS II
    generalize (ls.map (Value.int .i64)).toArray = XA at *
    generalize (lt.map (Value.int .i64)).toArray = YA at *
    clear HP hls hlt hrs hrt
    go_enter Try.func7, Try.ntmps7
    go_upto_region 0 with fail
    go_cut [3, 4, 6] (fun s3 s4 s6 wx => s3 = .pointer (some ⟨w.heap.size, 0, none⟩) ∧ s4 = .pointer (some ⟨w.heap.size + 1, 0, none⟩) ∧ s6 = .bool false ∧ wx.cell? ⟨w.heap.size, 0, none⟩ = some (.int .i64 a) ∧ wx.cell? ⟨w.heap.size, 1, none⟩ = some (.slice As ns cs) ∧ wx.cell? ⟨w.heap.size, 2, none⟩ = some (.slice At nt ct) ∧ wx.cell? ⟨(w.heap.size + 1), 0, none⟩ = some (.int .i64 x) ∧ wx.cell? ⟨(w.heap.size + 1), 1, none⟩ = some (.int .i64 y) ∧ (w.heap.size + 1) < wx.heap.size ∧ Below w.heap.size w wx)
    case first =>
      go_wp2_with fail
      go_meet
      refine ⟨rfl, rfl, rfl, ?_, ?_, ?_, ?_, ?_, ?_, by repeat' (first | exact Below.refl _ _ | assumption | refine Below.alloc ?_ (by first | omega | (simp; done) | (simp; omega)) _ | refine Below.drew ?_ | refine Below.setCell ?_ (by first | omega | (simp; done) | (simp; omega)) _)⟩
      all_goals (first | omega | (simp [go_sem]; done) | (simp; omega))
    case rest =>
    obtain ⟨rfl, rfl, rfl, c0, c1, c2, c3, c4, hl, B0⟩ := hcut
    obtain ⟨w0, rfl⟩ : ∃ w0 : World, w0 = wc := ⟨_, rfl⟩
    have lw0 := B0.size
    have KP := Lib.hid (show ∀ W : World, Below w0.heap.size w0 W → W.cell? ⟨w.heap.size, 0, none⟩ = some (.int .i64 a) ∧ W.cell? ⟨w.heap.size, 1, none⟩ = some (.slice As ns cs) ∧ W.cell? ⟨w.heap.size, 2, none⟩ = some (.slice At nt ct) ∧ W.cell? ⟨(w.heap.size + 1), 0, none⟩ = some (.int .i64 x) ∧ W.cell? ⟨(w.heap.size + 1), 1, none⟩ = some (.int .i64 y) from fun W hW => ⟨(hW.cell (by first | omega | (simp; done) | (simp; omega))).trans c0, (hW.cell (by first | omega | (simp; done) | (simp; omega))).trans c1, (hW.cell (by first | omega | (simp; done) | (simp; omega))).trans c2, (hW.cell (by first | omega | (simp; done) | (simp; omega))).trans c3, (hW.cell (by first | omega | (simp; done) | (simp; omega))).trans c4⟩)
    go_upto_region 5 with (go_at_call 53; (with_reducible refine (SZ _).mono ?_); rintro e w1 ⟨rfl, hb1⟩; have hB1 : Below w0.heap.size w0 w1 := Below.trans (by repeat' (first | exact Below.refl _ _ | assumption | refine Below.alloc ?_ (by first | omega | (simp; done) | (simp; omega)) _ | refine Below.drew ?_ | refine Below.setCell ?_ (by first | omega | (simp; done) | (simp; omega)) _)) (hb1.mono (by first | omega | (simp; done) | (simp; omega))); have hz1 := hB1.size; obtain ⟨q1_0, q1_1, q1_2, q1_3, q1_4⟩ := KP.out w1 hB1; clear hb1)
    go_cut [8, 9] (fun s8 s9 wx => ∃ g : Nat, s8 = .pointer (some ⟨g, 0, none⟩) ∧ s9 = .int .i64 z ∧ wx.cell? ⟨g, 0, none⟩ = some (.int .i64 k1) ∧ wx.cell? ⟨g, 1, none⟩ = some (.int .i64 k2) ∧ g < wx.heap.size ∧ Below w0.heap.size w0 wx)
    case first =>
      go_region_held3 (fun w' => w'.cell? ⟨w.heap.size, 0, none⟩ = some (.int .i64 a) ∧ w'.cell? ⟨w.heap.size, 1, none⟩ = some (.slice As ns cs) ∧ w'.cell? ⟨w.heap.size, 2, none⟩ = some (.slice At nt ct) ∧ w'.cell? ⟨(w.heap.size + 1), 0, none⟩ = some (.int .i64 x) ∧ w'.cell? ⟨(w.heap.size + 1), 1, none⟩ = some (.int .i64 y)) (first | (exact KP.out _ (by repeat' (first | exact Below.refl _ _ | assumption | refine Below.alloc ?_ (by first | omega | (simp; done) | (simp; omega)) _ | refine Below.drew ?_ | refine Below.setCell ?_ (by first | omega | (simp; done) | (simp; omega)) _))) | (go_keep; done)) (first
        | (go_at_call 55; (with_reducible refine (TR _ ?_).mono ?_); (focus (repeat' (first | exact Below.refl _ _ | assumption | (refine B0.trans (Below.mono ?_ B0.size); assumption) | (refine BA.trans (Below.mono ?_ BA.size); assumption) | (refine BB.trans (Below.mono ?_ BB.size); assumption) | (refine BD.trans (Below.mono ?_ BD.size); assumption) |  refine Below.alloc ?_ (by first | omega | (simp; done) | (simp; omega)) _ | refine Below.drew ?_ | refine Below.setCell ?_ (by first | omega | (simp; done) | (simp; omega)) _))); rintro e w2 ⟨g2, h2, rfl, hg2, hh2, hgh2, G2, H2, hb2⟩; have hB2 : Below w0.heap.size w0 w2 := Below.trans (by repeat' (first | exact Below.refl _ _ | assumption | refine Below.alloc ?_ (by first | omega | (simp; done) | (simp; omega)) _ | refine Below.drew ?_ | refine Below.setCell ?_ (by first | omega | (simp; done) | (simp; omega)) _)) (hb2.mono (by first | omega | (simp; done) | (simp; omega))); have hz2 := hB2.size; obtain ⟨q2_0, q2_1, q2_2, q2_3, q2_4⟩ := KP.out w2 hB2; have KG2 := Lib.hid (show ∀ W : World, Below w2.heap.size w2 W → Full W g2 2 XA ∧ Full W h2 2 YA from fun W hW => ⟨G2.over hW G2.inside, H2.over hW H2.inside⟩); (try (refine (fun (hm2_0 : w1.heap.size < w2.heap.size) => ?_) ?_; rotate_left; refine Nat.lt_of_lt_of_le ?_ hb2.size; (focus (first | omega | (simp; done) | (simp; omega))); refine (fun (mq2_00 : w2.cell? ⟨w1.heap.size, 0, none⟩ = some (.int .i64 0)) => ?_) ?_; rotate_left; refine (hb2.cell ?_).trans ?_; (focus (first | omega | (simp; done) | (simp; omega))); (focus (simp [go_sem, *]; done)); refine (fun (mr2_00 : w2.frozen? ⟨w1.heap.size, 0, none⟩ = false) => ?_) ?_; rotate_left; refine (hb2.frozen ?_).trans ?_; (focus (first | omega | (simp; done) | (simp; omega))); (focus (simp [go_sem, *]; done)); refine (fun (mq2_01 : w2.cell? ⟨w1.heap.size, 1, none⟩ = some (.int .i64 0)) => ?_) ?_; rotate_left; refine (hb2.cell ?_).trans ?_; (focus (first | omega | (simp; done) | (simp; omega))); (focus (simp [go_sem, *]; done)); refine (fun (mr2_01 : w2.frozen? ⟨w1.heap.size, 1, none⟩ = false) => ?_) ?_; rotate_left; refine (hb2.frozen ?_).trans ?_; (focus (first | omega | (simp; done) | (simp; omega))); (focus (simp [go_sem, *]; done)); have KM := Lib.hid (show ∀ W : World, Below w2.heap.size w2 W → w1.heap.size < W.heap.size ∧ W.cell? ⟨w1.heap.size, 0, none⟩ = some (.int .i64 0) ∧ W.cell? ⟨w1.heap.size, 1, none⟩ = some (.int .i64 0) ∧ W.frozen? ⟨w1.heap.size, 0, none⟩ = false ∧ W.frozen? ⟨w1.heap.size, 1, none⟩ = false from fun W hW => ⟨Nat.lt_of_lt_of_le hm2_0 hW.size, (hW.cell (p := ⟨w1.heap.size, 0, none⟩) hm2_0).trans mq2_00, (hW.cell (p := ⟨w1.heap.size, 1, none⟩) hm2_0).trans mq2_01, (hW.frozen (p := ⟨w1.heap.size, 0, none⟩) hm2_0).trans mr2_00, (hW.frozen (p := ⟨w1.heap.size, 1, none⟩) hm2_0).trans mr2_01⟩))); clear hb2 G2 H2)
        | (go_at_call 56; (with_reducible refine (toSetting_ex _ _ _).mono ?_); rintro e w' ⟨rfl, rfl⟩)
        | fail
        | (go_at_call 54; (with_reducible refine (SS _ _ _ ?_).mono ?_); (focus (exact KG2.out _ (by repeat' (first | exact Below.refl _ _ | assumption | refine Below.alloc ?_ (by first | omega | (simp; done) | (simp; omega)) _ | refine Below.drew ?_ | refine Below.setCell ?_ (by first | omega | (simp; done) | (simp; omega)) _)))); rintro e w3 ⟨rfl, hb3⟩; have hB3 : Below w0.heap.size w0 w3 := Below.trans (by repeat' (first | exact Below.refl _ _ | assumption | refine Below.alloc ?_ (by first | omega | (simp; done) | (simp; omega)) _ | refine Below.drew ?_ | refine Below.setCell ?_ (by first | omega | (simp; done) | (simp; omega)) _)) (hb3.mono (by first | omega | (simp; done) | (simp; omega))); have hz3 := hB3.size; obtain ⟨q3_0, q3_1, q3_2, q3_3, q3_4⟩ := KP.out w3 hB3; have hC3 : Below w2.heap.size w2 w3 := Below.trans (by repeat' (first | exact Below.refl _ _ | assumption | refine Below.alloc ?_ (by first | omega | (simp; done) | (simp; omega)) _ | refine Below.drew ?_ | refine Below.setCell ?_ (by first | omega | (simp; done) | (simp; omega)) _)) (hb3.mono (by first | omega | (simp; done) | (simp; omega))); (try (obtain ⟨m0, m1, m2, m3, m4⟩ := KM.out w3 hC3)); (try (refine (fun (hm3_0 : w2.heap.size < w3.heap.size) => ?_) ?_; rotate_left; refine Nat.lt_of_lt_of_le ?_ hb3.size; (focus (first | omega | (simp; done) | (simp; omega))); refine (fun (mq3_00 : w3.cell? ⟨w2.heap.size, 0, none⟩ = some (.int .i64 0)) => ?_) ?_; rotate_left; refine (hb3.cell ?_).trans ?_; (focus (first | omega | (simp; done) | (simp; omega))); (focus (simp [go_sem, *]; done)); refine (fun (mr3_00 : w3.frozen? ⟨w2.heap.size, 0, none⟩ = false) => ?_) ?_; rotate_left; refine (hb3.frozen ?_).trans ?_; (focus (first | omega | (simp; done) | (simp; omega))); (focus (simp [go_sem, *]; done)); refine (fun (mq3_01 : w3.cell? ⟨w2.heap.size, 1, none⟩ = some (.int .i64 0)) => ?_) ?_; rotate_left; refine (hb3.cell ?_).trans ?_; (focus (first | omega | (simp; done) | (simp; omega))); (focus (simp [go_sem, *]; done)); refine (fun (mr3_01 : w3.frozen? ⟨w2.heap.size, 1, none⟩ = false) => ?_) ?_; rotate_left; refine (hb3.frozen ?_).trans ?_; (focus (first | omega | (simp; done) | (simp; omega))); (focus (simp [go_sem, *]; done)))); (try (refine (fun (hm3_1 : (w2.heap.size + 1 + 1 + 1) < w3.heap.size) => ?_) ?_; rotate_left; refine Nat.lt_of_lt_of_le ?_ hb3.size; (focus (first | omega | (simp; done) | (simp; omega))); refine (fun (mq3_10 : w3.cell? ⟨(w2.heap.size + 1 + 1 + 1), 0, none⟩ = some (.int .i64 0)) => ?_) ?_; rotate_left; refine (hb3.cell ?_).trans ?_; (focus (first | omega | (simp; done) | (simp; omega))); (focus (simp [go_sem, *]; done)); refine (fun (mr3_10 : w3.frozen? ⟨(w2.heap.size + 1 + 1 + 1), 0, none⟩ = false) => ?_) ?_; rotate_left; refine (hb3.frozen ?_).trans ?_; (focus (first | omega | (simp; done) | (simp; omega))); (focus (simp [go_sem, *]; done)); refine (fun (mq3_11 : w3.cell? ⟨(w2.heap.size + 1 + 1 + 1), 1, none⟩ = some (.int .i64 0)) => ?_) ?_; rotate_left; refine (hb3.cell ?_).trans ?_; (focus (first | omega | (simp; done) | (simp; omega))); (focus (simp [go_sem, *]; done)); refine (fun (mr3_11 : w3.frozen? ⟨(w2.heap.size + 1 + 1 + 1), 1, none⟩ = false) => ?_) ?_; rotate_left; refine (hb3.frozen ?_).trans ?_; (focus (first | omega | (simp; done) | (simp; omega))); (focus (simp [go_sem, *]; done)))); clear hb3))
      all_goals (go_wp2_with fail; go_meet; refine ⟨_, rfl, rfl, ?_, ?_, ?_, by repeat' (first | exact Below.refl _ _ | assumption | refine Below.alloc ?_ (by first | omega | (simp; done) | (simp; omega)) _ | refine Below.drew ?_ | refine Below.setCell ?_ (by first | omega | (simp; done) | (simp; omega)) _)⟩)
      all_goals (first | omega | (simp [go_sem, *]; done) | (simp; omega))
    case rest =>
    obtain ⟨ga, rfl, rfl, u0, u1, hga, BA⟩ := hcut
    obtain ⟨wA, rfl⟩ : ∃ wA : World, wA = wc := ⟨_, rfl⟩
    have lwA := BA.size
    obtain ⟨d0, d1, d2, d3, d4⟩ := KP.out wA BA
    have KA := Lib.hid (show ∀ W : World, Below wA.heap.size wA W → W.cell? ⟨w.heap.size, 0, none⟩ = some (.int .i64 a) ∧ W.cell? ⟨w.heap.size, 1, none⟩ = some (.slice As ns cs) ∧ W.cell? ⟨w.heap.size, 2, none⟩ = some (.slice At nt ct) ∧ W.cell? ⟨(w.heap.size + 1), 0, none⟩ = some (.int .i64 x) ∧ W.cell? ⟨(w.heap.size + 1), 1, none⟩ = some (.int .i64 y) ∧ W.cell? ⟨ga, 0, none⟩ = some (.int .i64 k1) ∧ W.cell? ⟨ga, 1, none⟩ = some (.int .i64 k2) from fun W hW => ⟨(hW.cell (by first | omega | (simp; done) | (simp; omega))).trans d0, (hW.cell (by first | omega | (simp; done) | (simp; omega))).trans d1, (hW.cell (by first | omega | (simp; done) | (simp; omega))).trans d2, (hW.cell (by first | omega | (simp; done) | (simp; omega))).trans d3, (hW.cell (by first | omega | (simp; done) | (simp; omega))).trans d4, (hW.cell (by first | omega | (simp; done) | (simp; omega))).trans u0, (hW.cell (by first | omega | (simp; done) | (simp; omega))).trans u1⟩)
    go_upto_region 6 with fail
    go_cut [10] (fun s10 wx => ∃ q g h : Nat, s10 = .pointer (some ⟨q, 0, none⟩) ∧ wx.cell? ⟨q, 0, none⟩ = some (.int .i64 a) ∧ wx.cell? ⟨q, 1, none⟩ = some (.slice (some ⟨g, 0, none⟩) ns ns) ∧ wx.cell? ⟨q, 2, none⟩ = some (.slice (some ⟨h, 0, none⟩) nt nt) ∧ q < wx.heap.size ∧ (Full wx g 2 XA ∧ Full wx h 2 YA) ∧ Below wA.heap.size wA wx)
    case first =>
      have BB : True := trivial
      go_wp2_with (go_at_call 55; (with_reducible refine (TR _ ?_).mono ?_); (focus (repeat' (first | exact Below.refl _ _ | assumption | (refine B0.trans (Below.mono ?_ B0.size); assumption) | (refine BA.trans (Below.mono ?_ BA.size); assumption) | (refine BB.trans (Below.mono ?_ BB.size); assumption) | (refine BD.trans (Below.mono ?_ BD.size); assumption) |  refine Below.alloc ?_ (by first | omega | (simp; done) | (simp; omega)) _ | refine Below.drew ?_ | refine Below.setCell ?_ (by first | omega | (simp; done) | (simp; omega)) _))); rintro e w4 ⟨g4, h4, rfl, hg4, hh4, hgh4, G4, H4, hb4⟩; have hB4 : Below wA.heap.size wA w4 := Below.trans (by repeat' (first | exact Below.refl _ _ | assumption | refine Below.alloc ?_ (by first | omega | (simp; done) | (simp; omega)) _ | refine Below.drew ?_ | refine Below.setCell ?_ (by first | omega | (simp; done) | (simp; omega)) _)) (hb4.mono (by first | omega | (simp; done) | (simp; omega))); have hz4 := hB4.size; obtain ⟨q4_0, q4_1, q4_2, q4_3, q4_4, q4_5, q4_6⟩ := KA.out w4 hB4; have KG4 := Lib.hid (show ∀ W : World, Below w4.heap.size w4 W → Full W g4 2 XA ∧ Full W h4 2 YA from fun W hW => ⟨G4.over hW G4.inside, H4.over hW H4.inside⟩); clear hb4 G4 H4)
      go_meet
      refine ⟨_, _, _, rfl, ?_, ?_, ?_, ?_, ⟨(KG4.out _ (by repeat' (first | exact Below.refl _ _ | assumption | refine Below.alloc ?_ (by first | omega | (simp; done) | (simp; omega)) _ | refine Below.drew ?_ | refine Below.setCell ?_ (by first | omega | (simp; done) | (simp; omega)) _))).1, (KG4.out _ (by repeat' (first | exact Below.refl _ _ | assumption | refine Below.alloc ?_ (by first | omega | (simp; done) | (simp; omega)) _ | refine Below.drew ?_ | refine Below.setCell ?_ (by first | omega | (simp; done) | (simp; omega)) _))).2⟩, by repeat' (first | exact Below.refl _ _ | assumption | refine Below.alloc ?_ (by first | omega | (simp; done) | (simp; omega)) _ | refine Below.drew ?_ | refine Below.setCell ?_ (by first | omega | (simp; done) | (simp; omega)) _)⟩
      all_goals (first | omega | (simp [go_sem, *]; done) | (simp; omega))
    case rest =>
    obtain ⟨qb, gb, hb, rfl, v0, v1, v2, hqb, FB, BB⟩ := hcut
    obtain ⟨wB, rfl⟩ : ∃ wB : World, wB = wc := ⟨_, rfl⟩
    have lwB := BB.size
    obtain ⟨e0, e1, e2, e3, e4, e5, e6⟩ := KA.out wB BB
    have KB := Lib.hid (show ∀ W : World, Below wB.heap.size wB W → W.cell? ⟨w.heap.size, 0, none⟩ = some (.int .i64 a) ∧ W.cell? ⟨w.heap.size, 1, none⟩ = some (.slice As ns cs) ∧ W.cell? ⟨w.heap.size, 2, none⟩ = some (.slice At nt ct) ∧ W.cell? ⟨(w.heap.size + 1), 0, none⟩ = some (.int .i64 x) ∧ W.cell? ⟨(w.heap.size + 1), 1, none⟩ = some (.int .i64 y) ∧ W.cell? ⟨ga, 0, none⟩ = some (.int .i64 k1) ∧ W.cell? ⟨ga, 1, none⟩ = some (.int .i64 k2) ∧ W.cell? ⟨qb, 0, none⟩ = some (.int .i64 a) ∧ W.cell? ⟨qb, 1, none⟩ = some (.slice (some ⟨gb, 0, none⟩) ns ns) ∧ W.cell? ⟨qb, 2, none⟩ = some (.slice (some ⟨hb, 0, none⟩) nt nt) from fun W hW => ⟨(hW.cell (by first | omega | (simp; done) | (simp; omega))).trans e0, (hW.cell (by first | omega | (simp; done) | (simp; omega))).trans e1, (hW.cell (by first | omega | (simp; done) | (simp; omega))).trans e2, (hW.cell (by first | omega | (simp; done) | (simp; omega))).trans e3, (hW.cell (by first | omega | (simp; done) | (simp; omega))).trans e4, (hW.cell (by first | omega | (simp; done) | (simp; omega))).trans e5, (hW.cell (by first | omega | (simp; done) | (simp; omega))).trans e6, (hW.cell (by first | omega | (simp; done) | (simp; omega))).trans v0, (hW.cell (by first | omega | (simp; done) | (simp; omega))).trans v1, (hW.cell (by first | omega | (simp; done) | (simp; omega))).trans v2⟩)
    have KGB := Lib.hid (show ∀ W : World, Below wB.heap.size wB W → Full W gb 2 XA ∧ Full W hb 2 YA from fun W hW => ⟨FB.1.over hW FB.1.inside, FB.2.over hW FB.2.inside⟩)
    clear FB
    go_upto_region 7 with fail
    go_cut [11, 12] (fun s11 s12 wx => ∃ g : Nat, s11 = .pointer (some ⟨g, 0, none⟩) ∧ s12 = .int .i64 z ∧ wx.cell? ⟨g, 0, none⟩ = some (.int .i64 k1) ∧ wx.cell? ⟨g, 1, none⟩ = some (.int .i64 k2) ∧ g < wx.heap.size ∧ Below wB.heap.size wB wx)
    case first =>
      go_region_held3 (fun w' => w'.cell? ⟨w.heap.size, 0, none⟩ = some (.int .i64 a) ∧ w'.cell? ⟨w.heap.size, 1, none⟩ = some (.slice As ns cs) ∧ w'.cell? ⟨w.heap.size, 2, none⟩ = some (.slice At nt ct) ∧ w'.cell? ⟨(w.heap.size + 1), 0, none⟩ = some (.int .i64 x) ∧ w'.cell? ⟨(w.heap.size + 1), 1, none⟩ = some (.int .i64 y) ∧ w'.cell? ⟨ga, 0, none⟩ = some (.int .i64 k1) ∧ w'.cell? ⟨ga, 1, none⟩ = some (.int .i64 k2) ∧ w'.cell? ⟨qb, 0, none⟩ = some (.int .i64 a) ∧ w'.cell? ⟨qb, 1, none⟩ = some (.slice (some ⟨gb, 0, none⟩) ns ns) ∧ w'.cell? ⟨qb, 2, none⟩ = some (.slice (some ⟨hb, 0, none⟩) nt nt)) (first | (exact KB.out _ (by repeat' (first | exact Below.refl _ _ | assumption | refine Below.alloc ?_ (by first | omega | (simp; done) | (simp; omega)) _ | refine Below.drew ?_ | refine Below.setCell ?_ (by first | omega | (simp; done) | (simp; omega)) _))) | (go_keep; done)) (first
        | (go_at_call 56; (with_reducible refine (toSetting_ex _ _ _).mono ?_); rintro e w' ⟨rfl, rfl⟩)
        | fail
        | (go_at_call 57; (with_reducible refine (II _ _ _ ?_).mono ?_); (focus (exact KGB.out _ (by repeat' (first | exact Below.refl _ _ | assumption | refine Below.alloc ?_ (by first | omega | (simp; done) | (simp; omega)) _ | refine Below.drew ?_ | refine Below.setCell ?_ (by first | omega | (simp; done) | (simp; omega)) _)))); rintro e w5 ⟨rfl, hb5⟩; have hB5 : Below wB.heap.size wB w5 := Below.trans (by repeat' (first | exact Below.refl _ _ | assumption | refine Below.alloc ?_ (by first | omega | (simp; done) | (simp; omega)) _ | refine Below.drew ?_ | refine Below.setCell ?_ (by first | omega | (simp; done) | (simp; omega)) _)) (hb5.mono (by first | omega | (simp; done) | (simp; omega))); have hz5 := hB5.size; obtain ⟨q5_0, q5_1, q5_2, q5_3, q5_4, q5_5, q5_6, q5_7, q5_8, q5_9⟩ := KB.out w5 hB5; (try (refine (fun (hm5_0 : wB.heap.size < w5.heap.size) => ?_) ?_; rotate_left; refine Nat.lt_of_lt_of_le ?_ hb5.size; (focus (first | omega | (simp; done) | (simp; omega))); refine (fun (mq5_00 : w5.cell? ⟨wB.heap.size, 0, none⟩ = some (.int .i64 0)) => ?_) ?_; rotate_left; refine (hb5.cell ?_).trans ?_; (focus (first | omega | (simp; done) | (simp; omega))); (focus (simp [go_sem, *]; done)); refine (fun (mr5_00 : w5.frozen? ⟨wB.heap.size, 0, none⟩ = false) => ?_) ?_; rotate_left; refine (hb5.frozen ?_).trans ?_; (focus (first | omega | (simp; done) | (simp; omega))); (focus (simp [go_sem, *]; done)); refine (fun (mq5_01 : w5.cell? ⟨wB.heap.size, 1, none⟩ = some (.int .i64 0)) => ?_) ?_; rotate_left; refine (hb5.cell ?_).trans ?_; (focus (first | omega | (simp; done) | (simp; omega))); (focus (simp [go_sem, *]; done)); refine (fun (mr5_01 : w5.frozen? ⟨wB.heap.size, 1, none⟩ = false) => ?_) ?_; rotate_left; refine (hb5.frozen ?_).trans ?_; (focus (first | omega | (simp; done) | (simp; omega))); (focus (simp [go_sem, *]; done)))); (try (refine (fun (hm5_1 : (wB.heap.size + 1 + 1 + 1) < w5.heap.size) => ?_) ?_; rotate_left; refine Nat.lt_of_lt_of_le ?_ hb5.size; (focus (first | omega | (simp; done) | (simp; omega))); refine (fun (mq5_10 : w5.cell? ⟨(wB.heap.size + 1 + 1 + 1), 0, none⟩ = some (.int .i64 0)) => ?_) ?_; rotate_left; refine (hb5.cell ?_).trans ?_; (focus (first | omega | (simp; done) | (simp; omega))); (focus (simp [go_sem, *]; done)); refine (fun (mr5_10 : w5.frozen? ⟨(wB.heap.size + 1 + 1 + 1), 0, none⟩ = false) => ?_) ?_; rotate_left; refine (hb5.frozen ?_).trans ?_; (focus (first | omega | (simp; done) | (simp; omega))); (focus (simp [go_sem, *]; done)); refine (fun (mq5_11 : w5.cell? ⟨(wB.heap.size + 1 + 1 + 1), 1, none⟩ = some (.int .i64 0)) => ?_) ?_; rotate_left; refine (hb5.cell ?_).trans ?_; (focus (first | omega | (simp; done) | (simp; omega))); (focus (simp [go_sem, *]; done)); refine (fun (mr5_11 : w5.frozen? ⟨(wB.heap.size + 1 + 1 + 1), 1, none⟩ = false) => ?_) ?_; rotate_left; refine (hb5.frozen ?_).trans ?_; (focus (first | omega | (simp; done) | (simp; omega))); (focus (simp [go_sem, *]; done)))); clear hb5))
      all_goals (go_wp2_with fail; go_meet; refine ⟨_, rfl, rfl, ?_, ?_, ?_, by repeat' (first | exact Below.refl _ _ | assumption | refine Below.alloc ?_ (by first | omega | (simp; done) | (simp; omega)) _ | refine Below.drew ?_ | refine Below.setCell ?_ (by first | omega | (simp; done) | (simp; omega)) _)⟩)
      all_goals (first | omega | (simp [go_sem, *]; done) | (simp; omega))
    case rest =>
    obtain ⟨gd, rfl, rfl, x0, x1, hgd, BD⟩ := hcut
    obtain ⟨wD, rfl⟩ : ∃ wD : World, wD = wc := ⟨_, rfl⟩
    have lwD := BD.size
    obtain ⟨f0, f1, f2, f3, f4, f5, f6, f7, f8, f9⟩ := KB.out wD BD
    have KD := Lib.hid (show ∀ W : World, Below wD.heap.size wD W → W.cell? ⟨w.heap.size, 0, none⟩ = some (.int .i64 a) ∧ W.cell? ⟨w.heap.size, 1, none⟩ = some (.slice As ns cs) ∧ W.cell? ⟨w.heap.size, 2, none⟩ = some (.slice At nt ct) ∧ W.cell? ⟨(w.heap.size + 1), 0, none⟩ = some (.int .i64 x) ∧ W.cell? ⟨(w.heap.size + 1), 1, none⟩ = some (.int .i64 y) ∧ W.cell? ⟨ga, 0, none⟩ = some (.int .i64 k1) ∧ W.cell? ⟨ga, 1, none⟩ = some (.int .i64 k2) ∧ W.cell? ⟨qb, 0, none⟩ = some (.int .i64 a) ∧ W.cell? ⟨qb, 1, none⟩ = some (.slice (some ⟨gb, 0, none⟩) ns ns) ∧ W.cell? ⟨qb, 2, none⟩ = some (.slice (some ⟨hb, 0, none⟩) nt nt) from fun W hW => ⟨(hW.cell (by first | omega | (simp; done) | (simp; omega))).trans f0, (hW.cell (by first | omega | (simp; done) | (simp; omega))).trans f1, (hW.cell (by first | omega | (simp; done) | (simp; omega))).trans f2, (hW.cell (by first | omega | (simp; done) | (simp; omega))).trans f3, (hW.cell (by first | omega | (simp; done) | (simp; omega))).trans f4, (hW.cell (by first | omega | (simp; done) | (simp; omega))).trans f5, (hW.cell (by first | omega | (simp; done) | (simp; omega))).trans f6, (hW.cell (by first | omega | (simp; done) | (simp; omega))).trans f7, (hW.cell (by first | omega | (simp; done) | (simp; omega))).trans f8, (hW.cell (by first | omega | (simp; done) | (simp; omega))).trans f9⟩)
    obtain ⟨YG, YH⟩ := KGB.out wD BD
    have KGD := Lib.hid (show ∀ W : World, Below wD.heap.size wD W → Full W gb 2 XA ∧ Full W hb 2 YA from fun W hW => ⟨YG.over hW YG.inside, YH.over hW YH.inside⟩)
    clear YG YH
    have BAD := B0.trans ((BA.trans ((BB.trans (BD.mono BB.size)).mono BA.size)).mono B0.size)
    go_wp2_with (go_at_call 58; (with_reducible refine (eqFigure_bel _ _ _).mono ?_); rintro e w6 ⟨rfl, hb6⟩; have hB6 : Below wD.heap.size wD w6 := Below.trans (by repeat' (first | exact Below.refl _ _ | assumption | refine Below.alloc ?_ (by first | omega | (simp; done) | (simp; omega)) _ | refine Below.drew ?_ | refine Below.setCell ?_ (by first | omega | (simp; done) | (simp; omega)) _)) (hb6.mono (by first | omega | (simp; done) | (simp; omega))); have hz6 := hB6.size; obtain ⟨j0, j1, j2, j3, j4, j5, j6, j7, j8, j9⟩ := KD.out w6 hB6; clear hb6)
    go_region_held3 (fun w' => w'.cell? ⟨w.heap.size, 0, none⟩ = some (.int .i64 a) ∧ w'.cell? ⟨w.heap.size, 1, none⟩ = some (.slice As ns cs) ∧ w'.cell? ⟨w.heap.size, 2, none⟩ = some (.slice At nt ct) ∧ w'.cell? ⟨(w.heap.size + 1), 0, none⟩ = some (.int .i64 x) ∧ w'.cell? ⟨(w.heap.size + 1), 1, none⟩ = some (.int .i64 y) ∧ w'.cell? ⟨ga, 0, none⟩ = some (.int .i64 k1) ∧ w'.cell? ⟨ga, 1, none⟩ = some (.int .i64 k2) ∧ w'.cell? ⟨qb, 0, none⟩ = some (.int .i64 a) ∧ w'.cell? ⟨qb, 1, none⟩ = some (.slice (some ⟨gb, 0, none⟩) ns ns) ∧ w'.cell? ⟨qb, 2, none⟩ = some (.slice (some ⟨hb, 0, none⟩) nt nt)) (first | (exact KD.out _ (by repeat' (first | exact Below.refl _ _ | assumption | refine Below.alloc ?_ (by first | omega | (simp; done) | (simp; omega)) _ | refine Below.drew ?_ | refine Below.setCell ?_ (by first | omega | (simp; done) | (simp; omega)) _))) | (go_keep; done)) (first
      | (go_at_call 55; (with_reducible refine (TR _ ?_).mono ?_); (focus (refine BAD.trans (Below.mono ?_ BAD.size); repeat' (first | exact Below.refl _ _ | assumption | refine Below.alloc ?_ (by first | omega | (simp; done) | (simp; omega)) _ | refine Below.drew ?_ | refine Below.setCell ?_ (by first | omega | (simp; done) | (simp; omega)) _))); rintro e w7 ⟨g7, h7, rfl, hg7, hh7, hgh7, G7, H7, hb7⟩; have hB7 : Below wD.heap.size wD w7 := Below.trans (by repeat' (first | exact Below.refl _ _ | assumption | refine Below.alloc ?_ (by first | omega | (simp; done) | (simp; omega)) _ | refine Below.drew ?_ | refine Below.setCell ?_ (by first | omega | (simp; done) | (simp; omega)) _)) (hb7.mono (by first | omega | (simp; done) | (simp; omega))); have hz7 := hB7.size; obtain ⟨o0, o1, o2, o3, o4, o5, o6, o7, o8, o9⟩ := KD.out w7 hB7; have KG7 := Lib.hid (show ∀ W : World, Below w7.heap.size w7 W → Full W g7 2 XA ∧ Full W h7 2 YA from fun W hW => ⟨G7.over hW G7.inside, H7.over hW H7.inside⟩); clear hb7 G7 H7)
      | (go_at_call 59; (with_reducible refine (EQ _ _ _ _ _ ?_).mono ?_); (focus (exact ⟨KGD.out _ (by repeat' (first | exact Below.refl _ _ | assumption | refine Below.alloc ?_ (by first | omega | (simp; done) | (simp; omega)) _ | refine Below.drew ?_ | refine Below.setCell ?_ (by first | omega | (simp; done) | (simp; omega)) _)), KG7.out _ (by repeat' (first | exact Below.refl _ _ | assumption | refine Below.alloc ?_ (by first | omega | (simp; done) | (simp; omega)) _ | refine Below.drew ?_ | refine Below.setCell ?_ (by first | omega | (simp; done) | (simp; omega)) _))⟩)); rintro e w8 ⟨rfl, hb8⟩; have hB8 : Below wD.heap.size wD w8 := Below.trans (by repeat' (first | exact Below.refl _ _ | assumption | refine Below.alloc ?_ (by first | omega | (simp; done) | (simp; omega)) _ | refine Below.drew ?_ | refine Below.setCell ?_ (by first | omega | (simp; done) | (simp; omega)) _)) (hb8.mono (by first | omega | (simp; done) | (simp; omega))); have hz8 := hB8.size; obtain ⟨p0, p1, p2, p3, p4, p5, p6, p7, p8, p9⟩ := KD.out w8 hB8; clear hb8))
    all_goals go_wp2_with fail
    all_goals go_ret
    all_goals exact ⟨rfl, BAD.trans (hB8.mono BAD.size)⟩
  · go_enter Try.func7, Try.ntmps7
    go_wp2_with fail
    refine (szRule_no _ _ _ _ _ _ _ _ (by omega) (by omega) (by omega)).mono ?_
    rintro e w0 ⟨rfl, rfl⟩
    go_wp2_with fail
    go_ret
    exact ⟨rfl, by repeat' (first | exact Below.refl _ _ | assumption | refine Below.alloc ?_ (by first | omega | (simp; done) | (simp; omega)) _ | refine Below.drew ?_ | refine Below.setCell ?_ (by first | omega | (simp; done) | (simp; omega)) _)⟩
end Go.Proofs.Ythnjiiodpjielaa
