/- SetSlide, SetCursor (layer 11): contracts. No condition. -/
import Derived.Test.YthkapanmmbhmcaaRule4
import Derived.Test.YthkapanmmbhmcaaPt
import Derived.Deep.DeepCutAuto
namespace Go.Proofs.Ythkapanmmbhmcaa
open Go.RowKit
set_option linter.unusedVariables false
set_option linter.unusedSimpArgs false

def setB (x y : Int) : Bool := inB x (-1048576) 1048576 && inB y 0 1048576
theorem setB_iff {x y : Int} : setB x y = true ↔ (-1048576 ≤ x ∧ x ≤ 1048576) ∧ 0 ≤ y ∧ y ≤ 1048576 := by simp [setB, inB_iff]
theorem oneAlloc {P : Program} {f : FuncId} {args : Array Value} {W : World} {v : Value} {o : Obj} (h : Calls P f args W fun e w' => e = .returned v ∧ W.alloc o = w') : Calls P f args W fun e w' => e = .returned v ∧ Below W.heap.size W w' :=
  h.mono fun e w' ⟨he, hw⟩ => ⟨he, by subst hw; exact (Below.refl _ _).alloc (Nat.le_refl _) _⟩
def rValid (x y : Int) : (Int × Int) × Int := if setB x y = true then ((x, y), 0) else ((0, 0), 5)
def l11C (a : Int) (ls lt : List Int) (x y : Int) (slide : Bool) (s : Int) : Int := if (ruleB a ls lt && setB x y) = true then (if s ∈ onScales slide ls lt then 0 else 2) else 1
def endSet (p : (Int × Int) × Int) : Value := .tuple #[.agg #[.int .i64 p.1.1, .int .i64 p.1.2], .int .i64 p.2]
theorem endSet_of {p : (Int × Int) × Int} {a b z : Int} (h : p = ((a, b), z)) : Ending.returned (.tuple #[.agg #[.int .i64 a, .int .i64 b], .int .i64 z]) = .returned (endSet p) := by subst h; rfl
theorem ptOf_bd {s d t : Int} (hd : Dig d) : -1 ≤ ptOf s d t ∧ ptOf s d t ≤ 2097152 := by
  have := p_bd (s := s) (t := t) hd
  unfold ptOf
  omega
set_option maxHeartbeats 400000 in
theorem iIsSetting_any (a b : Int) (w : World) :
    Calls Try.prog 62 #[.agg #[.int .i64 a, .int .i64 b]] w fun e w' => e = .returned (.bool (setB a b)) ∧ w.alloc (.cells #[.int .i64 a, .int .i64 b] 45) = w' := by
  go_enter Try.func62, Try.ntmps62
  go_wp2_with (go_at_call 39; refine (within_any _ _ _ _).mono ?_; rintro e w' ⟨rfl, rfl⟩)
  all_goals go_ret
  all_goals (refine ⟨endBool ?_, rfl⟩)
  all_goals simp_all [setB]
set_option maxHeartbeats 400000 in
theorem sIsSetting_any (a b : Int) (w : World) :
    Calls Try.prog 96 #[.agg #[.int .i64 a, .int .i64 b]] w fun e w' => e = .returned (.bool (setB a b)) ∧ w.alloc (.cells #[.int .i64 a, .int .i64 b] 45) = w' := by
  go_enter Try.func96, Try.ntmps96
  go_wp2_with (go_at_call 36; refine (l01In_any _ _ _ _).mono ?_; rintro e w' ⟨rfl, rfl⟩)
  all_goals go_ret
  all_goals (refine ⟨endBool ?_, rfl⟩)
  all_goals simp_all [setB]
set_option maxHeartbeats 1000000 in
theorem iValid_any (x y : Int) (w : World) :
    Calls Try.prog 65 #[.agg #[.int .i64 x, .int .i64 y]] w fun e w' => e = .returned (endSet (rValid x y)) ∧ Below w.heap.size w w' := by
  have I := fun W => iIsSetting_any x y W
  by_cases h : setB x y = true
  · have HV := Lib.hid (show rValid x y = ((x, y), 0) by rw [rValid, if_pos h])
    rw [h] at I
    clear h
    go_enter Try.func65, Try.ntmps65
    go_wp2_with (go_at_call 62; (with_reducible refine (I _).mono ?_); rintro e w' ⟨rfl, rfl⟩)
    (refine bodyPost_ret (v := .tuple #[.agg #[.int .i64 x, .int .i64 y], .int .i64 0]) ?_ rfl ?_; (focus (simp [results, Try.results65, go_sem, *])); exact ⟨endSet_of HV.out, by repeat' (first | exact Below.refl _ _ | assumption | refine Below.alloc ?_ (by first | omega | (simp; done) | (simp; omega)) _ | refine Below.drew ?_ | refine Below.setCell ?_ (by first | omega | (simp; done) | (simp; omega)) _)⟩)
  · have HV := Lib.hid (show rValid x y = ((0, 0), 5) by rw [rValid, if_neg h])
    have h' : setB x y = false := by simpa using h
    rw [h'] at I
    clear h h'
    go_enter Try.func65, Try.ntmps65
    go_wp2_with (go_at_call 62; (with_reducible refine (I _).mono ?_); rintro e w' ⟨rfl, rfl⟩)
    (refine bodyPost_ret (v := .tuple #[.agg #[.int .i64 0, .int .i64 0], .int .i64 5]) ?_ rfl ?_; (focus (simp [results, Try.results65, go_sem, *])); exact ⟨endSet_of HV.out, by repeat' (first | exact Below.refl _ _ | assumption | refine Below.alloc ?_ (by first | omega | (simp; done) | (simp; omega)) _ | refine Below.drew ?_ | refine Below.setCell ?_ (by first | omega | (simp; done) | (simp; omega)) _)⟩)
set_option maxHeartbeats 1000000 in
theorem sValid_any (x y : Int) (w : World) :
    Calls Try.prog 58 #[.agg #[.int .i64 x, .int .i64 y]] w fun e w' => e = .returned (endSet (rValid x y)) ∧ Below w.heap.size w w' := by
  have I := fun W => sIsSetting_any x y W
  by_cases h : setB x y = true
  · have HV := Lib.hid (show rValid x y = ((x, y), 0) by rw [rValid, if_pos h])
    rw [h] at I
    clear h
    go_enter Try.func58, Try.ntmps58
    go_wp2_with (go_at_call 96; (with_reducible refine (I _).mono ?_); rintro e w' ⟨rfl, rfl⟩)
    (refine bodyPost_ret (v := .tuple #[.agg #[.int .i64 x, .int .i64 y], .int .i64 0]) ?_ rfl ?_; (focus (simp [results, Try.results58, go_sem, *])); exact ⟨endSet_of HV.out, by repeat' (first | exact Below.refl _ _ | assumption | refine Below.alloc ?_ (by first | omega | (simp; done) | (simp; omega)) _ | refine Below.drew ?_ | refine Below.setCell ?_ (by first | omega | (simp; done) | (simp; omega)) _)⟩)
  · have HV := Lib.hid (show rValid x y = ((0, 0), 5) by rw [rValid, if_neg h])
    have h' : setB x y = false := by simpa using h
    rw [h'] at I
    clear h h'
    go_enter Try.func58, Try.ntmps58
    go_wp2_with (go_at_call 96; (with_reducible refine (I _).mono ?_); rintro e w' ⟨rfl, rfl⟩)
    (refine bodyPost_ret (v := .tuple #[.agg #[.int .i64 0, .int .i64 0], .int .i64 5]) ?_ rfl ?_; (focus (simp [results, Try.results58, go_sem, *])); exact ⟨endSet_of HV.out, by repeat' (first | exact Below.refl _ _ | assumption | refine Below.alloc ?_ (by first | omega | (simp; done) | (simp; omega)) _ | refine Below.drew ?_ | refine Below.setCell ?_ (by first | omega | (simp; done) | (simp; omega)) _)⟩)
set_option maxRecDepth 100000 in
set_option maxHeartbeats 2000000 in
theorem l11Code_any (a : Int) (As : Option Addr) (ns cs : Nat) (ls : List Int) (At : Option Addr) (nt ct : Nat) (lt : List Int) (x y : Int) (slide : Bool) (s : Int) (w : World) (hls : ls.length = ns) (hcs : ns ≤ cs) (hns : ns ≤ 1048576) (hrs : Sees w w.heap.size As (ls.map (Value.int .i64))) (hlt : lt.length = nt) (hct : nt ≤ ct) (hnt : nt ≤ 1048576) (hrt : Sees w w.heap.size At (lt.map (Value.int .i64))) :
    Calls Try.prog 57 #[.agg #[.int .i64 a, .slice As ns cs, .slice At nt ct], .agg #[.int .i64 x, .int .i64 y], .bool slide, .int .i64 s] w fun e w' => e = .returned (.int .i64 (l11C a ls lt x y slide s)) ∧ Below w.heap.size w w' := by
  have IR := fun W (hB : Below w.heap.size w W) => sIsRule_any a As ns cs ls At nt ct lt W hls hcs hns ((hrs.over hB).wider hB.size) hlt hct hnt ((hrt.over hB).wider hB.size)
  have IS := fun W => oneAlloc (sIsSetting_any x y W)
  have ON := fun W => oneAlloc (l11On_any a As ns cs At nt ct slide W)
  have HA : ∀ W, Below w.heap.size w W → Calls Try.prog 97 #[if slide = true then .slice At nt ct else .slice As ns cs, .int .i64 s] W fun e w' => e = .returned (.bool (decide (s ∈ onScales slide ls lt))) ∧ W = w' := by
    intro W hB
    cases slide
    · exact l01Has_any As ns cs ls s W w.heap.size hls (by omega) (hrs.over hB)
    · exact l01Has_any At nt ct lt s W w.heap.size hlt (by omega) (hrt.over hB)
  have HV0 := Lib.hid (show l11C a ls lt x y slide s = if (ruleB a ls lt && setB x y) = true then (if s ∈ onScales slide ls lt then 0 else 2) else 1 from rfl)
  clear hls hlt hrs hrt
  by_cases g1 : ruleB a ls lt = true
  · rw [g1] at IR
    by_cases g2 : setB x y = true
    · rw [g2] at IS
      by_cases g3 : s ∈ onScales slide ls lt
      · have HV := Lib.hid (show l11C a ls lt x y slide s = 0 by rw [HV0.out, if_pos (by rw [g1, g2]; rfl), if_pos g3])
        rw [show decide (s ∈ onScales slide ls lt) = true from decide_eq_true g3] at HA
        generalize hsl : (if slide = true then Value.slice At nt ct else Value.slice As ns cs) = sl at *
        clear hsl g1 g2 g3 HV0
        go_enter Try.func57, Try.ntmps57
        go_upto_region 0 with fail
        go_cut [4, 5, 8] (fun s4 s5 s8 wx => s4 = .pointer (some ⟨w.heap.size, 0, none⟩) ∧ s5 = .pointer (some ⟨w.heap.size + 1, 0, none⟩) ∧ s8 = .int .i64 0 ∧ wx.cell? ⟨w.heap.size, 0, none⟩ = some (.int .i64 a) ∧ wx.cell? ⟨w.heap.size, 1, none⟩ = some (.slice As ns cs) ∧ wx.cell? ⟨w.heap.size, 2, none⟩ = some (.slice At nt ct) ∧ wx.cell? ⟨(w.heap.size + 1), 0, none⟩ = some (.int .i64 x) ∧ wx.cell? ⟨(w.heap.size + 1), 1, none⟩ = some (.int .i64 y) ∧ (w.heap.size + 1) < wx.heap.size ∧ Below w.heap.size w wx)
        case first =>
          go_wp2_with fail
          go_meet
          refine ⟨rfl, rfl, rfl, ?_, ?_, ?_, ?_, ?_, ?_, by repeat' (first | exact Below.refl _ _ | assumption | refine Below.alloc ?_ (by first | omega | (simp; done) | (simp; omega)) _ | refine Below.drew ?_ | refine Below.setCell ?_ (by first | omega | (simp; done) | (simp; omega)) _)⟩
          all_goals (first | omega | (simp [go_sem]; done) | (simp; omega))
        case rest =>
        obtain ⟨rfl, rfl, rfl, c0, c1, c2, c3, c4, hl, B0⟩ := hcut
        have KP := Lib.hid (show ∀ W : World, Below wc.heap.size wc W → W.cell? ⟨w.heap.size, 0, none⟩ = some (.int .i64 a) ∧ W.cell? ⟨w.heap.size, 1, none⟩ = some (.slice As ns cs) ∧ W.cell? ⟨w.heap.size, 2, none⟩ = some (.slice At nt ct) ∧ W.cell? ⟨(w.heap.size + 1), 0, none⟩ = some (.int .i64 x) ∧ W.cell? ⟨(w.heap.size + 1), 1, none⟩ = some (.int .i64 y) from fun W hW => ⟨(hW.cell (by first | omega | (simp; done) | (simp; omega))).trans c0, (hW.cell (by first | omega | (simp; done) | (simp; omega))).trans c1, (hW.cell (by first | omega | (simp; done) | (simp; omega))).trans c2, (hW.cell (by first | omega | (simp; done) | (simp; omega))).trans c3, (hW.cell (by first | omega | (simp; done) | (simp; omega))).trans c4⟩)
        go_wp2_with (first
          | (go_at_call 95; (with_reducible refine (IR _ ?_).mono ?_); (focus (repeat' (first | exact Below.refl _ _ | assumption | (refine B0.trans (Below.mono ?_ B0.size); assumption) | refine Below.alloc ?_ (by first | omega | (simp; done) | (simp; omega)) _ | refine Below.drew ?_ | refine Below.setCell ?_ (by first | omega | (simp; done) | (simp; omega)) _))); rintro e w1 ⟨rfl, hb1⟩; have hB1 : Below wc.heap.size wc w1 := Below.trans (by repeat' (first | exact Below.refl _ _ | assumption | refine Below.alloc ?_ (by first | omega | (simp; done) | (simp; omega)) _ | refine Below.drew ?_ | refine Below.setCell ?_ (by first | omega | (simp; done) | (simp; omega)) _)) (hb1.mono (by first | omega | (simp; done) | (simp; omega))); have hz1 := hB1.size; obtain ⟨q1_0, q1_1, q1_2, q1_3, q1_4⟩ := KP.out w1 hB1; clear hb1)
          | (go_at_call 96; (with_reducible refine (IS _).mono ?_); rintro e w2 ⟨rfl, hb2⟩; have hB2 : Below wc.heap.size wc w2 := Below.trans (by repeat' (first | exact Below.refl _ _ | assumption | refine Below.alloc ?_ (by first | omega | (simp; done) | (simp; omega)) _ | refine Below.drew ?_ | refine Below.setCell ?_ (by first | omega | (simp; done) | (simp; omega)) _)) (hb2.mono (by first | omega | (simp; done) | (simp; omega))); have hz2 := hB2.size; obtain ⟨q2_0, q2_1, q2_2, q2_3, q2_4⟩ := KP.out w2 hB2; clear hb2)
          | (go_at_call 98; (with_reducible refine (ON _).mono ?_); rintro e w3 ⟨rfl, hb3⟩; have hB3 : Below wc.heap.size wc w3 := Below.trans (by repeat' (first | exact Below.refl _ _ | assumption | refine Below.alloc ?_ (by first | omega | (simp; done) | (simp; omega)) _ | refine Below.drew ?_ | refine Below.setCell ?_ (by first | omega | (simp; done) | (simp; omega)) _)) (hb3.mono (by first | omega | (simp; done) | (simp; omega))); have hz3 := hB3.size; obtain ⟨q3_0, q3_1, q3_2, q3_3, q3_4⟩ := KP.out w3 hB3; clear hb3)
          | (go_at_call 97; (with_reducible refine (HA _ ?_).mono ?_); (focus (repeat' (first | exact Below.refl _ _ | assumption | (refine B0.trans (Below.mono ?_ B0.size); assumption) | refine Below.alloc ?_ (by first | omega | (simp; done) | (simp; omega)) _ | refine Below.drew ?_ | refine Below.setCell ?_ (by first | omega | (simp; done) | (simp; omega)) _))); rintro e w' ⟨rfl, rfl⟩))
        go_ret
        exact ⟨endInt HV.out.symm, by repeat' (first | exact Below.refl _ _ | assumption | (refine B0.trans (Below.mono ?_ B0.size); assumption) | refine Below.alloc ?_ (by first | omega | (simp; done) | (simp; omega)) _ | refine Below.drew ?_ | refine Below.setCell ?_ (by first | omega | (simp; done) | (simp; omega)) _)⟩
      · have HV := Lib.hid (show l11C a ls lt x y slide s = 2 by rw [HV0.out, if_pos (by rw [g1, g2]; rfl), if_neg g3])
        rw [show decide (s ∈ onScales slide ls lt) = false from decide_eq_false g3] at HA
        generalize hsl : (if slide = true then Value.slice At nt ct else Value.slice As ns cs) = sl at *
        clear hsl g1 g2 g3 HV0
        go_enter Try.func57, Try.ntmps57
        go_upto_region 0 with fail
        go_cut [4, 5, 8] (fun s4 s5 s8 wx => s4 = .pointer (some ⟨w.heap.size, 0, none⟩) ∧ s5 = .pointer (some ⟨w.heap.size + 1, 0, none⟩) ∧ s8 = .int .i64 0 ∧ wx.cell? ⟨w.heap.size, 0, none⟩ = some (.int .i64 a) ∧ wx.cell? ⟨w.heap.size, 1, none⟩ = some (.slice As ns cs) ∧ wx.cell? ⟨w.heap.size, 2, none⟩ = some (.slice At nt ct) ∧ wx.cell? ⟨(w.heap.size + 1), 0, none⟩ = some (.int .i64 x) ∧ wx.cell? ⟨(w.heap.size + 1), 1, none⟩ = some (.int .i64 y) ∧ (w.heap.size + 1) < wx.heap.size ∧ Below w.heap.size w wx)
        case first =>
          go_wp2_with fail
          go_meet
          refine ⟨rfl, rfl, rfl, ?_, ?_, ?_, ?_, ?_, ?_, by repeat' (first | exact Below.refl _ _ | assumption | refine Below.alloc ?_ (by first | omega | (simp; done) | (simp; omega)) _ | refine Below.drew ?_ | refine Below.setCell ?_ (by first | omega | (simp; done) | (simp; omega)) _)⟩
          all_goals (first | omega | (simp [go_sem]; done) | (simp; omega))
        case rest =>
        obtain ⟨rfl, rfl, rfl, c0, c1, c2, c3, c4, hl, B0⟩ := hcut
        have KP := Lib.hid (show ∀ W : World, Below wc.heap.size wc W → W.cell? ⟨w.heap.size, 0, none⟩ = some (.int .i64 a) ∧ W.cell? ⟨w.heap.size, 1, none⟩ = some (.slice As ns cs) ∧ W.cell? ⟨w.heap.size, 2, none⟩ = some (.slice At nt ct) ∧ W.cell? ⟨(w.heap.size + 1), 0, none⟩ = some (.int .i64 x) ∧ W.cell? ⟨(w.heap.size + 1), 1, none⟩ = some (.int .i64 y) from fun W hW => ⟨(hW.cell (by first | omega | (simp; done) | (simp; omega))).trans c0, (hW.cell (by first | omega | (simp; done) | (simp; omega))).trans c1, (hW.cell (by first | omega | (simp; done) | (simp; omega))).trans c2, (hW.cell (by first | omega | (simp; done) | (simp; omega))).trans c3, (hW.cell (by first | omega | (simp; done) | (simp; omega))).trans c4⟩)
        go_wp2_with (first
          | (go_at_call 95; (with_reducible refine (IR _ ?_).mono ?_); (focus (repeat' (first | exact Below.refl _ _ | assumption | (refine B0.trans (Below.mono ?_ B0.size); assumption) | refine Below.alloc ?_ (by first | omega | (simp; done) | (simp; omega)) _ | refine Below.drew ?_ | refine Below.setCell ?_ (by first | omega | (simp; done) | (simp; omega)) _))); rintro e w1 ⟨rfl, hb1⟩; have hB1 : Below wc.heap.size wc w1 := Below.trans (by repeat' (first | exact Below.refl _ _ | assumption | refine Below.alloc ?_ (by first | omega | (simp; done) | (simp; omega)) _ | refine Below.drew ?_ | refine Below.setCell ?_ (by first | omega | (simp; done) | (simp; omega)) _)) (hb1.mono (by first | omega | (simp; done) | (simp; omega))); have hz1 := hB1.size; obtain ⟨q1_0, q1_1, q1_2, q1_3, q1_4⟩ := KP.out w1 hB1; clear hb1)
          | (go_at_call 96; (with_reducible refine (IS _).mono ?_); rintro e w2 ⟨rfl, hb2⟩; have hB2 : Below wc.heap.size wc w2 := Below.trans (by repeat' (first | exact Below.refl _ _ | assumption | refine Below.alloc ?_ (by first | omega | (simp; done) | (simp; omega)) _ | refine Below.drew ?_ | refine Below.setCell ?_ (by first | omega | (simp; done) | (simp; omega)) _)) (hb2.mono (by first | omega | (simp; done) | (simp; omega))); have hz2 := hB2.size; obtain ⟨q2_0, q2_1, q2_2, q2_3, q2_4⟩ := KP.out w2 hB2; clear hb2)
          | (go_at_call 98; (with_reducible refine (ON _).mono ?_); rintro e w3 ⟨rfl, hb3⟩; have hB3 : Below wc.heap.size wc w3 := Below.trans (by repeat' (first | exact Below.refl _ _ | assumption | refine Below.alloc ?_ (by first | omega | (simp; done) | (simp; omega)) _ | refine Below.drew ?_ | refine Below.setCell ?_ (by first | omega | (simp; done) | (simp; omega)) _)) (hb3.mono (by first | omega | (simp; done) | (simp; omega))); have hz3 := hB3.size; obtain ⟨q3_0, q3_1, q3_2, q3_3, q3_4⟩ := KP.out w3 hB3; clear hb3)
          | (go_at_call 97; (with_reducible refine (HA _ ?_).mono ?_); (focus (repeat' (first | exact Below.refl _ _ | assumption | (refine B0.trans (Below.mono ?_ B0.size); assumption) | refine Below.alloc ?_ (by first | omega | (simp; done) | (simp; omega)) _ | refine Below.drew ?_ | refine Below.setCell ?_ (by first | omega | (simp; done) | (simp; omega)) _))); rintro e w' ⟨rfl, rfl⟩))
        go_ret
        exact ⟨endInt HV.out.symm, by repeat' (first | exact Below.refl _ _ | assumption | (refine B0.trans (Below.mono ?_ B0.size); assumption) | refine Below.alloc ?_ (by first | omega | (simp; done) | (simp; omega)) _ | refine Below.drew ?_ | refine Below.setCell ?_ (by first | omega | (simp; done) | (simp; omega)) _)⟩
    · have HV := Lib.hid (show l11C a ls lt x y slide s = 1 by rw [HV0.out, if_neg (by simp [g2])])
      have g2' : setB x y = false := by simpa using g2
      rw [g2'] at IS
      clear g1 g2 g2' HV0 HA ON
      go_enter Try.func57, Try.ntmps57
      go_upto_region 0 with fail
      go_cut [4, 5, 8] (fun s4 s5 s8 wx => s4 = .pointer (some ⟨w.heap.size, 0, none⟩) ∧ s5 = .pointer (some ⟨w.heap.size + 1, 0, none⟩) ∧ s8 = .int .i64 0 ∧ wx.cell? ⟨w.heap.size, 0, none⟩ = some (.int .i64 a) ∧ wx.cell? ⟨w.heap.size, 1, none⟩ = some (.slice As ns cs) ∧ wx.cell? ⟨w.heap.size, 2, none⟩ = some (.slice At nt ct) ∧ wx.cell? ⟨(w.heap.size + 1), 0, none⟩ = some (.int .i64 x) ∧ wx.cell? ⟨(w.heap.size + 1), 1, none⟩ = some (.int .i64 y) ∧ (w.heap.size + 1) < wx.heap.size ∧ Below w.heap.size w wx)
      case first =>
        go_wp2_with fail
        go_meet
        refine ⟨rfl, rfl, rfl, ?_, ?_, ?_, ?_, ?_, ?_, by repeat' (first | exact Below.refl _ _ | assumption | refine Below.alloc ?_ (by first | omega | (simp; done) | (simp; omega)) _ | refine Below.drew ?_ | refine Below.setCell ?_ (by first | omega | (simp; done) | (simp; omega)) _)⟩
        all_goals (first | omega | (simp [go_sem]; done) | (simp; omega))
      case rest =>
      obtain ⟨rfl, rfl, rfl, c0, c1, c2, c3, c4, hl, B0⟩ := hcut
      have KP := Lib.hid (show ∀ W : World, Below wc.heap.size wc W → W.cell? ⟨w.heap.size, 0, none⟩ = some (.int .i64 a) ∧ W.cell? ⟨w.heap.size, 1, none⟩ = some (.slice As ns cs) ∧ W.cell? ⟨w.heap.size, 2, none⟩ = some (.slice At nt ct) ∧ W.cell? ⟨(w.heap.size + 1), 0, none⟩ = some (.int .i64 x) ∧ W.cell? ⟨(w.heap.size + 1), 1, none⟩ = some (.int .i64 y) from fun W hW => ⟨(hW.cell (by first | omega | (simp; done) | (simp; omega))).trans c0, (hW.cell (by first | omega | (simp; done) | (simp; omega))).trans c1, (hW.cell (by first | omega | (simp; done) | (simp; omega))).trans c2, (hW.cell (by first | omega | (simp; done) | (simp; omega))).trans c3, (hW.cell (by first | omega | (simp; done) | (simp; omega))).trans c4⟩)
      go_wp2_with (first
        | (go_at_call 95; (with_reducible refine (IR _ ?_).mono ?_); (focus (repeat' (first | exact Below.refl _ _ | assumption | (refine B0.trans (Below.mono ?_ B0.size); assumption) | refine Below.alloc ?_ (by first | omega | (simp; done) | (simp; omega)) _ | refine Below.drew ?_ | refine Below.setCell ?_ (by first | omega | (simp; done) | (simp; omega)) _))); rintro e w1 ⟨rfl, hb1⟩; have hB1 : Below wc.heap.size wc w1 := Below.trans (by repeat' (first | exact Below.refl _ _ | assumption | refine Below.alloc ?_ (by first | omega | (simp; done) | (simp; omega)) _ | refine Below.drew ?_ | refine Below.setCell ?_ (by first | omega | (simp; done) | (simp; omega)) _)) (hb1.mono (by first | omega | (simp; done) | (simp; omega))); have hz1 := hB1.size; obtain ⟨q1_0, q1_1, q1_2, q1_3, q1_4⟩ := KP.out w1 hB1; clear hb1)
        | (go_at_call 96; (with_reducible refine (IS _).mono ?_); rintro e w2 ⟨rfl, hb2⟩; have hB2 : Below wc.heap.size wc w2 := Below.trans (by repeat' (first | exact Below.refl _ _ | assumption | refine Below.alloc ?_ (by first | omega | (simp; done) | (simp; omega)) _ | refine Below.drew ?_ | refine Below.setCell ?_ (by first | omega | (simp; done) | (simp; omega)) _)) (hb2.mono (by first | omega | (simp; done) | (simp; omega))); have hz2 := hB2.size; obtain ⟨q2_0, q2_1, q2_2, q2_3, q2_4⟩ := KP.out w2 hB2; clear hb2))
      go_ret
      exact ⟨endInt HV.out.symm, by repeat' (first | exact Below.refl _ _ | assumption | (refine B0.trans (Below.mono ?_ B0.size); assumption) | refine Below.alloc ?_ (by first | omega | (simp; done) | (simp; omega)) _ | refine Below.drew ?_ | refine Below.setCell ?_ (by first | omega | (simp; done) | (simp; omega)) _)⟩
  · have HV := Lib.hid (show l11C a ls lt x y slide s = 1 by rw [HV0.out, if_neg (by simp [g1])])
    have g1' : ruleB a ls lt = false := by simpa using g1
    rw [g1'] at IR
    clear g1 g1' HV0 HA ON IS
    go_enter Try.func57, Try.ntmps57
    go_upto_region 0 with fail
    go_cut [4, 5, 8] (fun s4 s5 s8 wx => s4 = .pointer (some ⟨w.heap.size, 0, none⟩) ∧ s5 = .pointer (some ⟨w.heap.size + 1, 0, none⟩) ∧ s8 = .int .i64 0 ∧ wx.cell? ⟨w.heap.size, 0, none⟩ = some (.int .i64 a) ∧ wx.cell? ⟨w.heap.size, 1, none⟩ = some (.slice As ns cs) ∧ wx.cell? ⟨w.heap.size, 2, none⟩ = some (.slice At nt ct) ∧ wx.cell? ⟨(w.heap.size + 1), 0, none⟩ = some (.int .i64 x) ∧ wx.cell? ⟨(w.heap.size + 1), 1, none⟩ = some (.int .i64 y) ∧ (w.heap.size + 1) < wx.heap.size ∧ Below w.heap.size w wx)
    case first =>
      go_wp2_with fail
      go_meet
      refine ⟨rfl, rfl, rfl, ?_, ?_, ?_, ?_, ?_, ?_, by repeat' (first | exact Below.refl _ _ | assumption | refine Below.alloc ?_ (by first | omega | (simp; done) | (simp; omega)) _ | refine Below.drew ?_ | refine Below.setCell ?_ (by first | omega | (simp; done) | (simp; omega)) _)⟩
      all_goals (first | omega | (simp [go_sem]; done) | (simp; omega))
    case rest =>
    obtain ⟨rfl, rfl, rfl, c0, c1, c2, c3, c4, hl, B0⟩ := hcut
    have KP := Lib.hid (show ∀ W : World, Below wc.heap.size wc W → W.cell? ⟨w.heap.size, 0, none⟩ = some (.int .i64 a) ∧ W.cell? ⟨w.heap.size, 1, none⟩ = some (.slice As ns cs) ∧ W.cell? ⟨w.heap.size, 2, none⟩ = some (.slice At nt ct) ∧ W.cell? ⟨(w.heap.size + 1), 0, none⟩ = some (.int .i64 x) ∧ W.cell? ⟨(w.heap.size + 1), 1, none⟩ = some (.int .i64 y) from fun W hW => ⟨(hW.cell (by first | omega | (simp; done) | (simp; omega))).trans c0, (hW.cell (by first | omega | (simp; done) | (simp; omega))).trans c1, (hW.cell (by first | omega | (simp; done) | (simp; omega))).trans c2, (hW.cell (by first | omega | (simp; done) | (simp; omega))).trans c3, (hW.cell (by first | omega | (simp; done) | (simp; omega))).trans c4⟩)
    go_wp2_with (first
      | (go_at_call 95; (with_reducible refine (IR _ ?_).mono ?_); (focus (repeat' (first | exact Below.refl _ _ | assumption | (refine B0.trans (Below.mono ?_ B0.size); assumption) | refine Below.alloc ?_ (by first | omega | (simp; done) | (simp; omega)) _ | refine Below.drew ?_ | refine Below.setCell ?_ (by first | omega | (simp; done) | (simp; omega)) _))); rintro e w1 ⟨rfl, hb1⟩; have hB1 : Below wc.heap.size wc w1 := Below.trans (by repeat' (first | exact Below.refl _ _ | assumption | refine Below.alloc ?_ (by first | omega | (simp; done) | (simp; omega)) _ | refine Below.drew ?_ | refine Below.setCell ?_ (by first | omega | (simp; done) | (simp; omega)) _)) (hb1.mono (by first | omega | (simp; done) | (simp; omega))); have hz1 := hB1.size; obtain ⟨q1_0, q1_1, q1_2, q1_3, q1_4⟩ := KP.out w1 hB1; clear hb1))
    go_ret
    exact ⟨endInt HV.out.symm, by repeat' (first | exact Below.refl _ _ | assumption | (refine B0.trans (Below.mono ?_ B0.size); assumption) | refine Below.alloc ?_ (by first | omega | (simp; done) | (simp; omega)) _ | refine Below.drew ?_ | refine Below.setCell ?_ (by first | omega | (simp; done) | (simp; omega)) _)⟩
def rSlide (a : Int) (ls lt : List Int) (x y s d t : Int) : (Int × Int) × Int := if figB d t = true then (if l11C a ls lt x y true s = 0 then rValid (y - ptOf s d t) y else ((0, 0), l11C a ls lt x y true s)) else ((0, 0), 1)
def rCursor (a : Int) (ls lt : List Int) (x y : Int) (slide : Bool) (s d t : Int) : (Int × Int) × Int := if figB d t = true then (if l11C a ls lt x y slide s = 0 then rValid x (if slide = true then ptOf s d t + x else ptOf s d t) else ((0, 0), l11C a ls lt x y slide s)) else ((0, 0), 1)
theorem l11C_0 {a : Int} {ls lt : List Int} {x y : Int} {slide : Bool} {s : Int} (h1 : ruleB a ls lt = true) (h2 : setB x y = true) (h3 : s ∈ onScales slide ls lt) : l11C a ls lt x y slide s = 0 := by rw [l11C, if_pos (by rw [h1, h2]; rfl), if_pos h3]
theorem l11C_2 {a : Int} {ls lt : List Int} {x y : Int} {slide : Bool} {s : Int} (h1 : ruleB a ls lt = true) (h2 : setB x y = true) (h3 : ¬ s ∈ onScales slide ls lt) : l11C a ls lt x y slide s = 2 := by rw [l11C, if_pos (by rw [h1, h2]; rfl), if_neg h3]
theorem l11C_1 {a : Int} {ls lt : List Int} {x y : Int} {slide : Bool} {s : Int} (h : ruleB a ls lt = false ∨ setB x y = false) : l11C a ls lt x y slide s = 1 := by rw [l11C, if_neg (by rcases h with h | h <;> simp [h])]
theorem l11C_zero {a : Int} {ls lt : List Int} {x y : Int} {slide : Bool} {s : Int} (h : l11C a ls lt x y slide s = 0) : setB x y = true := by
  unfold l11C at h
  split at h
  · rename_i hh
    simp only [Bool.and_eq_true] at hh
    exact hh.2
  · cases h
theorem setB_arith {x y p : Int} (h : setB x y = true) (h1 : -1 ≤ p) (h2 : p ≤ 2097152) : (-1048576 ≤ x ∧ x ≤ 1048576) ∧ 0 ≤ y ∧ y ≤ 1048576 := setB_iff.1 h
set_option maxHeartbeats 1000000 in
theorem iSetCur_any (x y : Int) (slide : Bool) (p : Int) (w : World) (x1 : -1048576 ≤ x) (x2 : x ≤ 1048576) (p1 : -1 ≤ p) (p2 : p ≤ 2097152) :
    Calls Try.prog 68 #[.agg #[.int .i64 x, .int .i64 y], .bool slide, .int .i64 p] w fun e w' => e = .returned (.agg #[.int .i64 x, .int .i64 (if slide = true then p + x else p)]) ∧ Below w.heap.size w w' := by
  cases slide
  all_goals
    go_enter Try.func68, Try.ntmps68
    go_wp2_with fail
    refine bodyPost_ret (v := _) ?_ rfl ⟨rfl, ?_⟩
    · simp [results, Try.results68, go_sem]
    · repeat' (first | exact Below.refl _ _ | assumption | refine Below.alloc ?_ (by first | omega | (simp; done) | (simp; omega)) _ | refine Below.drew ?_ | refine Below.setCell ?_ (by first | omega | (simp; done) | (simp; omega)) _)
set_option maxHeartbeats 1000000 in
theorem sCursor_any (x y : Int) (slide : Bool) (s d t : Int) (w : World) (x1 : -1048576 ≤ x) (x2 : x ≤ 1048576) (hd : Dig d) (t1 : -1000000 ≤ t) (t2 : t ≤ 1000000) :
    Calls Try.prog 67 #[.agg #[.int .i64 x, .int .i64 y], .bool slide, .int .i64 s, .agg #[.int .i64 d, .int .i64 t]] w fun e w' => e = .returned (.agg #[.int .i64 x, .int .i64 (if slide = true then ptOf s d t + x else ptOf s d t)]) ∧ Below w.heap.size w w' := by
  have PT := fun W => l11Point_any s d t W hd t1 t2
  obtain ⟨p1, p2⟩ := ptOf_bd (s := s) (t := t) hd
  generalize ptOf s d t = p at *
  clear hd t1 t2
  have BB : True := trivial
  cases slide
  · go_enter Try.func67, Try.ntmps67
    go_wp2_with (first
      | (go_at_call 59; (with_reducible refine (PT _).mono ?_); rintro e w1 ⟨rfl, hb1⟩; have hB1 : Below w.heap.size w w1 := Below.trans (by repeat' (first | exact Below.refl _ _ | assumption | refine Below.alloc ?_ (by first | omega | (simp; done) | (simp; omega)) _ | refine Below.drew ?_ | refine Below.setCell ?_ (by first | omega | (simp; done) | (simp; omega)) _)) (hb1.mono (by first | omega | (simp; done) | (simp; omega))); have hz1 := hB1.size; have q0 : w1.cell? ⟨w.heap.size, 0, none⟩ = some (.int .i64 x) := (by rw [hb1.cell (by first | omega | (simp; done) | (simp; omega))]; simp [go_sem]); have r0 : w1.cell? ⟨w.heap.size + 2, 0, none⟩ = some (.int .i64 0) := (by rw [hb1.cell (by first | omega | (simp; done) | (simp; omega))]; simp [go_sem]); have r1 : w1.cell? ⟨w.heap.size + 2, 1, none⟩ = some (.int .i64 0) := (by rw [hb1.cell (by first | omega | (simp; done) | (simp; omega))]; simp [go_sem]); have r2 : w1.frozen? ⟨w.heap.size + 2, 0, none⟩ = false := (by rw [hb1.frozen (by first | omega | (simp; done) | (simp; omega))]; simp [go_sem]); have r3 : w1.frozen? ⟨w.heap.size + 2, 1, none⟩ = false := (by rw [hb1.frozen (by first | omega | (simp; done) | (simp; omega))]; simp [go_sem]); clear hb1))
    refine bodyPost_ret (v := .agg #[.int .i64 x, .int .i64 p]) ?_ rfl ⟨rfl, ?_⟩
    · simp [results, Try.results67, go_sem, *]
    · repeat' (first | exact Below.refl _ _ | assumption | refine Below.alloc ?_ (by first | omega | (simp; done) | (simp; omega)) _ | refine Below.drew ?_ | refine Below.setCell ?_ (by first | omega | (simp; done) | (simp; omega)) _)
  · go_enter Try.func67, Try.ntmps67
    go_wp2_with (first
      | (go_at_call 59; (with_reducible refine (PT _).mono ?_); rintro e w1 ⟨rfl, hb1⟩; have hB1 : Below w.heap.size w w1 := Below.trans (by repeat' (first | exact Below.refl _ _ | assumption | refine Below.alloc ?_ (by first | omega | (simp; done) | (simp; omega)) _ | refine Below.drew ?_ | refine Below.setCell ?_ (by first | omega | (simp; done) | (simp; omega)) _)) (hb1.mono (by first | omega | (simp; done) | (simp; omega))); have hz1 := hB1.size; have q0 : w1.cell? ⟨w.heap.size, 0, none⟩ = some (.int .i64 x) := (by rw [hb1.cell (by first | omega | (simp; done) | (simp; omega))]; simp [go_sem]); have r0 : w1.cell? ⟨w.heap.size + 2, 0, none⟩ = some (.int .i64 0) := (by rw [hb1.cell (by first | omega | (simp; done) | (simp; omega))]; simp [go_sem]); have r1 : w1.cell? ⟨w.heap.size + 2, 1, none⟩ = some (.int .i64 0) := (by rw [hb1.cell (by first | omega | (simp; done) | (simp; omega))]; simp [go_sem]); have r2 : w1.frozen? ⟨w.heap.size + 2, 0, none⟩ = false := (by rw [hb1.frozen (by first | omega | (simp; done) | (simp; omega))]; simp [go_sem]); have r3 : w1.frozen? ⟨w.heap.size + 2, 1, none⟩ = false := (by rw [hb1.frozen (by first | omega | (simp; done) | (simp; omega))]; simp [go_sem]); clear hb1))
    refine bodyPost_ret (v := .agg #[.int .i64 x, .int .i64 (p + x)]) ?_ rfl ⟨rfl, ?_⟩
    · simp [results, Try.results67, go_sem, *]
    · repeat' (first | exact Below.refl _ _ | assumption | refine Below.alloc ?_ (by first | omega | (simp; done) | (simp; omega)) _ | refine Below.drew ?_ | refine Below.setCell ?_ (by first | omega | (simp; done) | (simp; omega)) _)
set_option maxRecDepth 100000 in
set_option maxHeartbeats 4000000 in
theorem iSetSlide_any (a : Int) (As : Option Addr) (ns cs : Nat) (ls : List Int) (At : Option Addr) (nt ct : Nat) (lt : List Int) (x y : Int) (s d t : Int) (w : World) (hls : ls.length = ns) (hcs : ns ≤ cs) (hns : ns ≤ 1048576) (hrs : Sees w w.heap.size As (ls.map (Value.int .i64))) (hlt : lt.length = nt) (hct : nt ≤ ct) (hnt : nt ≤ 1048576) (hrt : Sees w w.heap.size At (lt.map (Value.int .i64))) :
    Calls Try.prog 25 #[.agg #[.int .i64 a, .slice As ns cs, .slice At nt ct], .agg #[.int .i64 x, .int .i64 y], .int .i64 s, .agg #[.int .i64 d, .int .i64 t]] w fun e w' => e = .returned (endSet (rSlide a ls lt x y s d t)) ∧ Below w.heap.size w w' := by
  have IR := fun W (hB : Below w.heap.size w W) => iIsRule_any a As ns cs ls At nt ct lt W hls hcs hns ((hrs.over hB).wider hB.size) hlt hct hnt ((hrt.over hB).wider hB.size)
  have IS := fun W => oneAlloc (iIsSetting_any x y W)
  have IG := fun W => oneAlloc (iIsFigure_any d t W)
  have HS := fun W (hB : Below w.heap.size w W) => oneAlloc (hasScale_any a As ns cs ls At nt ct lt true s W hls hcs hns ((hrs.over hB).wider hB.size) hlt hct hnt ((hrt.over hB).wider hB.size))
  clear hls hlt hrs hrt
  by_cases g2 : ruleB a ls lt = true
  · rw [g2] at IR
    by_cases g3 : setB x y = true
    · rw [g3] at IS
      by_cases g1 : figB d t = true
      · rw [g1] at IG
        by_cases g4 : s ∈ onScales true ls lt
        · rw [show decide (s ∈ onScales true ls lt) = true from decide_eq_true g4] at HS
          have HV0 := Lib.hid (show rSlide a ls lt x y s d t = rValid (y - ptOf s d t) y by rw [rSlide, if_pos g1, if_pos (l11C_0 g2 g3 g4)])
          have HV := HV0
          clear g2 g4
          obtain ⟨hd, t1, t2⟩ := figB_iff.1 g1
          have PT := fun W => pointOf_any s d t W hd (by omega) (by omega)
          obtain ⟨p1, p2⟩ := ptOf_bd (s := s) (t := t) hd
          obtain ⟨⟨x1, x2⟩, y1, y2⟩ := setB_iff.1 g3
          have VV := fun u v W => iValid_any u v W
          clear hd t1 t2 HV0 g1 g3
          generalize ptOf s d t = p at *
          obtain ⟨⟨⟨k1, k2⟩, z⟩, HP⟩ : ∃ q, Hid (rValid (y - p) y = q) := ⟨_, Lib.hid rfl⟩
          have V2 := fun W => VV (y - p) y W
          rw [HP.out] at V2
          unfold endSet at V2
          clear VV
          have ew : IntKind.i64.wrap (y - p) = y - p := IntWalk.i64_in _ (by omega)
          go_enter Try.func25, Try.ntmps25
          go_upto_region 0 with fail
          go_cut [4, 5, 7, 8, 9] (fun s4 s5 s7 s8 s9 wx => s4 = .pointer (some ⟨w.heap.size, 0, none⟩) ∧ s5 = .pointer (some ⟨w.heap.size + 1, 0, none⟩) ∧ s7 = .pointer (some ⟨w.heap.size + 2, 0, none⟩) ∧ s8 = .pointer (some ⟨w.heap.size + 3, 0, none⟩) ∧ s9 = .int .i64 0 ∧ wx.cell? ⟨w.heap.size, 0, none⟩ = some (.int .i64 a) ∧ wx.cell? ⟨w.heap.size, 1, none⟩ = some (.slice As ns cs) ∧ wx.cell? ⟨w.heap.size, 2, none⟩ = some (.slice At nt ct) ∧ wx.cell? ⟨(w.heap.size + 1), 0, none⟩ = some (.int .i64 x) ∧ wx.cell? ⟨(w.heap.size + 1), 1, none⟩ = some (.int .i64 y) ∧ wx.cell? ⟨(w.heap.size + 2), 0, none⟩ = some (.int .i64 d) ∧ wx.cell? ⟨(w.heap.size + 2), 1, none⟩ = some (.int .i64 t) ∧ wx.cell? ⟨(w.heap.size + 3), 0, none⟩ = some (.int .i64 0) ∧ wx.cell? ⟨(w.heap.size + 3), 1, none⟩ = some (.int .i64 0) ∧ wx.frozen? ⟨(w.heap.size + 1), 0, none⟩ = false ∧ wx.frozen? ⟨(w.heap.size + 1), 1, none⟩ = false ∧ wx.frozen? ⟨(w.heap.size + 3), 0, none⟩ = false ∧ wx.frozen? ⟨(w.heap.size + 3), 1, none⟩ = false ∧ (w.heap.size + 3) < wx.heap.size ∧ Below w.heap.size w wx)
          case first =>
            go_wp2_with fail
            go_meet
            refine ⟨rfl, rfl, rfl, rfl, rfl, ?_, ?_, ?_, ?_, ?_, ?_, ?_, ?_, ?_, ?_, ?_, ?_, ?_, ?_, by repeat' (first | exact Below.refl _ _ | assumption | refine Below.alloc ?_ (by first | omega | (simp; done) | (simp; omega)) _ | refine Below.drew ?_ | refine Below.setCell ?_ (by first | omega | (simp; done) | (simp; omega)) _)⟩
            all_goals (first | omega | (simp [go_sem]; done) | (simp; omega))
          case rest =>
          obtain ⟨rfl, rfl, rfl, rfl, rfl, c0, c1, c2, c3, c4, c5, c6, c7, c8, c9, c10, c11, c12, hl, B0⟩ := hcut
          obtain ⟨w0, rfl⟩ : ∃ w0 : World, w0 = wc := ⟨_, rfl⟩
          have lt0 : w.heap.size < w0.heap.size := by omega
          have lt1 : w.heap.size + 1 < w0.heap.size := by omega
          have lt2 : w.heap.size + 2 < w0.heap.size := by omega
          have KP := Lib.hid (show ∀ W : World, Below w0.heap.size w0 W → W.cell? ⟨w.heap.size, 0, none⟩ = some (.int .i64 a) ∧ W.cell? ⟨w.heap.size, 1, none⟩ = some (.slice As ns cs) ∧ W.cell? ⟨w.heap.size, 2, none⟩ = some (.slice At nt ct) ∧ W.cell? ⟨(w.heap.size + 1), 0, none⟩ = some (.int .i64 x) ∧ W.cell? ⟨(w.heap.size + 1), 1, none⟩ = some (.int .i64 y) ∧ W.cell? ⟨(w.heap.size + 2), 0, none⟩ = some (.int .i64 d) ∧ W.cell? ⟨(w.heap.size + 2), 1, none⟩ = some (.int .i64 t) ∧ W.cell? ⟨(w.heap.size + 3), 0, none⟩ = some (.int .i64 0) ∧ W.cell? ⟨(w.heap.size + 3), 1, none⟩ = some (.int .i64 0) ∧ W.frozen? ⟨(w.heap.size + 1), 0, none⟩ = false ∧ W.frozen? ⟨(w.heap.size + 1), 1, none⟩ = false ∧ W.frozen? ⟨(w.heap.size + 3), 0, none⟩ = false ∧ W.frozen? ⟨(w.heap.size + 3), 1, none⟩ = false from fun W hW => ⟨(hW.cell (by first | omega | (simp; done) | (simp; omega))).trans c0, (hW.cell (by first | omega | (simp; done) | (simp; omega))).trans c1, (hW.cell (by first | omega | (simp; done) | (simp; omega))).trans c2, (hW.cell (by first | omega | (simp; done) | (simp; omega))).trans c3, (hW.cell (by first | omega | (simp; done) | (simp; omega))).trans c4, (hW.cell (by first | omega | (simp; done) | (simp; omega))).trans c5, (hW.cell (by first | omega | (simp; done) | (simp; omega))).trans c6, (hW.cell (by first | omega | (simp; done) | (simp; omega))).trans c7, (hW.cell (by first | omega | (simp; done) | (simp; omega))).trans c8, (hW.frozen (by first | omega | (simp; done) | (simp; omega))).trans c9, (hW.frozen (by first | omega | (simp; done) | (simp; omega))).trans c10, (hW.frozen (by first | omega | (simp; done) | (simp; omega))).trans c11, (hW.frozen (by first | omega | (simp; done) | (simp; omega))).trans c12⟩)
          go_upto_region 5 with (first
            | (go_at_call 61; (with_reducible refine (IR _ ?_).mono ?_); (focus (repeat' (first | exact Below.refl _ _ | assumption | (refine B0.trans (Below.mono ?_ B0.size); assumption) | refine Below.alloc ?_ (by first | omega | (simp; done) | (simp; omega)) _ | refine Below.drew ?_ | refine Below.setCell ?_ (by first | omega | (simp; done) | (simp; omega)) _))); rintro e w1 ⟨rfl, hb1⟩; have hB1 : Below w0.heap.size w0 w1 := Below.trans (by repeat' (first | exact Below.refl _ _ | assumption | refine Below.alloc ?_ (by first | omega | (simp; done) | (simp; omega)) _ | refine Below.drew ?_ | refine Below.setCell ?_ (by first | omega | (simp; done) | (simp; omega)) _)) (hb1.mono (by first | omega | (simp; done) | (simp; omega))); have hz1 := hB1.size; obtain ⟨q1_0, q1_1, q1_2, q1_3, q1_4, q1_5, q1_6, q1_7, q1_8, q1_9, q1_10, q1_11, q1_12⟩ := KP.out w1 hB1; clear hb1)
            | (go_at_call 62; (with_reducible refine (IS _).mono ?_); rintro e w2 ⟨rfl, hb2⟩; have hB2 : Below w0.heap.size w0 w2 := Below.trans (by repeat' (first | exact Below.refl _ _ | assumption | refine Below.alloc ?_ (by first | omega | (simp; done) | (simp; omega)) _ | refine Below.drew ?_ | refine Below.setCell ?_ (by first | omega | (simp; done) | (simp; omega)) _)) (hb2.mono (by first | omega | (simp; done) | (simp; omega))); have hz2 := hB2.size; obtain ⟨q2_0, q2_1, q2_2, q2_3, q2_4, q2_5, q2_6, q2_7, q2_8, q2_9, q2_10, q2_11, q2_12⟩ := KP.out w2 hB2; clear hb2)
            | (go_at_call 38; (with_reducible refine (IG _).mono ?_); rintro e w3 ⟨rfl, hb3⟩; have hB3 : Below w0.heap.size w0 w3 := Below.trans (by repeat' (first | exact Below.refl _ _ | assumption | refine Below.alloc ?_ (by first | omega | (simp; done) | (simp; omega)) _ | refine Below.drew ?_ | refine Below.setCell ?_ (by first | omega | (simp; done) | (simp; omega)) _)) (hb3.mono (by first | omega | (simp; done) | (simp; omega))); have hz3 := hB3.size; obtain ⟨q3_0, q3_1, q3_2, q3_3, q3_4, q3_5, q3_6, q3_7, q3_8, q3_9, q3_10, q3_11, q3_12⟩ := KP.out w3 hB3; clear hb3)
            | (go_at_call 63; (with_reducible refine (HS _ ?_).mono ?_); (focus (repeat' (first | exact Below.refl _ _ | assumption | (refine B0.trans (Below.mono ?_ B0.size); assumption) | refine Below.alloc ?_ (by first | omega | (simp; done) | (simp; omega)) _ | refine Below.drew ?_ | refine Below.setCell ?_ (by first | omega | (simp; done) | (simp; omega)) _))); rintro e w4 ⟨rfl, hb4⟩; have hB4 : Below w0.heap.size w0 w4 := Below.trans (by repeat' (first | exact Below.refl _ _ | assumption | refine Below.alloc ?_ (by first | omega | (simp; done) | (simp; omega)) _ | refine Below.drew ?_ | refine Below.setCell ?_ (by first | omega | (simp; done) | (simp; omega)) _)) (hb4.mono (by first | omega | (simp; done) | (simp; omega))); have hz4 := hB4.size; obtain ⟨q4_0, q4_1, q4_2, q4_3, q4_4, q4_5, q4_6, q4_7, q4_8, q4_9, q4_10, q4_11, q4_12⟩ := KP.out w4 hB4; clear hb4))
          go_cut [] (fun wx => wx.cell? ⟨w.heap.size + 1, 0, none⟩ = some (.int .i64 (y - p)) ∧ wx.cell? ⟨w.heap.size + 1, 1, none⟩ = some (.int .i64 y) ∧ wx.cell? ⟨w.heap.size + 3, 0, none⟩ = some (.int .i64 0) ∧ wx.cell? ⟨w.heap.size + 3, 1, none⟩ = some (.int .i64 0) ∧ wx.frozen? ⟨w.heap.size + 3, 0, none⟩ = false ∧ wx.frozen? ⟨w.heap.size + 3, 1, none⟩ = false ∧ w.heap.size + 3 < wx.heap.size ∧ Below w.heap.size w wx)
          case first =>
            go_region_held3 (fun w' => w'.cell? ⟨w.heap.size + 1, 1, none⟩ = some (.int .i64 y) ∧ w'.cell? ⟨w.heap.size + 2, 0, none⟩ = some (.int .i64 d) ∧ w'.cell? ⟨w.heap.size + 2, 1, none⟩ = some (.int .i64 t)) (first | (go_keep; done) | (refine ⟨?_, ?_, ?_⟩ <;> (simp [go_sem, *]; done))) (first
              | (go_at_call 64; (with_reducible refine (PT _).mono ?_); rintro e w5 ⟨rfl, hb5⟩; have hB5 : Below w0.heap.size w0 w5 := Below.trans (by repeat' (first | exact Below.refl _ _ | assumption | refine Below.alloc ?_ (by first | omega | (simp; done) | (simp; omega)) _ | refine Below.drew ?_ | refine Below.setCell ?_ (by first | omega | (simp; done) | (simp; omega)) _)) (hb5.mono (by first | omega | (simp; done) | (simp; omega))); have hz5 := hB5.size; obtain ⟨q5_0, q5_1, q5_2, q5_3, q5_4, q5_5, q5_6, q5_7, q5_8, q5_9, q5_10, q5_11, q5_12⟩ := KP.out w5 hB5; clear hb5))
            all_goals (go_wp2_with fail; go_meet; refine ⟨?_, ?_, ?_, ?_, ?_, ?_, ?_, by repeat' (first | exact Below.refl _ _ | assumption | (refine B0.trans (Below.mono ?_ B0.size); assumption) | refine Below.alloc ?_ (by first | omega | (simp; done) | (simp; omega)) _ | refine Below.drew ?_ | refine Below.setCell ?_ (by first | omega | (simp; done) | (simp; omega)) _)⟩)
            all_goals (first | omega | (simp [go_sem, *]; done) | (simp; omega))
          case rest =>
          obtain ⟨d1, d2, d3, d4, d5, d6, d7, B1⟩ := hcut
          go_wp2_with fail
          refine (V2 _).mono ?_
          rintro e w9 ⟨rfl, hb9⟩
          have e1 : w9.cell? ⟨w.heap.size + 3, 0, none⟩ = some (.int .i64 0) := (hb9.cell (by first | omega | (simp; done) | (simp; omega))).trans d3
          have e2 : w9.cell? ⟨w.heap.size + 3, 1, none⟩ = some (.int .i64 0) := (hb9.cell (by first | omega | (simp; done) | (simp; omega))).trans d4
          have e3 : w9.frozen? ⟨w.heap.size + 3, 0, none⟩ = false := (hb9.frozen (by first | omega | (simp; done) | (simp; omega))).trans d5
          have e4 : w9.frozen? ⟨w.heap.size + 3, 1, none⟩ = false := (hb9.frozen (by first | omega | (simp; done) | (simp; omega))).trans d6
          have B9 := B1.trans (hb9.mono B1.size)
          clear hb9
          go_wp2_with fail
          (refine bodyPost_ret (v := .tuple #[.agg #[.int .i64 k1, .int .i64 k2], .int .i64 z]) ?_ rfl ?_; (focus (simp [results, Try.results25, go_sem, *])); exact ⟨endSet_of (HV.out.trans HP.out), by repeat' (first | exact Below.refl _ _ | assumption | refine Below.alloc ?_ (by first | omega | (simp; done) | (simp; omega)) _ | refine Below.drew ?_ | refine Below.setCell ?_ (by first | omega | (simp; done) | (simp; omega)) _)⟩)
        · rw [show decide (s ∈ onScales true ls lt) = false from decide_eq_false g4] at HS
          have HV := Lib.hid (show rSlide a ls lt x y s d t = ((0, 0), 2) by rw [rSlide, if_pos g1, if_neg (by rw [l11C_2 g2 g3 g4]; decide), l11C_2 g2 g3 g4])
          clear g1 g2 g3 g4
          go_enter Try.func25, Try.ntmps25
          go_upto_region 0 with fail
          go_cut [4, 5, 7, 8, 9] (fun s4 s5 s7 s8 s9 wx => s4 = .pointer (some ⟨w.heap.size, 0, none⟩) ∧ s5 = .pointer (some ⟨w.heap.size + 1, 0, none⟩) ∧ s7 = .pointer (some ⟨w.heap.size + 2, 0, none⟩) ∧ s8 = .pointer (some ⟨w.heap.size + 3, 0, none⟩) ∧ s9 = .int .i64 0 ∧ wx.cell? ⟨w.heap.size, 0, none⟩ = some (.int .i64 a) ∧ wx.cell? ⟨w.heap.size, 1, none⟩ = some (.slice As ns cs) ∧ wx.cell? ⟨w.heap.size, 2, none⟩ = some (.slice At nt ct) ∧ wx.cell? ⟨(w.heap.size + 1), 0, none⟩ = some (.int .i64 x) ∧ wx.cell? ⟨(w.heap.size + 1), 1, none⟩ = some (.int .i64 y) ∧ wx.cell? ⟨(w.heap.size + 2), 0, none⟩ = some (.int .i64 d) ∧ wx.cell? ⟨(w.heap.size + 2), 1, none⟩ = some (.int .i64 t) ∧ wx.cell? ⟨(w.heap.size + 3), 0, none⟩ = some (.int .i64 0) ∧ wx.cell? ⟨(w.heap.size + 3), 1, none⟩ = some (.int .i64 0) ∧ wx.frozen? ⟨(w.heap.size + 1), 0, none⟩ = false ∧ wx.frozen? ⟨(w.heap.size + 1), 1, none⟩ = false ∧ wx.frozen? ⟨(w.heap.size + 3), 0, none⟩ = false ∧ wx.frozen? ⟨(w.heap.size + 3), 1, none⟩ = false ∧ (w.heap.size + 3) < wx.heap.size ∧ Below w.heap.size w wx)
          case first =>
            go_wp2_with fail
            go_meet
            refine ⟨rfl, rfl, rfl, rfl, rfl, ?_, ?_, ?_, ?_, ?_, ?_, ?_, ?_, ?_, ?_, ?_, ?_, ?_, ?_, by repeat' (first | exact Below.refl _ _ | assumption | refine Below.alloc ?_ (by first | omega | (simp; done) | (simp; omega)) _ | refine Below.drew ?_ | refine Below.setCell ?_ (by first | omega | (simp; done) | (simp; omega)) _)⟩
            all_goals (first | omega | (simp [go_sem]; done) | (simp; omega))
          case rest =>
          obtain ⟨rfl, rfl, rfl, rfl, rfl, c0, c1, c2, c3, c4, c5, c6, c7, c8, c9, c10, c11, c12, hl, B0⟩ := hcut
          obtain ⟨w0, rfl⟩ : ∃ w0 : World, w0 = wc := ⟨_, rfl⟩
          have lt0 : w.heap.size < w0.heap.size := by omega
          have lt1 : w.heap.size + 1 < w0.heap.size := by omega
          have lt2 : w.heap.size + 2 < w0.heap.size := by omega
          have KP := Lib.hid (show ∀ W : World, Below w0.heap.size w0 W → W.cell? ⟨w.heap.size, 0, none⟩ = some (.int .i64 a) ∧ W.cell? ⟨w.heap.size, 1, none⟩ = some (.slice As ns cs) ∧ W.cell? ⟨w.heap.size, 2, none⟩ = some (.slice At nt ct) ∧ W.cell? ⟨(w.heap.size + 1), 0, none⟩ = some (.int .i64 x) ∧ W.cell? ⟨(w.heap.size + 1), 1, none⟩ = some (.int .i64 y) ∧ W.cell? ⟨(w.heap.size + 2), 0, none⟩ = some (.int .i64 d) ∧ W.cell? ⟨(w.heap.size + 2), 1, none⟩ = some (.int .i64 t) ∧ W.cell? ⟨(w.heap.size + 3), 0, none⟩ = some (.int .i64 0) ∧ W.cell? ⟨(w.heap.size + 3), 1, none⟩ = some (.int .i64 0) ∧ W.frozen? ⟨(w.heap.size + 1), 0, none⟩ = false ∧ W.frozen? ⟨(w.heap.size + 1), 1, none⟩ = false ∧ W.frozen? ⟨(w.heap.size + 3), 0, none⟩ = false ∧ W.frozen? ⟨(w.heap.size + 3), 1, none⟩ = false from fun W hW => ⟨(hW.cell (by first | omega | (simp; done) | (simp; omega))).trans c0, (hW.cell (by first | omega | (simp; done) | (simp; omega))).trans c1, (hW.cell (by first | omega | (simp; done) | (simp; omega))).trans c2, (hW.cell (by first | omega | (simp; done) | (simp; omega))).trans c3, (hW.cell (by first | omega | (simp; done) | (simp; omega))).trans c4, (hW.cell (by first | omega | (simp; done) | (simp; omega))).trans c5, (hW.cell (by first | omega | (simp; done) | (simp; omega))).trans c6, (hW.cell (by first | omega | (simp; done) | (simp; omega))).trans c7, (hW.cell (by first | omega | (simp; done) | (simp; omega))).trans c8, (hW.frozen (by first | omega | (simp; done) | (simp; omega))).trans c9, (hW.frozen (by first | omega | (simp; done) | (simp; omega))).trans c10, (hW.frozen (by first | omega | (simp; done) | (simp; omega))).trans c11, (hW.frozen (by first | omega | (simp; done) | (simp; omega))).trans c12⟩)
          go_wp2_with (first
            | (go_at_call 61; (with_reducible refine (IR _ ?_).mono ?_); (focus (repeat' (first | exact Below.refl _ _ | assumption | (refine B0.trans (Below.mono ?_ B0.size); assumption) | refine Below.alloc ?_ (by first | omega | (simp; done) | (simp; omega)) _ | refine Below.drew ?_ | refine Below.setCell ?_ (by first | omega | (simp; done) | (simp; omega)) _))); rintro e w1 ⟨rfl, hb1⟩; have hB1 : Below w0.heap.size w0 w1 := Below.trans (by repeat' (first | exact Below.refl _ _ | assumption | refine Below.alloc ?_ (by first | omega | (simp; done) | (simp; omega)) _ | refine Below.drew ?_ | refine Below.setCell ?_ (by first | omega | (simp; done) | (simp; omega)) _)) (hb1.mono (by first | omega | (simp; done) | (simp; omega))); have hz1 := hB1.size; obtain ⟨q1_0, q1_1, q1_2, q1_3, q1_4, q1_5, q1_6, q1_7, q1_8, q1_9, q1_10, q1_11, q1_12⟩ := KP.out w1 hB1; clear hb1)
            | (go_at_call 62; (with_reducible refine (IS _).mono ?_); rintro e w2 ⟨rfl, hb2⟩; have hB2 : Below w0.heap.size w0 w2 := Below.trans (by repeat' (first | exact Below.refl _ _ | assumption | refine Below.alloc ?_ (by first | omega | (simp; done) | (simp; omega)) _ | refine Below.drew ?_ | refine Below.setCell ?_ (by first | omega | (simp; done) | (simp; omega)) _)) (hb2.mono (by first | omega | (simp; done) | (simp; omega))); have hz2 := hB2.size; obtain ⟨q2_0, q2_1, q2_2, q2_3, q2_4, q2_5, q2_6, q2_7, q2_8, q2_9, q2_10, q2_11, q2_12⟩ := KP.out w2 hB2; clear hb2)
            | (go_at_call 38; (with_reducible refine (IG _).mono ?_); rintro e w3 ⟨rfl, hb3⟩; have hB3 : Below w0.heap.size w0 w3 := Below.trans (by repeat' (first | exact Below.refl _ _ | assumption | refine Below.alloc ?_ (by first | omega | (simp; done) | (simp; omega)) _ | refine Below.drew ?_ | refine Below.setCell ?_ (by first | omega | (simp; done) | (simp; omega)) _)) (hb3.mono (by first | omega | (simp; done) | (simp; omega))); have hz3 := hB3.size; obtain ⟨q3_0, q3_1, q3_2, q3_3, q3_4, q3_5, q3_6, q3_7, q3_8, q3_9, q3_10, q3_11, q3_12⟩ := KP.out w3 hB3; clear hb3)
            | (go_at_call 63; (with_reducible refine (HS _ ?_).mono ?_); (focus (repeat' (first | exact Below.refl _ _ | assumption | (refine B0.trans (Below.mono ?_ B0.size); assumption) | refine Below.alloc ?_ (by first | omega | (simp; done) | (simp; omega)) _ | refine Below.drew ?_ | refine Below.setCell ?_ (by first | omega | (simp; done) | (simp; omega)) _))); rintro e w4 ⟨rfl, hb4⟩; have hB4 : Below w0.heap.size w0 w4 := Below.trans (by repeat' (first | exact Below.refl _ _ | assumption | refine Below.alloc ?_ (by first | omega | (simp; done) | (simp; omega)) _ | refine Below.drew ?_ | refine Below.setCell ?_ (by first | omega | (simp; done) | (simp; omega)) _)) (hb4.mono (by first | omega | (simp; done) | (simp; omega))); have hz4 := hB4.size; obtain ⟨q4_0, q4_1, q4_2, q4_3, q4_4, q4_5, q4_6, q4_7, q4_8, q4_9, q4_10, q4_11, q4_12⟩ := KP.out w4 hB4; clear hb4))
          (refine bodyPost_ret (v := .tuple #[.agg #[.int .i64 0, .int .i64 0], .int .i64 2]) ?_ rfl ?_; (focus (simp [results, Try.results25, go_sem, *])); exact ⟨endSet_of HV.out, by repeat' (first | exact Below.refl _ _ | assumption | (refine B0.trans (Below.mono ?_ B0.size); assumption) | refine Below.alloc ?_ (by first | omega | (simp; done) | (simp; omega)) _ | refine Below.drew ?_ | refine Below.setCell ?_ (by first | omega | (simp; done) | (simp; omega)) _)⟩)
      · have g1' : figB d t = false := by simpa using g1
        rw [g1'] at IG
        have HV := Lib.hid (show rSlide a ls lt x y s d t = ((0, 0), 1) by rw [rSlide, if_neg g1])
        clear g1 g1' g2 g3 HS
        go_enter Try.func25, Try.ntmps25
        go_upto_region 0 with fail
        go_cut [4, 5, 7, 8, 9] (fun s4 s5 s7 s8 s9 wx => s4 = .pointer (some ⟨w.heap.size, 0, none⟩) ∧ s5 = .pointer (some ⟨w.heap.size + 1, 0, none⟩) ∧ s7 = .pointer (some ⟨w.heap.size + 2, 0, none⟩) ∧ s8 = .pointer (some ⟨w.heap.size + 3, 0, none⟩) ∧ s9 = .int .i64 0 ∧ wx.cell? ⟨w.heap.size, 0, none⟩ = some (.int .i64 a) ∧ wx.cell? ⟨w.heap.size, 1, none⟩ = some (.slice As ns cs) ∧ wx.cell? ⟨w.heap.size, 2, none⟩ = some (.slice At nt ct) ∧ wx.cell? ⟨(w.heap.size + 1), 0, none⟩ = some (.int .i64 x) ∧ wx.cell? ⟨(w.heap.size + 1), 1, none⟩ = some (.int .i64 y) ∧ wx.cell? ⟨(w.heap.size + 2), 0, none⟩ = some (.int .i64 d) ∧ wx.cell? ⟨(w.heap.size + 2), 1, none⟩ = some (.int .i64 t) ∧ wx.cell? ⟨(w.heap.size + 3), 0, none⟩ = some (.int .i64 0) ∧ wx.cell? ⟨(w.heap.size + 3), 1, none⟩ = some (.int .i64 0) ∧ wx.frozen? ⟨(w.heap.size + 1), 0, none⟩ = false ∧ wx.frozen? ⟨(w.heap.size + 1), 1, none⟩ = false ∧ wx.frozen? ⟨(w.heap.size + 3), 0, none⟩ = false ∧ wx.frozen? ⟨(w.heap.size + 3), 1, none⟩ = false ∧ (w.heap.size + 3) < wx.heap.size ∧ Below w.heap.size w wx)
        case first =>
          go_wp2_with fail
          go_meet
          refine ⟨rfl, rfl, rfl, rfl, rfl, ?_, ?_, ?_, ?_, ?_, ?_, ?_, ?_, ?_, ?_, ?_, ?_, ?_, ?_, by repeat' (first | exact Below.refl _ _ | assumption | refine Below.alloc ?_ (by first | omega | (simp; done) | (simp; omega)) _ | refine Below.drew ?_ | refine Below.setCell ?_ (by first | omega | (simp; done) | (simp; omega)) _)⟩
          all_goals (first | omega | (simp [go_sem]; done) | (simp; omega))
        case rest =>
        obtain ⟨rfl, rfl, rfl, rfl, rfl, c0, c1, c2, c3, c4, c5, c6, c7, c8, c9, c10, c11, c12, hl, B0⟩ := hcut
        obtain ⟨w0, rfl⟩ : ∃ w0 : World, w0 = wc := ⟨_, rfl⟩
        have lt0 : w.heap.size < w0.heap.size := by omega
        have lt1 : w.heap.size + 1 < w0.heap.size := by omega
        have lt2 : w.heap.size + 2 < w0.heap.size := by omega
        have KP := Lib.hid (show ∀ W : World, Below w0.heap.size w0 W → W.cell? ⟨w.heap.size, 0, none⟩ = some (.int .i64 a) ∧ W.cell? ⟨w.heap.size, 1, none⟩ = some (.slice As ns cs) ∧ W.cell? ⟨w.heap.size, 2, none⟩ = some (.slice At nt ct) ∧ W.cell? ⟨(w.heap.size + 1), 0, none⟩ = some (.int .i64 x) ∧ W.cell? ⟨(w.heap.size + 1), 1, none⟩ = some (.int .i64 y) ∧ W.cell? ⟨(w.heap.size + 2), 0, none⟩ = some (.int .i64 d) ∧ W.cell? ⟨(w.heap.size + 2), 1, none⟩ = some (.int .i64 t) ∧ W.cell? ⟨(w.heap.size + 3), 0, none⟩ = some (.int .i64 0) ∧ W.cell? ⟨(w.heap.size + 3), 1, none⟩ = some (.int .i64 0) ∧ W.frozen? ⟨(w.heap.size + 1), 0, none⟩ = false ∧ W.frozen? ⟨(w.heap.size + 1), 1, none⟩ = false ∧ W.frozen? ⟨(w.heap.size + 3), 0, none⟩ = false ∧ W.frozen? ⟨(w.heap.size + 3), 1, none⟩ = false from fun W hW => ⟨(hW.cell (by first | omega | (simp; done) | (simp; omega))).trans c0, (hW.cell (by first | omega | (simp; done) | (simp; omega))).trans c1, (hW.cell (by first | omega | (simp; done) | (simp; omega))).trans c2, (hW.cell (by first | omega | (simp; done) | (simp; omega))).trans c3, (hW.cell (by first | omega | (simp; done) | (simp; omega))).trans c4, (hW.cell (by first | omega | (simp; done) | (simp; omega))).trans c5, (hW.cell (by first | omega | (simp; done) | (simp; omega))).trans c6, (hW.cell (by first | omega | (simp; done) | (simp; omega))).trans c7, (hW.cell (by first | omega | (simp; done) | (simp; omega))).trans c8, (hW.frozen (by first | omega | (simp; done) | (simp; omega))).trans c9, (hW.frozen (by first | omega | (simp; done) | (simp; omega))).trans c10, (hW.frozen (by first | omega | (simp; done) | (simp; omega))).trans c11, (hW.frozen (by first | omega | (simp; done) | (simp; omega))).trans c12⟩)
        go_wp2_with (first
          | (go_at_call 61; (with_reducible refine (IR _ ?_).mono ?_); (focus (repeat' (first | exact Below.refl _ _ | assumption | (refine B0.trans (Below.mono ?_ B0.size); assumption) | refine Below.alloc ?_ (by first | omega | (simp; done) | (simp; omega)) _ | refine Below.drew ?_ | refine Below.setCell ?_ (by first | omega | (simp; done) | (simp; omega)) _))); rintro e w1 ⟨rfl, hb1⟩; have hB1 : Below w0.heap.size w0 w1 := Below.trans (by repeat' (first | exact Below.refl _ _ | assumption | refine Below.alloc ?_ (by first | omega | (simp; done) | (simp; omega)) _ | refine Below.drew ?_ | refine Below.setCell ?_ (by first | omega | (simp; done) | (simp; omega)) _)) (hb1.mono (by first | omega | (simp; done) | (simp; omega))); have hz1 := hB1.size; obtain ⟨q1_0, q1_1, q1_2, q1_3, q1_4, q1_5, q1_6, q1_7, q1_8, q1_9, q1_10, q1_11, q1_12⟩ := KP.out w1 hB1; clear hb1)
          | (go_at_call 62; (with_reducible refine (IS _).mono ?_); rintro e w2 ⟨rfl, hb2⟩; have hB2 : Below w0.heap.size w0 w2 := Below.trans (by repeat' (first | exact Below.refl _ _ | assumption | refine Below.alloc ?_ (by first | omega | (simp; done) | (simp; omega)) _ | refine Below.drew ?_ | refine Below.setCell ?_ (by first | omega | (simp; done) | (simp; omega)) _)) (hb2.mono (by first | omega | (simp; done) | (simp; omega))); have hz2 := hB2.size; obtain ⟨q2_0, q2_1, q2_2, q2_3, q2_4, q2_5, q2_6, q2_7, q2_8, q2_9, q2_10, q2_11, q2_12⟩ := KP.out w2 hB2; clear hb2)
          | (go_at_call 38; (with_reducible refine (IG _).mono ?_); rintro e w3 ⟨rfl, hb3⟩; have hB3 : Below w0.heap.size w0 w3 := Below.trans (by repeat' (first | exact Below.refl _ _ | assumption | refine Below.alloc ?_ (by first | omega | (simp; done) | (simp; omega)) _ | refine Below.drew ?_ | refine Below.setCell ?_ (by first | omega | (simp; done) | (simp; omega)) _)) (hb3.mono (by first | omega | (simp; done) | (simp; omega))); have hz3 := hB3.size; obtain ⟨q3_0, q3_1, q3_2, q3_3, q3_4, q3_5, q3_6, q3_7, q3_8, q3_9, q3_10, q3_11, q3_12⟩ := KP.out w3 hB3; clear hb3))
        (refine bodyPost_ret (v := .tuple #[.agg #[.int .i64 0, .int .i64 0], .int .i64 1]) ?_ rfl ?_; (focus (simp [results, Try.results25, go_sem, *])); exact ⟨endSet_of HV.out, by repeat' (first | exact Below.refl _ _ | assumption | (refine B0.trans (Below.mono ?_ B0.size); assumption) | refine Below.alloc ?_ (by first | omega | (simp; done) | (simp; omega)) _ | refine Below.drew ?_ | refine Below.setCell ?_ (by first | omega | (simp; done) | (simp; omega)) _)⟩)
    · have g3' : setB x y = false := by simpa using g3
      rw [g3'] at IS
      have HV := Lib.hid (show rSlide a ls lt x y s d t = ((0, 0), 1) by
        rw [rSlide]
        split
        · rw [l11C_1 (.inr g3')]; rfl
        · rfl)
      clear g3 g3' g2 HS IG
      go_enter Try.func25, Try.ntmps25
      go_upto_region 0 with fail
      go_cut [4, 5, 7, 8, 9] (fun s4 s5 s7 s8 s9 wx => s4 = .pointer (some ⟨w.heap.size, 0, none⟩) ∧ s5 = .pointer (some ⟨w.heap.size + 1, 0, none⟩) ∧ s7 = .pointer (some ⟨w.heap.size + 2, 0, none⟩) ∧ s8 = .pointer (some ⟨w.heap.size + 3, 0, none⟩) ∧ s9 = .int .i64 0 ∧ wx.cell? ⟨w.heap.size, 0, none⟩ = some (.int .i64 a) ∧ wx.cell? ⟨w.heap.size, 1, none⟩ = some (.slice As ns cs) ∧ wx.cell? ⟨w.heap.size, 2, none⟩ = some (.slice At nt ct) ∧ wx.cell? ⟨(w.heap.size + 1), 0, none⟩ = some (.int .i64 x) ∧ wx.cell? ⟨(w.heap.size + 1), 1, none⟩ = some (.int .i64 y) ∧ wx.cell? ⟨(w.heap.size + 2), 0, none⟩ = some (.int .i64 d) ∧ wx.cell? ⟨(w.heap.size + 2), 1, none⟩ = some (.int .i64 t) ∧ wx.cell? ⟨(w.heap.size + 3), 0, none⟩ = some (.int .i64 0) ∧ wx.cell? ⟨(w.heap.size + 3), 1, none⟩ = some (.int .i64 0) ∧ wx.frozen? ⟨(w.heap.size + 1), 0, none⟩ = false ∧ wx.frozen? ⟨(w.heap.size + 1), 1, none⟩ = false ∧ wx.frozen? ⟨(w.heap.size + 3), 0, none⟩ = false ∧ wx.frozen? ⟨(w.heap.size + 3), 1, none⟩ = false ∧ (w.heap.size + 3) < wx.heap.size ∧ Below w.heap.size w wx)
      case first =>
        go_wp2_with fail
        go_meet
        refine ⟨rfl, rfl, rfl, rfl, rfl, ?_, ?_, ?_, ?_, ?_, ?_, ?_, ?_, ?_, ?_, ?_, ?_, ?_, ?_, by repeat' (first | exact Below.refl _ _ | assumption | refine Below.alloc ?_ (by first | omega | (simp; done) | (simp; omega)) _ | refine Below.drew ?_ | refine Below.setCell ?_ (by first | omega | (simp; done) | (simp; omega)) _)⟩
        all_goals (first | omega | (simp [go_sem]; done) | (simp; omega))
      case rest =>
      obtain ⟨rfl, rfl, rfl, rfl, rfl, c0, c1, c2, c3, c4, c5, c6, c7, c8, c9, c10, c11, c12, hl, B0⟩ := hcut
      obtain ⟨w0, rfl⟩ : ∃ w0 : World, w0 = wc := ⟨_, rfl⟩
      have lt0 : w.heap.size < w0.heap.size := by omega
      have lt1 : w.heap.size + 1 < w0.heap.size := by omega
      have lt2 : w.heap.size + 2 < w0.heap.size := by omega
      have KP := Lib.hid (show ∀ W : World, Below w0.heap.size w0 W → W.cell? ⟨w.heap.size, 0, none⟩ = some (.int .i64 a) ∧ W.cell? ⟨w.heap.size, 1, none⟩ = some (.slice As ns cs) ∧ W.cell? ⟨w.heap.size, 2, none⟩ = some (.slice At nt ct) ∧ W.cell? ⟨(w.heap.size + 1), 0, none⟩ = some (.int .i64 x) ∧ W.cell? ⟨(w.heap.size + 1), 1, none⟩ = some (.int .i64 y) ∧ W.cell? ⟨(w.heap.size + 2), 0, none⟩ = some (.int .i64 d) ∧ W.cell? ⟨(w.heap.size + 2), 1, none⟩ = some (.int .i64 t) ∧ W.cell? ⟨(w.heap.size + 3), 0, none⟩ = some (.int .i64 0) ∧ W.cell? ⟨(w.heap.size + 3), 1, none⟩ = some (.int .i64 0) ∧ W.frozen? ⟨(w.heap.size + 1), 0, none⟩ = false ∧ W.frozen? ⟨(w.heap.size + 1), 1, none⟩ = false ∧ W.frozen? ⟨(w.heap.size + 3), 0, none⟩ = false ∧ W.frozen? ⟨(w.heap.size + 3), 1, none⟩ = false from fun W hW => ⟨(hW.cell (by first | omega | (simp; done) | (simp; omega))).trans c0, (hW.cell (by first | omega | (simp; done) | (simp; omega))).trans c1, (hW.cell (by first | omega | (simp; done) | (simp; omega))).trans c2, (hW.cell (by first | omega | (simp; done) | (simp; omega))).trans c3, (hW.cell (by first | omega | (simp; done) | (simp; omega))).trans c4, (hW.cell (by first | omega | (simp; done) | (simp; omega))).trans c5, (hW.cell (by first | omega | (simp; done) | (simp; omega))).trans c6, (hW.cell (by first | omega | (simp; done) | (simp; omega))).trans c7, (hW.cell (by first | omega | (simp; done) | (simp; omega))).trans c8, (hW.frozen (by first | omega | (simp; done) | (simp; omega))).trans c9, (hW.frozen (by first | omega | (simp; done) | (simp; omega))).trans c10, (hW.frozen (by first | omega | (simp; done) | (simp; omega))).trans c11, (hW.frozen (by first | omega | (simp; done) | (simp; omega))).trans c12⟩)
      go_wp2_with (first
        | (go_at_call 61; (with_reducible refine (IR _ ?_).mono ?_); (focus (repeat' (first | exact Below.refl _ _ | assumption | (refine B0.trans (Below.mono ?_ B0.size); assumption) | refine Below.alloc ?_ (by first | omega | (simp; done) | (simp; omega)) _ | refine Below.drew ?_ | refine Below.setCell ?_ (by first | omega | (simp; done) | (simp; omega)) _))); rintro e w1 ⟨rfl, hb1⟩; have hB1 : Below w0.heap.size w0 w1 := Below.trans (by repeat' (first | exact Below.refl _ _ | assumption | refine Below.alloc ?_ (by first | omega | (simp; done) | (simp; omega)) _ | refine Below.drew ?_ | refine Below.setCell ?_ (by first | omega | (simp; done) | (simp; omega)) _)) (hb1.mono (by first | omega | (simp; done) | (simp; omega))); have hz1 := hB1.size; obtain ⟨q1_0, q1_1, q1_2, q1_3, q1_4, q1_5, q1_6, q1_7, q1_8, q1_9, q1_10, q1_11, q1_12⟩ := KP.out w1 hB1; clear hb1)
        | (go_at_call 62; (with_reducible refine (IS _).mono ?_); rintro e w2 ⟨rfl, hb2⟩; have hB2 : Below w0.heap.size w0 w2 := Below.trans (by repeat' (first | exact Below.refl _ _ | assumption | refine Below.alloc ?_ (by first | omega | (simp; done) | (simp; omega)) _ | refine Below.drew ?_ | refine Below.setCell ?_ (by first | omega | (simp; done) | (simp; omega)) _)) (hb2.mono (by first | omega | (simp; done) | (simp; omega))); have hz2 := hB2.size; obtain ⟨q2_0, q2_1, q2_2, q2_3, q2_4, q2_5, q2_6, q2_7, q2_8, q2_9, q2_10, q2_11, q2_12⟩ := KP.out w2 hB2; clear hb2))
      (refine bodyPost_ret (v := .tuple #[.agg #[.int .i64 0, .int .i64 0], .int .i64 1]) ?_ rfl ?_; (focus (simp [results, Try.results25, go_sem, *])); exact ⟨endSet_of HV.out, by repeat' (first | exact Below.refl _ _ | assumption | (refine B0.trans (Below.mono ?_ B0.size); assumption) | refine Below.alloc ?_ (by first | omega | (simp; done) | (simp; omega)) _ | refine Below.drew ?_ | refine Below.setCell ?_ (by first | omega | (simp; done) | (simp; omega)) _)⟩)
  · have g2' : ruleB a ls lt = false := by simpa using g2
    rw [g2'] at IR
    have HV := Lib.hid (show rSlide a ls lt x y s d t = ((0, 0), 1) by
      rw [rSlide]
      split
      · rw [l11C_1 (.inl g2')]; rfl
      · rfl)
    clear g2 g2' HS IG IS
    go_enter Try.func25, Try.ntmps25
    go_upto_region 0 with fail
    go_cut [4, 5, 7, 8, 9] (fun s4 s5 s7 s8 s9 wx => s4 = .pointer (some ⟨w.heap.size, 0, none⟩) ∧ s5 = .pointer (some ⟨w.heap.size + 1, 0, none⟩) ∧ s7 = .pointer (some ⟨w.heap.size + 2, 0, none⟩) ∧ s8 = .pointer (some ⟨w.heap.size + 3, 0, none⟩) ∧ s9 = .int .i64 0 ∧ wx.cell? ⟨w.heap.size, 0, none⟩ = some (.int .i64 a) ∧ wx.cell? ⟨w.heap.size, 1, none⟩ = some (.slice As ns cs) ∧ wx.cell? ⟨w.heap.size, 2, none⟩ = some (.slice At nt ct) ∧ wx.cell? ⟨(w.heap.size + 1), 0, none⟩ = some (.int .i64 x) ∧ wx.cell? ⟨(w.heap.size + 1), 1, none⟩ = some (.int .i64 y) ∧ wx.cell? ⟨(w.heap.size + 2), 0, none⟩ = some (.int .i64 d) ∧ wx.cell? ⟨(w.heap.size + 2), 1, none⟩ = some (.int .i64 t) ∧ wx.cell? ⟨(w.heap.size + 3), 0, none⟩ = some (.int .i64 0) ∧ wx.cell? ⟨(w.heap.size + 3), 1, none⟩ = some (.int .i64 0) ∧ wx.frozen? ⟨(w.heap.size + 1), 0, none⟩ = false ∧ wx.frozen? ⟨(w.heap.size + 1), 1, none⟩ = false ∧ wx.frozen? ⟨(w.heap.size + 3), 0, none⟩ = false ∧ wx.frozen? ⟨(w.heap.size + 3), 1, none⟩ = false ∧ (w.heap.size + 3) < wx.heap.size ∧ Below w.heap.size w wx)
    case first =>
      go_wp2_with fail
      go_meet
      refine ⟨rfl, rfl, rfl, rfl, rfl, ?_, ?_, ?_, ?_, ?_, ?_, ?_, ?_, ?_, ?_, ?_, ?_, ?_, ?_, by repeat' (first | exact Below.refl _ _ | assumption | refine Below.alloc ?_ (by first | omega | (simp; done) | (simp; omega)) _ | refine Below.drew ?_ | refine Below.setCell ?_ (by first | omega | (simp; done) | (simp; omega)) _)⟩
      all_goals (first | omega | (simp [go_sem]; done) | (simp; omega))
    case rest =>
    obtain ⟨rfl, rfl, rfl, rfl, rfl, c0, c1, c2, c3, c4, c5, c6, c7, c8, c9, c10, c11, c12, hl, B0⟩ := hcut
    obtain ⟨w0, rfl⟩ : ∃ w0 : World, w0 = wc := ⟨_, rfl⟩
    have lt0 : w.heap.size < w0.heap.size := by omega
    have lt1 : w.heap.size + 1 < w0.heap.size := by omega
    have lt2 : w.heap.size + 2 < w0.heap.size := by omega
    have KP := Lib.hid (show ∀ W : World, Below w0.heap.size w0 W → W.cell? ⟨w.heap.size, 0, none⟩ = some (.int .i64 a) ∧ W.cell? ⟨w.heap.size, 1, none⟩ = some (.slice As ns cs) ∧ W.cell? ⟨w.heap.size, 2, none⟩ = some (.slice At nt ct) ∧ W.cell? ⟨(w.heap.size + 1), 0, none⟩ = some (.int .i64 x) ∧ W.cell? ⟨(w.heap.size + 1), 1, none⟩ = some (.int .i64 y) ∧ W.cell? ⟨(w.heap.size + 2), 0, none⟩ = some (.int .i64 d) ∧ W.cell? ⟨(w.heap.size + 2), 1, none⟩ = some (.int .i64 t) ∧ W.cell? ⟨(w.heap.size + 3), 0, none⟩ = some (.int .i64 0) ∧ W.cell? ⟨(w.heap.size + 3), 1, none⟩ = some (.int .i64 0) ∧ W.frozen? ⟨(w.heap.size + 1), 0, none⟩ = false ∧ W.frozen? ⟨(w.heap.size + 1), 1, none⟩ = false ∧ W.frozen? ⟨(w.heap.size + 3), 0, none⟩ = false ∧ W.frozen? ⟨(w.heap.size + 3), 1, none⟩ = false from fun W hW => ⟨(hW.cell (by first | omega | (simp; done) | (simp; omega))).trans c0, (hW.cell (by first | omega | (simp; done) | (simp; omega))).trans c1, (hW.cell (by first | omega | (simp; done) | (simp; omega))).trans c2, (hW.cell (by first | omega | (simp; done) | (simp; omega))).trans c3, (hW.cell (by first | omega | (simp; done) | (simp; omega))).trans c4, (hW.cell (by first | omega | (simp; done) | (simp; omega))).trans c5, (hW.cell (by first | omega | (simp; done) | (simp; omega))).trans c6, (hW.cell (by first | omega | (simp; done) | (simp; omega))).trans c7, (hW.cell (by first | omega | (simp; done) | (simp; omega))).trans c8, (hW.frozen (by first | omega | (simp; done) | (simp; omega))).trans c9, (hW.frozen (by first | omega | (simp; done) | (simp; omega))).trans c10, (hW.frozen (by first | omega | (simp; done) | (simp; omega))).trans c11, (hW.frozen (by first | omega | (simp; done) | (simp; omega))).trans c12⟩)
    go_wp2_with (first
      | (go_at_call 61; (with_reducible refine (IR _ ?_).mono ?_); (focus (repeat' (first | exact Below.refl _ _ | assumption | (refine B0.trans (Below.mono ?_ B0.size); assumption) | refine Below.alloc ?_ (by first | omega | (simp; done) | (simp; omega)) _ | refine Below.drew ?_ | refine Below.setCell ?_ (by first | omega | (simp; done) | (simp; omega)) _))); rintro e w1 ⟨rfl, hb1⟩; have hB1 : Below w0.heap.size w0 w1 := Below.trans (by repeat' (first | exact Below.refl _ _ | assumption | refine Below.alloc ?_ (by first | omega | (simp; done) | (simp; omega)) _ | refine Below.drew ?_ | refine Below.setCell ?_ (by first | omega | (simp; done) | (simp; omega)) _)) (hb1.mono (by first | omega | (simp; done) | (simp; omega))); have hz1 := hB1.size; obtain ⟨q1_0, q1_1, q1_2, q1_3, q1_4, q1_5, q1_6, q1_7, q1_8, q1_9, q1_10, q1_11, q1_12⟩ := KP.out w1 hB1; clear hb1))
    (refine bodyPost_ret (v := .tuple #[.agg #[.int .i64 0, .int .i64 0], .int .i64 1]) ?_ rfl ?_; (focus (simp [results, Try.results25, go_sem, *])); exact ⟨endSet_of HV.out, by repeat' (first | exact Below.refl _ _ | assumption | (refine B0.trans (Below.mono ?_ B0.size); assumption) | refine Below.alloc ?_ (by first | omega | (simp; done) | (simp; omega)) _ | refine Below.drew ?_ | refine Below.setCell ?_ (by first | omega | (simp; done) | (simp; omega)) _)⟩)
set_option maxRecDepth 100000 in
set_option maxHeartbeats 4000000 in
theorem sSetSlide_any (a : Int) (As : Option Addr) (ns cs : Nat) (ls : List Int) (At : Option Addr) (nt ct : Nat) (lt : List Int) (x y : Int) (s d t : Int) (w : World) (hls : ls.length = ns) (hcs : ns ≤ cs) (hns : ns ≤ 1048576) (hrs : Sees w w.heap.size As (ls.map (Value.int .i64))) (hlt : lt.length = nt) (hct : nt ≤ ct) (hnt : nt ≤ 1048576) (hrt : Sees w w.heap.size At (lt.map (Value.int .i64))) :
    Calls Try.prog 22 #[.agg #[.int .i64 a, .slice As ns cs, .slice At nt ct], .agg #[.int .i64 x, .int .i64 y], .int .i64 s, .agg #[.int .i64 d, .int .i64 t]] w fun e w' => e = .returned (endSet (rSlide a ls lt x y s d t)) ∧ Below w.heap.size w w' := by
  have IR := fun W (hB : Below w.heap.size w W) => sIsRule_any a As ns cs ls At nt ct lt W hls hcs hns ((hrs.over hB).wider hB.size) hlt hct hnt ((hrt.over hB).wider hB.size)
  have IS := fun W => oneAlloc (sIsSetting_any x y W)
  have IG := fun W => oneAlloc (sIsFigure_any d t W)
  have CC := fun W (hB : Below w.heap.size w W) => l11Code_any a As ns cs ls At nt ct lt x y true s W hls hcs hns ((hrs.over hB).wider hB.size) hlt hct hnt ((hrt.over hB).wider hB.size)
  clear hls hlt hrs hrt IR IS
  have HV1 := Lib.hid (show rSlide a ls lt x y s d t = if figB d t = true then (if l11C a ls lt x y true s = 0 then rValid (y - ptOf s d t) y else ((0, 0), l11C a ls lt x y true s)) else ((0, 0), 1) from rfl)
  have SB := fun h => l11C_zero (a := a) (ls := ls) (lt := lt) (x := x) (y := y) (slide := true) (s := s) h
  generalize l11C a ls lt x y true s = cc at *
  by_cases g1 : figB d t = true
  · rw [g1] at IG
    by_cases g2 : cc = 0
    · subst g2
      have g3 := SB rfl
      have HV0 := Lib.hid (HV1.out.trans ((if_pos g1).trans (if_pos rfl)))
      have HV := HV0
      clear SB HV1
      obtain ⟨hd, t1, t2⟩ := figB_iff.1 g1
      have PT := fun W => l11Point_any s d t W hd (by omega) (by omega)
      obtain ⟨p1, p2⟩ := ptOf_bd (s := s) (t := t) hd
      obtain ⟨⟨x1, x2⟩, y1, y2⟩ := setB_iff.1 g3
      have VV := fun u v W => sValid_any u v W
      clear hd t1 t2 HV0 g1 g3
      generalize ptOf s d t = p at *
      obtain ⟨⟨⟨k1, k2⟩, z⟩, HP⟩ : ∃ q, Hid (rValid (y - p) y = q) := ⟨_, Lib.hid rfl⟩
      have V2 := fun W => VV (y - p) y W
      rw [HP.out] at V2
      unfold endSet at V2
      clear VV
      have ew : IntKind.i64.wrap (y - p) = y - p := IntWalk.i64_in _ (by omega)
      go_enter Try.func22, Try.ntmps22
      go_upto_region 0 with fail
      go_cut [4, 5, 7, 8, 9] (fun s4 s5 s7 s8 s9 wx => s4 = .pointer (some ⟨w.heap.size, 0, none⟩) ∧ s5 = .pointer (some ⟨w.heap.size + 1, 0, none⟩) ∧ s7 = .pointer (some ⟨w.heap.size + 2, 0, none⟩) ∧ s8 = .pointer (some ⟨w.heap.size + 3, 0, none⟩) ∧ s9 = .int .i64 0 ∧ wx.cell? ⟨w.heap.size, 0, none⟩ = some (.int .i64 a) ∧ wx.cell? ⟨w.heap.size, 1, none⟩ = some (.slice As ns cs) ∧ wx.cell? ⟨w.heap.size, 2, none⟩ = some (.slice At nt ct) ∧ wx.cell? ⟨(w.heap.size + 1), 0, none⟩ = some (.int .i64 x) ∧ wx.cell? ⟨(w.heap.size + 1), 1, none⟩ = some (.int .i64 y) ∧ wx.cell? ⟨(w.heap.size + 2), 0, none⟩ = some (.int .i64 d) ∧ wx.cell? ⟨(w.heap.size + 2), 1, none⟩ = some (.int .i64 t) ∧ wx.cell? ⟨(w.heap.size + 3), 0, none⟩ = some (.int .i64 0) ∧ wx.cell? ⟨(w.heap.size + 3), 1, none⟩ = some (.int .i64 0) ∧ wx.frozen? ⟨(w.heap.size + 1), 0, none⟩ = false ∧ wx.frozen? ⟨(w.heap.size + 1), 1, none⟩ = false ∧ wx.frozen? ⟨(w.heap.size + 3), 0, none⟩ = false ∧ wx.frozen? ⟨(w.heap.size + 3), 1, none⟩ = false ∧ (w.heap.size + 3) < wx.heap.size ∧ Below w.heap.size w wx)
      case first =>
        go_wp2_with fail
        go_meet
        refine ⟨rfl, rfl, rfl, rfl, rfl, ?_, ?_, ?_, ?_, ?_, ?_, ?_, ?_, ?_, ?_, ?_, ?_, ?_, ?_, by repeat' (first | exact Below.refl _ _ | assumption | refine Below.alloc ?_ (by first | omega | (simp; done) | (simp; omega)) _ | refine Below.drew ?_ | refine Below.setCell ?_ (by first | omega | (simp; done) | (simp; omega)) _)⟩
        all_goals (first | omega | (simp [go_sem]; done) | (simp; omega))
      case rest =>
      obtain ⟨rfl, rfl, rfl, rfl, rfl, c0, c1, c2, c3, c4, c5, c6, c7, c8, c9, c10, c11, c12, hl, B0⟩ := hcut
      obtain ⟨w0, rfl⟩ : ∃ w0 : World, w0 = wc := ⟨_, rfl⟩
      have lt0 : w.heap.size < w0.heap.size := by omega
      have lt1 : w.heap.size + 1 < w0.heap.size := by omega
      have lt2 : w.heap.size + 2 < w0.heap.size := by omega
      have KP := Lib.hid (show ∀ W : World, Below w0.heap.size w0 W → W.cell? ⟨w.heap.size, 0, none⟩ = some (.int .i64 a) ∧ W.cell? ⟨w.heap.size, 1, none⟩ = some (.slice As ns cs) ∧ W.cell? ⟨w.heap.size, 2, none⟩ = some (.slice At nt ct) ∧ W.cell? ⟨(w.heap.size + 1), 0, none⟩ = some (.int .i64 x) ∧ W.cell? ⟨(w.heap.size + 1), 1, none⟩ = some (.int .i64 y) ∧ W.cell? ⟨(w.heap.size + 2), 0, none⟩ = some (.int .i64 d) ∧ W.cell? ⟨(w.heap.size + 2), 1, none⟩ = some (.int .i64 t) ∧ W.cell? ⟨(w.heap.size + 3), 0, none⟩ = some (.int .i64 0) ∧ W.cell? ⟨(w.heap.size + 3), 1, none⟩ = some (.int .i64 0) ∧ W.frozen? ⟨(w.heap.size + 1), 0, none⟩ = false ∧ W.frozen? ⟨(w.heap.size + 1), 1, none⟩ = false ∧ W.frozen? ⟨(w.heap.size + 3), 0, none⟩ = false ∧ W.frozen? ⟨(w.heap.size + 3), 1, none⟩ = false from fun W hW => ⟨(hW.cell (by first | omega | (simp; done) | (simp; omega))).trans c0, (hW.cell (by first | omega | (simp; done) | (simp; omega))).trans c1, (hW.cell (by first | omega | (simp; done) | (simp; omega))).trans c2, (hW.cell (by first | omega | (simp; done) | (simp; omega))).trans c3, (hW.cell (by first | omega | (simp; done) | (simp; omega))).trans c4, (hW.cell (by first | omega | (simp; done) | (simp; omega))).trans c5, (hW.cell (by first | omega | (simp; done) | (simp; omega))).trans c6, (hW.cell (by first | omega | (simp; done) | (simp; omega))).trans c7, (hW.cell (by first | omega | (simp; done) | (simp; omega))).trans c8, (hW.frozen (by first | omega | (simp; done) | (simp; omega))).trans c9, (hW.frozen (by first | omega | (simp; done) | (simp; omega))).trans c10, (hW.frozen (by first | omega | (simp; done) | (simp; omega))).trans c11, (hW.frozen (by first | omega | (simp; done) | (simp; omega))).trans c12⟩)
      go_wp2_with (first
        | (go_at_call 57; (with_reducible refine (CC _ ?_).mono ?_); (focus (repeat' (first | exact Below.refl _ _ | assumption | (refine B0.trans (Below.mono ?_ B0.size); assumption) | refine Below.alloc ?_ (by first | omega | (simp; done) | (simp; omega)) _ | refine Below.drew ?_ | refine Below.setCell ?_ (by first | omega | (simp; done) | (simp; omega)) _))); rintro e w1 ⟨rfl, hb1⟩; have hB1 : Below w0.heap.size w0 w1 := Below.trans (by repeat' (first | exact Below.refl _ _ | assumption | refine Below.alloc ?_ (by first | omega | (simp; done) | (simp; omega)) _ | refine Below.drew ?_ | refine Below.setCell ?_ (by first | omega | (simp; done) | (simp; omega)) _)) (hb1.mono (by first | omega | (simp; done) | (simp; omega))); have hz1 := hB1.size; obtain ⟨q1_0, q1_1, q1_2, q1_3, q1_4, q1_5, q1_6, q1_7, q1_8, q1_9, q1_10, q1_11, q1_12⟩ := KP.out w1 hB1; clear hb1)
        | (go_at_call 35; (with_reducible refine (IG _).mono ?_); rintro e w3 ⟨rfl, hb3⟩; have hB3 : Below w0.heap.size w0 w3 := Below.trans (by repeat' (first | exact Below.refl _ _ | assumption | refine Below.alloc ?_ (by first | omega | (simp; done) | (simp; omega)) _ | refine Below.drew ?_ | refine Below.setCell ?_ (by first | omega | (simp; done) | (simp; omega)) _)) (hb3.mono (by first | omega | (simp; done) | (simp; omega))); have hz3 := hB3.size; obtain ⟨q3_0, q3_1, q3_2, q3_3, q3_4, q3_5, q3_6, q3_7, q3_8, q3_9, q3_10, q3_11, q3_12⟩ := KP.out w3 hB3; clear hb3))
      go_region_held3 (fun w' => w'.cell? ⟨(w.heap.size + 1), 0, none⟩ = some (.int .i64 x) ∧ w'.cell? ⟨(w.heap.size + 1), 1, none⟩ = some (.int .i64 y) ∧ w'.cell? ⟨(w.heap.size + 2), 0, none⟩ = some (.int .i64 d) ∧ w'.cell? ⟨(w.heap.size + 2), 1, none⟩ = some (.int .i64 t)) (first | (go_keep; done) | (refine ⟨?_, ?_, ?_, ?_⟩ <;> (simp [go_sem, *]; done))) (first
        | (go_at_call 59; (with_reducible refine (PT _).mono ?_); rintro e w5 ⟨rfl, hb5⟩; have hB5 : Below w0.heap.size w0 w5 := Below.trans (by repeat' (first | exact Below.refl _ _ | assumption | refine Below.alloc ?_ (by first | omega | (simp; done) | (simp; omega)) _ | refine Below.drew ?_ | refine Below.setCell ?_ (by first | omega | (simp; done) | (simp; omega)) _)) (hb5.mono (by first | omega | (simp; done) | (simp; omega))); have hz5 := hB5.size; obtain ⟨q5_0, q5_1, q5_2, q5_3, q5_4, q5_5, q5_6, q5_7, q5_8, q5_9, q5_10, q5_11, q5_12⟩ := KP.out w5 hB5; clear hb5)
        | (go_at_call 58; (with_reducible refine (V2 _).mono ?_); rintro e w6 ⟨rfl, hb6⟩; have hB6 : Below w0.heap.size w0 w6 := Below.trans (by repeat' (first | exact Below.refl _ _ | assumption | refine Below.alloc ?_ (by first | omega | (simp; done) | (simp; omega)) _ | refine Below.drew ?_ | refine Below.setCell ?_ (by first | omega | (simp; done) | (simp; omega)) _)) (hb6.mono (by first | omega | (simp; done) | (simp; omega))); have hz6 := hB6.size; obtain ⟨q6_0, q6_1, q6_2, q6_3, q6_4, q6_5, q6_6, q6_7, q6_8, q6_9, q6_10, q6_11, q6_12⟩ := KP.out w6 hB6; clear hb6))
      all_goals go_wp2_with fail
      all_goals (refine bodyPost_ret (v := .tuple #[.agg #[.int .i64 k1, .int .i64 k2], .int .i64 z]) ?_ rfl ?_; (focus (simp [results, Try.results22, go_sem, *])); exact ⟨endSet_of (HV.out.trans HP.out), by repeat' (first | exact Below.refl _ _ | assumption | (refine B0.trans (Below.mono ?_ B0.size); assumption) | refine Below.alloc ?_ (by first | omega | (simp; done) | (simp; omega)) _ | refine Below.drew ?_ | refine Below.setCell ?_ (by first | omega | (simp; done) | (simp; omega)) _)⟩)
    · have HV := Lib.hid (HV1.out.trans ((if_pos g1).trans (if_neg g2)))
      have hcc : (cc != 0) = true := by simpa using g2
      clear SB HV1 g1 g2
      go_enter Try.func22, Try.ntmps22
      go_upto_region 0 with fail
      go_cut [4, 5, 7, 8, 9] (fun s4 s5 s7 s8 s9 wx => s4 = .pointer (some ⟨w.heap.size, 0, none⟩) ∧ s5 = .pointer (some ⟨w.heap.size + 1, 0, none⟩) ∧ s7 = .pointer (some ⟨w.heap.size + 2, 0, none⟩) ∧ s8 = .pointer (some ⟨w.heap.size + 3, 0, none⟩) ∧ s9 = .int .i64 0 ∧ wx.cell? ⟨w.heap.size, 0, none⟩ = some (.int .i64 a) ∧ wx.cell? ⟨w.heap.size, 1, none⟩ = some (.slice As ns cs) ∧ wx.cell? ⟨w.heap.size, 2, none⟩ = some (.slice At nt ct) ∧ wx.cell? ⟨(w.heap.size + 1), 0, none⟩ = some (.int .i64 x) ∧ wx.cell? ⟨(w.heap.size + 1), 1, none⟩ = some (.int .i64 y) ∧ wx.cell? ⟨(w.heap.size + 2), 0, none⟩ = some (.int .i64 d) ∧ wx.cell? ⟨(w.heap.size + 2), 1, none⟩ = some (.int .i64 t) ∧ wx.cell? ⟨(w.heap.size + 3), 0, none⟩ = some (.int .i64 0) ∧ wx.cell? ⟨(w.heap.size + 3), 1, none⟩ = some (.int .i64 0) ∧ wx.frozen? ⟨(w.heap.size + 1), 0, none⟩ = false ∧ wx.frozen? ⟨(w.heap.size + 1), 1, none⟩ = false ∧ wx.frozen? ⟨(w.heap.size + 3), 0, none⟩ = false ∧ wx.frozen? ⟨(w.heap.size + 3), 1, none⟩ = false ∧ (w.heap.size + 3) < wx.heap.size ∧ Below w.heap.size w wx)
      case first =>
        go_wp2_with fail
        go_meet
        refine ⟨rfl, rfl, rfl, rfl, rfl, ?_, ?_, ?_, ?_, ?_, ?_, ?_, ?_, ?_, ?_, ?_, ?_, ?_, ?_, by repeat' (first | exact Below.refl _ _ | assumption | refine Below.alloc ?_ (by first | omega | (simp; done) | (simp; omega)) _ | refine Below.drew ?_ | refine Below.setCell ?_ (by first | omega | (simp; done) | (simp; omega)) _)⟩
        all_goals (first | omega | (simp [go_sem]; done) | (simp; omega))
      case rest =>
      obtain ⟨rfl, rfl, rfl, rfl, rfl, c0, c1, c2, c3, c4, c5, c6, c7, c8, c9, c10, c11, c12, hl, B0⟩ := hcut
      obtain ⟨w0, rfl⟩ : ∃ w0 : World, w0 = wc := ⟨_, rfl⟩
      have lt0 : w.heap.size < w0.heap.size := by omega
      have lt1 : w.heap.size + 1 < w0.heap.size := by omega
      have lt2 : w.heap.size + 2 < w0.heap.size := by omega
      have KP := Lib.hid (show ∀ W : World, Below w0.heap.size w0 W → W.cell? ⟨w.heap.size, 0, none⟩ = some (.int .i64 a) ∧ W.cell? ⟨w.heap.size, 1, none⟩ = some (.slice As ns cs) ∧ W.cell? ⟨w.heap.size, 2, none⟩ = some (.slice At nt ct) ∧ W.cell? ⟨(w.heap.size + 1), 0, none⟩ = some (.int .i64 x) ∧ W.cell? ⟨(w.heap.size + 1), 1, none⟩ = some (.int .i64 y) ∧ W.cell? ⟨(w.heap.size + 2), 0, none⟩ = some (.int .i64 d) ∧ W.cell? ⟨(w.heap.size + 2), 1, none⟩ = some (.int .i64 t) ∧ W.cell? ⟨(w.heap.size + 3), 0, none⟩ = some (.int .i64 0) ∧ W.cell? ⟨(w.heap.size + 3), 1, none⟩ = some (.int .i64 0) ∧ W.frozen? ⟨(w.heap.size + 1), 0, none⟩ = false ∧ W.frozen? ⟨(w.heap.size + 1), 1, none⟩ = false ∧ W.frozen? ⟨(w.heap.size + 3), 0, none⟩ = false ∧ W.frozen? ⟨(w.heap.size + 3), 1, none⟩ = false from fun W hW => ⟨(hW.cell (by first | omega | (simp; done) | (simp; omega))).trans c0, (hW.cell (by first | omega | (simp; done) | (simp; omega))).trans c1, (hW.cell (by first | omega | (simp; done) | (simp; omega))).trans c2, (hW.cell (by first | omega | (simp; done) | (simp; omega))).trans c3, (hW.cell (by first | omega | (simp; done) | (simp; omega))).trans c4, (hW.cell (by first | omega | (simp; done) | (simp; omega))).trans c5, (hW.cell (by first | omega | (simp; done) | (simp; omega))).trans c6, (hW.cell (by first | omega | (simp; done) | (simp; omega))).trans c7, (hW.cell (by first | omega | (simp; done) | (simp; omega))).trans c8, (hW.frozen (by first | omega | (simp; done) | (simp; omega))).trans c9, (hW.frozen (by first | omega | (simp; done) | (simp; omega))).trans c10, (hW.frozen (by first | omega | (simp; done) | (simp; omega))).trans c11, (hW.frozen (by first | omega | (simp; done) | (simp; omega))).trans c12⟩)
      go_wp2_with (first
        | (go_at_call 57; (with_reducible refine (CC _ ?_).mono ?_); (focus (repeat' (first | exact Below.refl _ _ | assumption | (refine B0.trans (Below.mono ?_ B0.size); assumption) | refine Below.alloc ?_ (by first | omega | (simp; done) | (simp; omega)) _ | refine Below.drew ?_ | refine Below.setCell ?_ (by first | omega | (simp; done) | (simp; omega)) _))); rintro e w1 ⟨rfl, hb1⟩; have hB1 : Below w0.heap.size w0 w1 := Below.trans (by repeat' (first | exact Below.refl _ _ | assumption | refine Below.alloc ?_ (by first | omega | (simp; done) | (simp; omega)) _ | refine Below.drew ?_ | refine Below.setCell ?_ (by first | omega | (simp; done) | (simp; omega)) _)) (hb1.mono (by first | omega | (simp; done) | (simp; omega))); have hz1 := hB1.size; obtain ⟨q1_0, q1_1, q1_2, q1_3, q1_4, q1_5, q1_6, q1_7, q1_8, q1_9, q1_10, q1_11, q1_12⟩ := KP.out w1 hB1; clear hb1)
        | (go_at_call 35; (with_reducible refine (IG _).mono ?_); rintro e w3 ⟨rfl, hb3⟩; have hB3 : Below w0.heap.size w0 w3 := Below.trans (by repeat' (first | exact Below.refl _ _ | assumption | refine Below.alloc ?_ (by first | omega | (simp; done) | (simp; omega)) _ | refine Below.drew ?_ | refine Below.setCell ?_ (by first | omega | (simp; done) | (simp; omega)) _)) (hb3.mono (by first | omega | (simp; done) | (simp; omega))); have hz3 := hB3.size; obtain ⟨q3_0, q3_1, q3_2, q3_3, q3_4, q3_5, q3_6, q3_7, q3_8, q3_9, q3_10, q3_11, q3_12⟩ := KP.out w3 hB3; clear hb3))
      (refine bodyPost_ret (v := .tuple #[.agg #[.int .i64 0, .int .i64 0], .int .i64 cc]) ?_ rfl ?_; (focus (simp [results, Try.results22, go_sem, *])); exact ⟨endSet_of HV.out, by repeat' (first | exact Below.refl _ _ | assumption | (refine B0.trans (Below.mono ?_ B0.size); assumption) | refine Below.alloc ?_ (by first | omega | (simp; done) | (simp; omega)) _ | refine Below.drew ?_ | refine Below.setCell ?_ (by first | omega | (simp; done) | (simp; omega)) _)⟩)
  · have g1' : figB d t = false := by simpa using g1
    rw [g1'] at IG
    have HV := Lib.hid (HV1.out.trans (if_neg g1))
    clear SB HV1 g1 g1'
    go_enter Try.func22, Try.ntmps22
    go_upto_region 0 with fail
    go_cut [4, 5, 7, 8, 9] (fun s4 s5 s7 s8 s9 wx => s4 = .pointer (some ⟨w.heap.size, 0, none⟩) ∧ s5 = .pointer (some ⟨w.heap.size + 1, 0, none⟩) ∧ s7 = .pointer (some ⟨w.heap.size + 2, 0, none⟩) ∧ s8 = .pointer (some ⟨w.heap.size + 3, 0, none⟩) ∧ s9 = .int .i64 0 ∧ wx.cell? ⟨w.heap.size, 0, none⟩ = some (.int .i64 a) ∧ wx.cell? ⟨w.heap.size, 1, none⟩ = some (.slice As ns cs) ∧ wx.cell? ⟨w.heap.size, 2, none⟩ = some (.slice At nt ct) ∧ wx.cell? ⟨(w.heap.size + 1), 0, none⟩ = some (.int .i64 x) ∧ wx.cell? ⟨(w.heap.size + 1), 1, none⟩ = some (.int .i64 y) ∧ wx.cell? ⟨(w.heap.size + 2), 0, none⟩ = some (.int .i64 d) ∧ wx.cell? ⟨(w.heap.size + 2), 1, none⟩ = some (.int .i64 t) ∧ wx.cell? ⟨(w.heap.size + 3), 0, none⟩ = some (.int .i64 0) ∧ wx.cell? ⟨(w.heap.size + 3), 1, none⟩ = some (.int .i64 0) ∧ wx.frozen? ⟨(w.heap.size + 1), 0, none⟩ = false ∧ wx.frozen? ⟨(w.heap.size + 1), 1, none⟩ = false ∧ wx.frozen? ⟨(w.heap.size + 3), 0, none⟩ = false ∧ wx.frozen? ⟨(w.heap.size + 3), 1, none⟩ = false ∧ (w.heap.size + 3) < wx.heap.size ∧ Below w.heap.size w wx)
    case first =>
      go_wp2_with fail
      go_meet
      refine ⟨rfl, rfl, rfl, rfl, rfl, ?_, ?_, ?_, ?_, ?_, ?_, ?_, ?_, ?_, ?_, ?_, ?_, ?_, ?_, by repeat' (first | exact Below.refl _ _ | assumption | refine Below.alloc ?_ (by first | omega | (simp; done) | (simp; omega)) _ | refine Below.drew ?_ | refine Below.setCell ?_ (by first | omega | (simp; done) | (simp; omega)) _)⟩
      all_goals (first | omega | (simp [go_sem]; done) | (simp; omega))
    case rest =>
    obtain ⟨rfl, rfl, rfl, rfl, rfl, c0, c1, c2, c3, c4, c5, c6, c7, c8, c9, c10, c11, c12, hl, B0⟩ := hcut
    obtain ⟨w0, rfl⟩ : ∃ w0 : World, w0 = wc := ⟨_, rfl⟩
    have lt0 : w.heap.size < w0.heap.size := by omega
    have lt1 : w.heap.size + 1 < w0.heap.size := by omega
    have lt2 : w.heap.size + 2 < w0.heap.size := by omega
    have KP := Lib.hid (show ∀ W : World, Below w0.heap.size w0 W → W.cell? ⟨w.heap.size, 0, none⟩ = some (.int .i64 a) ∧ W.cell? ⟨w.heap.size, 1, none⟩ = some (.slice As ns cs) ∧ W.cell? ⟨w.heap.size, 2, none⟩ = some (.slice At nt ct) ∧ W.cell? ⟨(w.heap.size + 1), 0, none⟩ = some (.int .i64 x) ∧ W.cell? ⟨(w.heap.size + 1), 1, none⟩ = some (.int .i64 y) ∧ W.cell? ⟨(w.heap.size + 2), 0, none⟩ = some (.int .i64 d) ∧ W.cell? ⟨(w.heap.size + 2), 1, none⟩ = some (.int .i64 t) ∧ W.cell? ⟨(w.heap.size + 3), 0, none⟩ = some (.int .i64 0) ∧ W.cell? ⟨(w.heap.size + 3), 1, none⟩ = some (.int .i64 0) ∧ W.frozen? ⟨(w.heap.size + 1), 0, none⟩ = false ∧ W.frozen? ⟨(w.heap.size + 1), 1, none⟩ = false ∧ W.frozen? ⟨(w.heap.size + 3), 0, none⟩ = false ∧ W.frozen? ⟨(w.heap.size + 3), 1, none⟩ = false from fun W hW => ⟨(hW.cell (by first | omega | (simp; done) | (simp; omega))).trans c0, (hW.cell (by first | omega | (simp; done) | (simp; omega))).trans c1, (hW.cell (by first | omega | (simp; done) | (simp; omega))).trans c2, (hW.cell (by first | omega | (simp; done) | (simp; omega))).trans c3, (hW.cell (by first | omega | (simp; done) | (simp; omega))).trans c4, (hW.cell (by first | omega | (simp; done) | (simp; omega))).trans c5, (hW.cell (by first | omega | (simp; done) | (simp; omega))).trans c6, (hW.cell (by first | omega | (simp; done) | (simp; omega))).trans c7, (hW.cell (by first | omega | (simp; done) | (simp; omega))).trans c8, (hW.frozen (by first | omega | (simp; done) | (simp; omega))).trans c9, (hW.frozen (by first | omega | (simp; done) | (simp; omega))).trans c10, (hW.frozen (by first | omega | (simp; done) | (simp; omega))).trans c11, (hW.frozen (by first | omega | (simp; done) | (simp; omega))).trans c12⟩)
    go_wp2_with (first
      | (go_at_call 57; (with_reducible refine (CC _ ?_).mono ?_); (focus (repeat' (first | exact Below.refl _ _ | assumption | (refine B0.trans (Below.mono ?_ B0.size); assumption) | refine Below.alloc ?_ (by first | omega | (simp; done) | (simp; omega)) _ | refine Below.drew ?_ | refine Below.setCell ?_ (by first | omega | (simp; done) | (simp; omega)) _))); rintro e w1 ⟨rfl, hb1⟩; have hB1 : Below w0.heap.size w0 w1 := Below.trans (by repeat' (first | exact Below.refl _ _ | assumption | refine Below.alloc ?_ (by first | omega | (simp; done) | (simp; omega)) _ | refine Below.drew ?_ | refine Below.setCell ?_ (by first | omega | (simp; done) | (simp; omega)) _)) (hb1.mono (by first | omega | (simp; done) | (simp; omega))); have hz1 := hB1.size; obtain ⟨q1_0, q1_1, q1_2, q1_3, q1_4, q1_5, q1_6, q1_7, q1_8, q1_9, q1_10, q1_11, q1_12⟩ := KP.out w1 hB1; clear hb1)
      | (go_at_call 35; (with_reducible refine (IG _).mono ?_); rintro e w3 ⟨rfl, hb3⟩; have hB3 : Below w0.heap.size w0 w3 := Below.trans (by repeat' (first | exact Below.refl _ _ | assumption | refine Below.alloc ?_ (by first | omega | (simp; done) | (simp; omega)) _ | refine Below.drew ?_ | refine Below.setCell ?_ (by first | omega | (simp; done) | (simp; omega)) _)) (hb3.mono (by first | omega | (simp; done) | (simp; omega))); have hz3 := hB3.size; obtain ⟨q3_0, q3_1, q3_2, q3_3, q3_4, q3_5, q3_6, q3_7, q3_8, q3_9, q3_10, q3_11, q3_12⟩ := KP.out w3 hB3; clear hb3))
    (refine bodyPost_ret (v := .tuple #[.agg #[.int .i64 0, .int .i64 0], .int .i64 1]) ?_ rfl ?_; (focus (simp [results, Try.results22, go_sem, *])); exact ⟨endSet_of HV.out, by repeat' (first | exact Below.refl _ _ | assumption | (refine B0.trans (Below.mono ?_ B0.size); assumption) | refine Below.alloc ?_ (by first | omega | (simp; done) | (simp; omega)) _ | refine Below.drew ?_ | refine Below.setCell ?_ (by first | omega | (simp; done) | (simp; omega)) _)⟩)
set_option maxRecDepth 100000 in
set_option maxHeartbeats 4000000 in
theorem iSetCursor_any (a : Int) (As : Option Addr) (ns cs : Nat) (ls : List Int) (At : Option Addr) (nt ct : Nat) (lt : List Int) (x y : Int) (slide : Bool) (s d t : Int) (w : World) (hls : ls.length = ns) (hcs : ns ≤ cs) (hns : ns ≤ 1048576) (hrs : Sees w w.heap.size As (ls.map (Value.int .i64))) (hlt : lt.length = nt) (hct : nt ≤ ct) (hnt : nt ≤ 1048576) (hrt : Sees w w.heap.size At (lt.map (Value.int .i64))) :
    Calls Try.prog 29 #[.agg #[.int .i64 a, .slice As ns cs, .slice At nt ct], .agg #[.int .i64 x, .int .i64 y], .bool slide, .int .i64 s, .agg #[.int .i64 d, .int .i64 t]] w fun e w' => e = .returned (endSet (rCursor a ls lt x y slide s d t)) ∧ Below w.heap.size w w' := by
  have IR := fun W (hB : Below w.heap.size w W) => iIsRule_any a As ns cs ls At nt ct lt W hls hcs hns ((hrs.over hB).wider hB.size) hlt hct hnt ((hrt.over hB).wider hB.size)
  have IS := fun W => oneAlloc (iIsSetting_any x y W)
  have IG := fun W => oneAlloc (iIsFigure_any d t W)
  have HS := fun W (hB : Below w.heap.size w W) => oneAlloc (hasScale_any a As ns cs ls At nt ct lt slide s W hls hcs hns ((hrs.over hB).wider hB.size) hlt hct hnt ((hrt.over hB).wider hB.size))
  clear hls hlt hrs hrt
  by_cases g2 : ruleB a ls lt = true
  · rw [g2] at IR
    by_cases g3 : setB x y = true
    · rw [g3] at IS
      by_cases g1 : figB d t = true
      · rw [g1] at IG
        by_cases g4 : s ∈ onScales slide ls lt
        · rw [show decide (s ∈ onScales slide ls lt) = true from decide_eq_true g4] at HS
          have HV0 := Lib.hid (show rCursor a ls lt x y slide s d t = rValid x (if slide = true then ptOf s d t + x else ptOf s d t) by rw [rCursor, if_pos g1, if_pos (l11C_0 g2 g3 g4)])
          have HV := HV0
          clear g2 g4
          obtain ⟨hd, t1, t2⟩ := figB_iff.1 g1
          have PT := fun W => pointOf_any s d t W hd (by omega) (by omega)
          obtain ⟨p1, p2⟩ := ptOf_bd (s := s) (t := t) hd
          obtain ⟨⟨x1, x2⟩, y1, y2⟩ := setB_iff.1 g3
          have VV := fun u v W => iValid_any u v W
          clear hd t1 t2 HV0 g1 g3
          generalize ptOf s d t = p at *
          have hq : -100000000 ≤ (if slide = true then p + x else p) ∧ (if slide = true then p + x else p) ≤ 100000000 := by cases slide <;> simp <;> omega
          have SC := fun W => iSetCur_any x y slide p W x1 x2 p1 p2
          skip
          generalize (if slide = true then p + x else p) = q at *
          obtain ⟨⟨⟨k1, k2⟩, z⟩, HP⟩ : ∃ q', Hid (rValid x q = q') := ⟨_, Lib.hid rfl⟩
          have V2 := fun W => VV x q W
          rw [HP.out] at V2
          unfold endSet at V2
          clear VV
          go_enter Try.func29, Try.ntmps29
          go_upto_region 0 with fail
          go_cut [5, 6, 9, 10, 11] (fun s5 s6 s9 s10 s11 wx => s5 = .pointer (some ⟨w.heap.size, 0, none⟩) ∧ s6 = .pointer (some ⟨w.heap.size + 1, 0, none⟩) ∧ s9 = .pointer (some ⟨w.heap.size + 2, 0, none⟩) ∧ s10 = .pointer (some ⟨w.heap.size + 3, 0, none⟩) ∧ s11 = .int .i64 0 ∧ wx.cell? ⟨w.heap.size, 0, none⟩ = some (.int .i64 a) ∧ wx.cell? ⟨w.heap.size, 1, none⟩ = some (.slice As ns cs) ∧ wx.cell? ⟨w.heap.size, 2, none⟩ = some (.slice At nt ct) ∧ wx.cell? ⟨(w.heap.size + 1), 0, none⟩ = some (.int .i64 x) ∧ wx.cell? ⟨(w.heap.size + 1), 1, none⟩ = some (.int .i64 y) ∧ wx.cell? ⟨(w.heap.size + 2), 0, none⟩ = some (.int .i64 d) ∧ wx.cell? ⟨(w.heap.size + 2), 1, none⟩ = some (.int .i64 t) ∧ wx.cell? ⟨(w.heap.size + 3), 0, none⟩ = some (.int .i64 0) ∧ wx.cell? ⟨(w.heap.size + 3), 1, none⟩ = some (.int .i64 0) ∧ wx.frozen? ⟨(w.heap.size + 1), 0, none⟩ = false ∧ wx.frozen? ⟨(w.heap.size + 1), 1, none⟩ = false ∧ wx.frozen? ⟨(w.heap.size + 3), 0, none⟩ = false ∧ wx.frozen? ⟨(w.heap.size + 3), 1, none⟩ = false ∧ (w.heap.size + 3) < wx.heap.size ∧ Below w.heap.size w wx)
          case first =>
            go_wp2_with fail
            go_meet
            refine ⟨rfl, rfl, rfl, rfl, rfl, ?_, ?_, ?_, ?_, ?_, ?_, ?_, ?_, ?_, ?_, ?_, ?_, ?_, ?_, by repeat' (first | exact Below.refl _ _ | assumption | refine Below.alloc ?_ (by first | omega | (simp; done) | (simp; omega)) _ | refine Below.drew ?_ | refine Below.setCell ?_ (by first | omega | (simp; done) | (simp; omega)) _)⟩
            all_goals (first | omega | (simp [go_sem]; done) | (simp; omega))
          case rest =>
          obtain ⟨rfl, rfl, rfl, rfl, rfl, c0, c1, c2, c3, c4, c5, c6, c7, c8, c9, c10, c11, c12, hl, B0⟩ := hcut
          obtain ⟨w0, rfl⟩ : ∃ w0 : World, w0 = wc := ⟨_, rfl⟩
          have lt0 : w.heap.size < w0.heap.size := by omega
          have lt1 : w.heap.size + 1 < w0.heap.size := by omega
          have lt2 : w.heap.size + 2 < w0.heap.size := by omega
          have KP := Lib.hid (show ∀ W : World, Below w0.heap.size w0 W → W.cell? ⟨w.heap.size, 0, none⟩ = some (.int .i64 a) ∧ W.cell? ⟨w.heap.size, 1, none⟩ = some (.slice As ns cs) ∧ W.cell? ⟨w.heap.size, 2, none⟩ = some (.slice At nt ct) ∧ W.cell? ⟨(w.heap.size + 1), 0, none⟩ = some (.int .i64 x) ∧ W.cell? ⟨(w.heap.size + 1), 1, none⟩ = some (.int .i64 y) ∧ W.cell? ⟨(w.heap.size + 2), 0, none⟩ = some (.int .i64 d) ∧ W.cell? ⟨(w.heap.size + 2), 1, none⟩ = some (.int .i64 t) ∧ W.cell? ⟨(w.heap.size + 3), 0, none⟩ = some (.int .i64 0) ∧ W.cell? ⟨(w.heap.size + 3), 1, none⟩ = some (.int .i64 0) ∧ W.frozen? ⟨(w.heap.size + 1), 0, none⟩ = false ∧ W.frozen? ⟨(w.heap.size + 1), 1, none⟩ = false ∧ W.frozen? ⟨(w.heap.size + 3), 0, none⟩ = false ∧ W.frozen? ⟨(w.heap.size + 3), 1, none⟩ = false from fun W hW => ⟨(hW.cell (by first | omega | (simp; done) | (simp; omega))).trans c0, (hW.cell (by first | omega | (simp; done) | (simp; omega))).trans c1, (hW.cell (by first | omega | (simp; done) | (simp; omega))).trans c2, (hW.cell (by first | omega | (simp; done) | (simp; omega))).trans c3, (hW.cell (by first | omega | (simp; done) | (simp; omega))).trans c4, (hW.cell (by first | omega | (simp; done) | (simp; omega))).trans c5, (hW.cell (by first | omega | (simp; done) | (simp; omega))).trans c6, (hW.cell (by first | omega | (simp; done) | (simp; omega))).trans c7, (hW.cell (by first | omega | (simp; done) | (simp; omega))).trans c8, (hW.frozen (by first | omega | (simp; done) | (simp; omega))).trans c9, (hW.frozen (by first | omega | (simp; done) | (simp; omega))).trans c10, (hW.frozen (by first | omega | (simp; done) | (simp; omega))).trans c11, (hW.frozen (by first | omega | (simp; done) | (simp; omega))).trans c12⟩)
          go_wp2_with (first
            | (go_at_call 61; (with_reducible refine (IR _ ?_).mono ?_); (focus (repeat' (first | exact Below.refl _ _ | assumption | (refine B0.trans (Below.mono ?_ B0.size); assumption) | refine Below.alloc ?_ (by first | omega | (simp; done) | (simp; omega)) _ | refine Below.drew ?_ | refine Below.setCell ?_ (by first | omega | (simp; done) | (simp; omega)) _))); rintro e w1 ⟨rfl, hb1⟩; have hB1 : Below w0.heap.size w0 w1 := Below.trans (by repeat' (first | exact Below.refl _ _ | assumption | refine Below.alloc ?_ (by first | omega | (simp; done) | (simp; omega)) _ | refine Below.drew ?_ | refine Below.setCell ?_ (by first | omega | (simp; done) | (simp; omega)) _)) (hb1.mono (by first | omega | (simp; done) | (simp; omega))); have hz1 := hB1.size; obtain ⟨q1_0, q1_1, q1_2, q1_3, q1_4, q1_5, q1_6, q1_7, q1_8, q1_9, q1_10, q1_11, q1_12⟩ := KP.out w1 hB1; clear hb1)
            | (go_at_call 62; (with_reducible refine (IS _).mono ?_); rintro e w2 ⟨rfl, hb2⟩; have hB2 : Below w0.heap.size w0 w2 := Below.trans (by repeat' (first | exact Below.refl _ _ | assumption | refine Below.alloc ?_ (by first | omega | (simp; done) | (simp; omega)) _ | refine Below.drew ?_ | refine Below.setCell ?_ (by first | omega | (simp; done) | (simp; omega)) _)) (hb2.mono (by first | omega | (simp; done) | (simp; omega))); have hz2 := hB2.size; obtain ⟨q2_0, q2_1, q2_2, q2_3, q2_4, q2_5, q2_6, q2_7, q2_8, q2_9, q2_10, q2_11, q2_12⟩ := KP.out w2 hB2; clear hb2)
            | (go_at_call 38; (with_reducible refine (IG _).mono ?_); rintro e w3 ⟨rfl, hb3⟩; have hB3 : Below w0.heap.size w0 w3 := Below.trans (by repeat' (first | exact Below.refl _ _ | assumption | refine Below.alloc ?_ (by first | omega | (simp; done) | (simp; omega)) _ | refine Below.drew ?_ | refine Below.setCell ?_ (by first | omega | (simp; done) | (simp; omega)) _)) (hb3.mono (by first | omega | (simp; done) | (simp; omega))); have hz3 := hB3.size; obtain ⟨q3_0, q3_1, q3_2, q3_3, q3_4, q3_5, q3_6, q3_7, q3_8, q3_9, q3_10, q3_11, q3_12⟩ := KP.out w3 hB3; clear hb3)
            | (go_at_call 63; (with_reducible refine (HS _ ?_).mono ?_); (focus (repeat' (first | exact Below.refl _ _ | assumption | (refine B0.trans (Below.mono ?_ B0.size); assumption) | refine Below.alloc ?_ (by first | omega | (simp; done) | (simp; omega)) _ | refine Below.drew ?_ | refine Below.setCell ?_ (by first | omega | (simp; done) | (simp; omega)) _))); rintro e w4 ⟨rfl, hb4⟩; have hB4 : Below w0.heap.size w0 w4 := Below.trans (by repeat' (first | exact Below.refl _ _ | assumption | refine Below.alloc ?_ (by first | omega | (simp; done) | (simp; omega)) _ | refine Below.drew ?_ | refine Below.setCell ?_ (by first | omega | (simp; done) | (simp; omega)) _)) (hb4.mono (by first | omega | (simp; done) | (simp; omega))); have hz4 := hB4.size; obtain ⟨q4_0, q4_1, q4_2, q4_3, q4_4, q4_5, q4_6, q4_7, q4_8, q4_9, q4_10, q4_11, q4_12⟩ := KP.out w4 hB4; clear hb4))
          go_region_held3 (fun w' => w'.cell? ⟨(w.heap.size + 1), 0, none⟩ = some (.int .i64 x) ∧ w'.cell? ⟨(w.heap.size + 1), 1, none⟩ = some (.int .i64 y) ∧ w'.cell? ⟨(w.heap.size + 2), 0, none⟩ = some (.int .i64 d) ∧ w'.cell? ⟨(w.heap.size + 2), 1, none⟩ = some (.int .i64 t)) (first | (go_keep; done) | (refine ⟨?_, ?_, ?_, ?_⟩ <;> (simp [go_sem, *]; done))) (first
            | (go_at_call 64; (with_reducible refine (PT _).mono ?_); rintro e w5 ⟨rfl, hb5⟩; have hB5 : Below w0.heap.size w0 w5 := Below.trans (by repeat' (first | exact Below.refl _ _ | assumption | refine Below.alloc ?_ (by first | omega | (simp; done) | (simp; omega)) _ | refine Below.drew ?_ | refine Below.setCell ?_ (by first | omega | (simp; done) | (simp; omega)) _)) (hb5.mono (by first | omega | (simp; done) | (simp; omega))); have hz5 := hB5.size; obtain ⟨q5_0, q5_1, q5_2, q5_3, q5_4, q5_5, q5_6, q5_7, q5_8, q5_9, q5_10, q5_11, q5_12⟩ := KP.out w5 hB5; clear hb5)
            | (go_at_call 68; (with_reducible refine (SC _).mono ?_); rintro e w6 ⟨rfl, hb6⟩; have hB6 : Below w0.heap.size w0 w6 := Below.trans (by repeat' (first | exact Below.refl _ _ | assumption | refine Below.alloc ?_ (by first | omega | (simp; done) | (simp; omega)) _ | refine Below.drew ?_ | refine Below.setCell ?_ (by first | omega | (simp; done) | (simp; omega)) _)) (hb6.mono (by first | omega | (simp; done) | (simp; omega))); have hz6 := hB6.size; obtain ⟨q6_0, q6_1, q6_2, q6_3, q6_4, q6_5, q6_6, q6_7, q6_8, q6_9, q6_10, q6_11, q6_12⟩ := KP.out w6 hB6; clear hb6)
            | (go_at_call 65; (with_reducible refine (V2 _).mono ?_); rintro e w7 ⟨rfl, hb7⟩; have hB7 : Below w0.heap.size w0 w7 := Below.trans (by repeat' (first | exact Below.refl _ _ | assumption | refine Below.alloc ?_ (by first | omega | (simp; done) | (simp; omega)) _ | refine Below.drew ?_ | refine Below.setCell ?_ (by first | omega | (simp; done) | (simp; omega)) _)) (hb7.mono (by first | omega | (simp; done) | (simp; omega))); have hz7 := hB7.size; obtain ⟨q7_0, q7_1, q7_2, q7_3, q7_4, q7_5, q7_6, q7_7, q7_8, q7_9, q7_10, q7_11, q7_12⟩ := KP.out w7 hB7; clear hb7))
          all_goals go_wp2_with fail
          all_goals (refine bodyPost_ret (v := .tuple #[.agg #[.int .i64 k1, .int .i64 k2], .int .i64 z]) ?_ rfl ?_; (focus (simp [results, Try.results29, go_sem, *])); exact ⟨endSet_of (HV.out.trans HP.out), by repeat' (first | exact Below.refl _ _ | assumption | (refine B0.trans (Below.mono ?_ B0.size); assumption) | refine Below.alloc ?_ (by first | omega | (simp; done) | (simp; omega)) _ | refine Below.drew ?_ | refine Below.setCell ?_ (by first | omega | (simp; done) | (simp; omega)) _)⟩)
        · rw [show decide (s ∈ onScales slide ls lt) = false from decide_eq_false g4] at HS
          have HV := Lib.hid (show rCursor a ls lt x y slide s d t = ((0, 0), 2) by rw [rCursor, if_pos g1, if_neg (by rw [l11C_2 g2 g3 g4]; decide), l11C_2 g2 g3 g4])
          clear g1 g2 g3 g4
          go_enter Try.func29, Try.ntmps29
          go_upto_region 0 with fail
          go_cut [5, 6, 9, 10, 11] (fun s5 s6 s9 s10 s11 wx => s5 = .pointer (some ⟨w.heap.size, 0, none⟩) ∧ s6 = .pointer (some ⟨w.heap.size + 1, 0, none⟩) ∧ s9 = .pointer (some ⟨w.heap.size + 2, 0, none⟩) ∧ s10 = .pointer (some ⟨w.heap.size + 3, 0, none⟩) ∧ s11 = .int .i64 0 ∧ wx.cell? ⟨w.heap.size, 0, none⟩ = some (.int .i64 a) ∧ wx.cell? ⟨w.heap.size, 1, none⟩ = some (.slice As ns cs) ∧ wx.cell? ⟨w.heap.size, 2, none⟩ = some (.slice At nt ct) ∧ wx.cell? ⟨(w.heap.size + 1), 0, none⟩ = some (.int .i64 x) ∧ wx.cell? ⟨(w.heap.size + 1), 1, none⟩ = some (.int .i64 y) ∧ wx.cell? ⟨(w.heap.size + 2), 0, none⟩ = some (.int .i64 d) ∧ wx.cell? ⟨(w.heap.size + 2), 1, none⟩ = some (.int .i64 t) ∧ wx.cell? ⟨(w.heap.size + 3), 0, none⟩ = some (.int .i64 0) ∧ wx.cell? ⟨(w.heap.size + 3), 1, none⟩ = some (.int .i64 0) ∧ wx.frozen? ⟨(w.heap.size + 1), 0, none⟩ = false ∧ wx.frozen? ⟨(w.heap.size + 1), 1, none⟩ = false ∧ wx.frozen? ⟨(w.heap.size + 3), 0, none⟩ = false ∧ wx.frozen? ⟨(w.heap.size + 3), 1, none⟩ = false ∧ (w.heap.size + 3) < wx.heap.size ∧ Below w.heap.size w wx)
          case first =>
            go_wp2_with fail
            go_meet
            refine ⟨rfl, rfl, rfl, rfl, rfl, ?_, ?_, ?_, ?_, ?_, ?_, ?_, ?_, ?_, ?_, ?_, ?_, ?_, ?_, by repeat' (first | exact Below.refl _ _ | assumption | refine Below.alloc ?_ (by first | omega | (simp; done) | (simp; omega)) _ | refine Below.drew ?_ | refine Below.setCell ?_ (by first | omega | (simp; done) | (simp; omega)) _)⟩
            all_goals (first | omega | (simp [go_sem]; done) | (simp; omega))
          case rest =>
          obtain ⟨rfl, rfl, rfl, rfl, rfl, c0, c1, c2, c3, c4, c5, c6, c7, c8, c9, c10, c11, c12, hl, B0⟩ := hcut
          obtain ⟨w0, rfl⟩ : ∃ w0 : World, w0 = wc := ⟨_, rfl⟩
          have lt0 : w.heap.size < w0.heap.size := by omega
          have lt1 : w.heap.size + 1 < w0.heap.size := by omega
          have lt2 : w.heap.size + 2 < w0.heap.size := by omega
          have KP := Lib.hid (show ∀ W : World, Below w0.heap.size w0 W → W.cell? ⟨w.heap.size, 0, none⟩ = some (.int .i64 a) ∧ W.cell? ⟨w.heap.size, 1, none⟩ = some (.slice As ns cs) ∧ W.cell? ⟨w.heap.size, 2, none⟩ = some (.slice At nt ct) ∧ W.cell? ⟨(w.heap.size + 1), 0, none⟩ = some (.int .i64 x) ∧ W.cell? ⟨(w.heap.size + 1), 1, none⟩ = some (.int .i64 y) ∧ W.cell? ⟨(w.heap.size + 2), 0, none⟩ = some (.int .i64 d) ∧ W.cell? ⟨(w.heap.size + 2), 1, none⟩ = some (.int .i64 t) ∧ W.cell? ⟨(w.heap.size + 3), 0, none⟩ = some (.int .i64 0) ∧ W.cell? ⟨(w.heap.size + 3), 1, none⟩ = some (.int .i64 0) ∧ W.frozen? ⟨(w.heap.size + 1), 0, none⟩ = false ∧ W.frozen? ⟨(w.heap.size + 1), 1, none⟩ = false ∧ W.frozen? ⟨(w.heap.size + 3), 0, none⟩ = false ∧ W.frozen? ⟨(w.heap.size + 3), 1, none⟩ = false from fun W hW => ⟨(hW.cell (by first | omega | (simp; done) | (simp; omega))).trans c0, (hW.cell (by first | omega | (simp; done) | (simp; omega))).trans c1, (hW.cell (by first | omega | (simp; done) | (simp; omega))).trans c2, (hW.cell (by first | omega | (simp; done) | (simp; omega))).trans c3, (hW.cell (by first | omega | (simp; done) | (simp; omega))).trans c4, (hW.cell (by first | omega | (simp; done) | (simp; omega))).trans c5, (hW.cell (by first | omega | (simp; done) | (simp; omega))).trans c6, (hW.cell (by first | omega | (simp; done) | (simp; omega))).trans c7, (hW.cell (by first | omega | (simp; done) | (simp; omega))).trans c8, (hW.frozen (by first | omega | (simp; done) | (simp; omega))).trans c9, (hW.frozen (by first | omega | (simp; done) | (simp; omega))).trans c10, (hW.frozen (by first | omega | (simp; done) | (simp; omega))).trans c11, (hW.frozen (by first | omega | (simp; done) | (simp; omega))).trans c12⟩)
          go_wp2_with (first
            | (go_at_call 61; (with_reducible refine (IR _ ?_).mono ?_); (focus (repeat' (first | exact Below.refl _ _ | assumption | (refine B0.trans (Below.mono ?_ B0.size); assumption) | refine Below.alloc ?_ (by first | omega | (simp; done) | (simp; omega)) _ | refine Below.drew ?_ | refine Below.setCell ?_ (by first | omega | (simp; done) | (simp; omega)) _))); rintro e w1 ⟨rfl, hb1⟩; have hB1 : Below w0.heap.size w0 w1 := Below.trans (by repeat' (first | exact Below.refl _ _ | assumption | refine Below.alloc ?_ (by first | omega | (simp; done) | (simp; omega)) _ | refine Below.drew ?_ | refine Below.setCell ?_ (by first | omega | (simp; done) | (simp; omega)) _)) (hb1.mono (by first | omega | (simp; done) | (simp; omega))); have hz1 := hB1.size; obtain ⟨q1_0, q1_1, q1_2, q1_3, q1_4, q1_5, q1_6, q1_7, q1_8, q1_9, q1_10, q1_11, q1_12⟩ := KP.out w1 hB1; clear hb1)
            | (go_at_call 62; (with_reducible refine (IS _).mono ?_); rintro e w2 ⟨rfl, hb2⟩; have hB2 : Below w0.heap.size w0 w2 := Below.trans (by repeat' (first | exact Below.refl _ _ | assumption | refine Below.alloc ?_ (by first | omega | (simp; done) | (simp; omega)) _ | refine Below.drew ?_ | refine Below.setCell ?_ (by first | omega | (simp; done) | (simp; omega)) _)) (hb2.mono (by first | omega | (simp; done) | (simp; omega))); have hz2 := hB2.size; obtain ⟨q2_0, q2_1, q2_2, q2_3, q2_4, q2_5, q2_6, q2_7, q2_8, q2_9, q2_10, q2_11, q2_12⟩ := KP.out w2 hB2; clear hb2)
            | (go_at_call 38; (with_reducible refine (IG _).mono ?_); rintro e w3 ⟨rfl, hb3⟩; have hB3 : Below w0.heap.size w0 w3 := Below.trans (by repeat' (first | exact Below.refl _ _ | assumption | refine Below.alloc ?_ (by first | omega | (simp; done) | (simp; omega)) _ | refine Below.drew ?_ | refine Below.setCell ?_ (by first | omega | (simp; done) | (simp; omega)) _)) (hb3.mono (by first | omega | (simp; done) | (simp; omega))); have hz3 := hB3.size; obtain ⟨q3_0, q3_1, q3_2, q3_3, q3_4, q3_5, q3_6, q3_7, q3_8, q3_9, q3_10, q3_11, q3_12⟩ := KP.out w3 hB3; clear hb3)
            | (go_at_call 63; (with_reducible refine (HS _ ?_).mono ?_); (focus (repeat' (first | exact Below.refl _ _ | assumption | (refine B0.trans (Below.mono ?_ B0.size); assumption) | refine Below.alloc ?_ (by first | omega | (simp; done) | (simp; omega)) _ | refine Below.drew ?_ | refine Below.setCell ?_ (by first | omega | (simp; done) | (simp; omega)) _))); rintro e w4 ⟨rfl, hb4⟩; have hB4 : Below w0.heap.size w0 w4 := Below.trans (by repeat' (first | exact Below.refl _ _ | assumption | refine Below.alloc ?_ (by first | omega | (simp; done) | (simp; omega)) _ | refine Below.drew ?_ | refine Below.setCell ?_ (by first | omega | (simp; done) | (simp; omega)) _)) (hb4.mono (by first | omega | (simp; done) | (simp; omega))); have hz4 := hB4.size; obtain ⟨q4_0, q4_1, q4_2, q4_3, q4_4, q4_5, q4_6, q4_7, q4_8, q4_9, q4_10, q4_11, q4_12⟩ := KP.out w4 hB4; clear hb4))
          (refine bodyPost_ret (v := .tuple #[.agg #[.int .i64 0, .int .i64 0], .int .i64 2]) ?_ rfl ?_; (focus (simp [results, Try.results29, go_sem, *])); exact ⟨endSet_of HV.out, by repeat' (first | exact Below.refl _ _ | assumption | (refine B0.trans (Below.mono ?_ B0.size); assumption) | refine Below.alloc ?_ (by first | omega | (simp; done) | (simp; omega)) _ | refine Below.drew ?_ | refine Below.setCell ?_ (by first | omega | (simp; done) | (simp; omega)) _)⟩)
      · have g1' : figB d t = false := by simpa using g1
        rw [g1'] at IG
        have HV := Lib.hid (show rCursor a ls lt x y slide s d t = ((0, 0), 1) by rw [rCursor, if_neg g1])
        clear g1 g1' g2 g3 HS
        go_enter Try.func29, Try.ntmps29
        go_upto_region 0 with fail
        go_cut [5, 6, 9, 10, 11] (fun s5 s6 s9 s10 s11 wx => s5 = .pointer (some ⟨w.heap.size, 0, none⟩) ∧ s6 = .pointer (some ⟨w.heap.size + 1, 0, none⟩) ∧ s9 = .pointer (some ⟨w.heap.size + 2, 0, none⟩) ∧ s10 = .pointer (some ⟨w.heap.size + 3, 0, none⟩) ∧ s11 = .int .i64 0 ∧ wx.cell? ⟨w.heap.size, 0, none⟩ = some (.int .i64 a) ∧ wx.cell? ⟨w.heap.size, 1, none⟩ = some (.slice As ns cs) ∧ wx.cell? ⟨w.heap.size, 2, none⟩ = some (.slice At nt ct) ∧ wx.cell? ⟨(w.heap.size + 1), 0, none⟩ = some (.int .i64 x) ∧ wx.cell? ⟨(w.heap.size + 1), 1, none⟩ = some (.int .i64 y) ∧ wx.cell? ⟨(w.heap.size + 2), 0, none⟩ = some (.int .i64 d) ∧ wx.cell? ⟨(w.heap.size + 2), 1, none⟩ = some (.int .i64 t) ∧ wx.cell? ⟨(w.heap.size + 3), 0, none⟩ = some (.int .i64 0) ∧ wx.cell? ⟨(w.heap.size + 3), 1, none⟩ = some (.int .i64 0) ∧ wx.frozen? ⟨(w.heap.size + 1), 0, none⟩ = false ∧ wx.frozen? ⟨(w.heap.size + 1), 1, none⟩ = false ∧ wx.frozen? ⟨(w.heap.size + 3), 0, none⟩ = false ∧ wx.frozen? ⟨(w.heap.size + 3), 1, none⟩ = false ∧ (w.heap.size + 3) < wx.heap.size ∧ Below w.heap.size w wx)
        case first =>
          go_wp2_with fail
          go_meet
          refine ⟨rfl, rfl, rfl, rfl, rfl, ?_, ?_, ?_, ?_, ?_, ?_, ?_, ?_, ?_, ?_, ?_, ?_, ?_, ?_, by repeat' (first | exact Below.refl _ _ | assumption | refine Below.alloc ?_ (by first | omega | (simp; done) | (simp; omega)) _ | refine Below.drew ?_ | refine Below.setCell ?_ (by first | omega | (simp; done) | (simp; omega)) _)⟩
          all_goals (first | omega | (simp [go_sem]; done) | (simp; omega))
        case rest =>
        obtain ⟨rfl, rfl, rfl, rfl, rfl, c0, c1, c2, c3, c4, c5, c6, c7, c8, c9, c10, c11, c12, hl, B0⟩ := hcut
        obtain ⟨w0, rfl⟩ : ∃ w0 : World, w0 = wc := ⟨_, rfl⟩
        have lt0 : w.heap.size < w0.heap.size := by omega
        have lt1 : w.heap.size + 1 < w0.heap.size := by omega
        have lt2 : w.heap.size + 2 < w0.heap.size := by omega
        have KP := Lib.hid (show ∀ W : World, Below w0.heap.size w0 W → W.cell? ⟨w.heap.size, 0, none⟩ = some (.int .i64 a) ∧ W.cell? ⟨w.heap.size, 1, none⟩ = some (.slice As ns cs) ∧ W.cell? ⟨w.heap.size, 2, none⟩ = some (.slice At nt ct) ∧ W.cell? ⟨(w.heap.size + 1), 0, none⟩ = some (.int .i64 x) ∧ W.cell? ⟨(w.heap.size + 1), 1, none⟩ = some (.int .i64 y) ∧ W.cell? ⟨(w.heap.size + 2), 0, none⟩ = some (.int .i64 d) ∧ W.cell? ⟨(w.heap.size + 2), 1, none⟩ = some (.int .i64 t) ∧ W.cell? ⟨(w.heap.size + 3), 0, none⟩ = some (.int .i64 0) ∧ W.cell? ⟨(w.heap.size + 3), 1, none⟩ = some (.int .i64 0) ∧ W.frozen? ⟨(w.heap.size + 1), 0, none⟩ = false ∧ W.frozen? ⟨(w.heap.size + 1), 1, none⟩ = false ∧ W.frozen? ⟨(w.heap.size + 3), 0, none⟩ = false ∧ W.frozen? ⟨(w.heap.size + 3), 1, none⟩ = false from fun W hW => ⟨(hW.cell (by first | omega | (simp; done) | (simp; omega))).trans c0, (hW.cell (by first | omega | (simp; done) | (simp; omega))).trans c1, (hW.cell (by first | omega | (simp; done) | (simp; omega))).trans c2, (hW.cell (by first | omega | (simp; done) | (simp; omega))).trans c3, (hW.cell (by first | omega | (simp; done) | (simp; omega))).trans c4, (hW.cell (by first | omega | (simp; done) | (simp; omega))).trans c5, (hW.cell (by first | omega | (simp; done) | (simp; omega))).trans c6, (hW.cell (by first | omega | (simp; done) | (simp; omega))).trans c7, (hW.cell (by first | omega | (simp; done) | (simp; omega))).trans c8, (hW.frozen (by first | omega | (simp; done) | (simp; omega))).trans c9, (hW.frozen (by first | omega | (simp; done) | (simp; omega))).trans c10, (hW.frozen (by first | omega | (simp; done) | (simp; omega))).trans c11, (hW.frozen (by first | omega | (simp; done) | (simp; omega))).trans c12⟩)
        go_wp2_with (first
          | (go_at_call 61; (with_reducible refine (IR _ ?_).mono ?_); (focus (repeat' (first | exact Below.refl _ _ | assumption | (refine B0.trans (Below.mono ?_ B0.size); assumption) | refine Below.alloc ?_ (by first | omega | (simp; done) | (simp; omega)) _ | refine Below.drew ?_ | refine Below.setCell ?_ (by first | omega | (simp; done) | (simp; omega)) _))); rintro e w1 ⟨rfl, hb1⟩; have hB1 : Below w0.heap.size w0 w1 := Below.trans (by repeat' (first | exact Below.refl _ _ | assumption | refine Below.alloc ?_ (by first | omega | (simp; done) | (simp; omega)) _ | refine Below.drew ?_ | refine Below.setCell ?_ (by first | omega | (simp; done) | (simp; omega)) _)) (hb1.mono (by first | omega | (simp; done) | (simp; omega))); have hz1 := hB1.size; obtain ⟨q1_0, q1_1, q1_2, q1_3, q1_4, q1_5, q1_6, q1_7, q1_8, q1_9, q1_10, q1_11, q1_12⟩ := KP.out w1 hB1; clear hb1)
          | (go_at_call 62; (with_reducible refine (IS _).mono ?_); rintro e w2 ⟨rfl, hb2⟩; have hB2 : Below w0.heap.size w0 w2 := Below.trans (by repeat' (first | exact Below.refl _ _ | assumption | refine Below.alloc ?_ (by first | omega | (simp; done) | (simp; omega)) _ | refine Below.drew ?_ | refine Below.setCell ?_ (by first | omega | (simp; done) | (simp; omega)) _)) (hb2.mono (by first | omega | (simp; done) | (simp; omega))); have hz2 := hB2.size; obtain ⟨q2_0, q2_1, q2_2, q2_3, q2_4, q2_5, q2_6, q2_7, q2_8, q2_9, q2_10, q2_11, q2_12⟩ := KP.out w2 hB2; clear hb2)
          | (go_at_call 38; (with_reducible refine (IG _).mono ?_); rintro e w3 ⟨rfl, hb3⟩; have hB3 : Below w0.heap.size w0 w3 := Below.trans (by repeat' (first | exact Below.refl _ _ | assumption | refine Below.alloc ?_ (by first | omega | (simp; done) | (simp; omega)) _ | refine Below.drew ?_ | refine Below.setCell ?_ (by first | omega | (simp; done) | (simp; omega)) _)) (hb3.mono (by first | omega | (simp; done) | (simp; omega))); have hz3 := hB3.size; obtain ⟨q3_0, q3_1, q3_2, q3_3, q3_4, q3_5, q3_6, q3_7, q3_8, q3_9, q3_10, q3_11, q3_12⟩ := KP.out w3 hB3; clear hb3))
        (refine bodyPost_ret (v := .tuple #[.agg #[.int .i64 0, .int .i64 0], .int .i64 1]) ?_ rfl ?_; (focus (simp [results, Try.results29, go_sem, *])); exact ⟨endSet_of HV.out, by repeat' (first | exact Below.refl _ _ | assumption | (refine B0.trans (Below.mono ?_ B0.size); assumption) | refine Below.alloc ?_ (by first | omega | (simp; done) | (simp; omega)) _ | refine Below.drew ?_ | refine Below.setCell ?_ (by first | omega | (simp; done) | (simp; omega)) _)⟩)
    · have g3' : setB x y = false := by simpa using g3
      rw [g3'] at IS
      have HV := Lib.hid (show rCursor a ls lt x y slide s d t = ((0, 0), 1) by
        rw [rCursor]
        split
        · rw [l11C_1 (.inr g3')]; rfl
        · rfl)
      clear g3 g3' g2 HS IG
      go_enter Try.func29, Try.ntmps29
      go_upto_region 0 with fail
      go_cut [5, 6, 9, 10, 11] (fun s5 s6 s9 s10 s11 wx => s5 = .pointer (some ⟨w.heap.size, 0, none⟩) ∧ s6 = .pointer (some ⟨w.heap.size + 1, 0, none⟩) ∧ s9 = .pointer (some ⟨w.heap.size + 2, 0, none⟩) ∧ s10 = .pointer (some ⟨w.heap.size + 3, 0, none⟩) ∧ s11 = .int .i64 0 ∧ wx.cell? ⟨w.heap.size, 0, none⟩ = some (.int .i64 a) ∧ wx.cell? ⟨w.heap.size, 1, none⟩ = some (.slice As ns cs) ∧ wx.cell? ⟨w.heap.size, 2, none⟩ = some (.slice At nt ct) ∧ wx.cell? ⟨(w.heap.size + 1), 0, none⟩ = some (.int .i64 x) ∧ wx.cell? ⟨(w.heap.size + 1), 1, none⟩ = some (.int .i64 y) ∧ wx.cell? ⟨(w.heap.size + 2), 0, none⟩ = some (.int .i64 d) ∧ wx.cell? ⟨(w.heap.size + 2), 1, none⟩ = some (.int .i64 t) ∧ wx.cell? ⟨(w.heap.size + 3), 0, none⟩ = some (.int .i64 0) ∧ wx.cell? ⟨(w.heap.size + 3), 1, none⟩ = some (.int .i64 0) ∧ wx.frozen? ⟨(w.heap.size + 1), 0, none⟩ = false ∧ wx.frozen? ⟨(w.heap.size + 1), 1, none⟩ = false ∧ wx.frozen? ⟨(w.heap.size + 3), 0, none⟩ = false ∧ wx.frozen? ⟨(w.heap.size + 3), 1, none⟩ = false ∧ (w.heap.size + 3) < wx.heap.size ∧ Below w.heap.size w wx)
      case first =>
        go_wp2_with fail
        go_meet
        refine ⟨rfl, rfl, rfl, rfl, rfl, ?_, ?_, ?_, ?_, ?_, ?_, ?_, ?_, ?_, ?_, ?_, ?_, ?_, ?_, by repeat' (first | exact Below.refl _ _ | assumption | refine Below.alloc ?_ (by first | omega | (simp; done) | (simp; omega)) _ | refine Below.drew ?_ | refine Below.setCell ?_ (by first | omega | (simp; done) | (simp; omega)) _)⟩
        all_goals (first | omega | (simp [go_sem]; done) | (simp; omega))
      case rest =>
      obtain ⟨rfl, rfl, rfl, rfl, rfl, c0, c1, c2, c3, c4, c5, c6, c7, c8, c9, c10, c11, c12, hl, B0⟩ := hcut
      obtain ⟨w0, rfl⟩ : ∃ w0 : World, w0 = wc := ⟨_, rfl⟩
      have lt0 : w.heap.size < w0.heap.size := by omega
      have lt1 : w.heap.size + 1 < w0.heap.size := by omega
      have lt2 : w.heap.size + 2 < w0.heap.size := by omega
      have KP := Lib.hid (show ∀ W : World, Below w0.heap.size w0 W → W.cell? ⟨w.heap.size, 0, none⟩ = some (.int .i64 a) ∧ W.cell? ⟨w.heap.size, 1, none⟩ = some (.slice As ns cs) ∧ W.cell? ⟨w.heap.size, 2, none⟩ = some (.slice At nt ct) ∧ W.cell? ⟨(w.heap.size + 1), 0, none⟩ = some (.int .i64 x) ∧ W.cell? ⟨(w.heap.size + 1), 1, none⟩ = some (.int .i64 y) ∧ W.cell? ⟨(w.heap.size + 2), 0, none⟩ = some (.int .i64 d) ∧ W.cell? ⟨(w.heap.size + 2), 1, none⟩ = some (.int .i64 t) ∧ W.cell? ⟨(w.heap.size + 3), 0, none⟩ = some (.int .i64 0) ∧ W.cell? ⟨(w.heap.size + 3), 1, none⟩ = some (.int .i64 0) ∧ W.frozen? ⟨(w.heap.size + 1), 0, none⟩ = false ∧ W.frozen? ⟨(w.heap.size + 1), 1, none⟩ = false ∧ W.frozen? ⟨(w.heap.size + 3), 0, none⟩ = false ∧ W.frozen? ⟨(w.heap.size + 3), 1, none⟩ = false from fun W hW => ⟨(hW.cell (by first | omega | (simp; done) | (simp; omega))).trans c0, (hW.cell (by first | omega | (simp; done) | (simp; omega))).trans c1, (hW.cell (by first | omega | (simp; done) | (simp; omega))).trans c2, (hW.cell (by first | omega | (simp; done) | (simp; omega))).trans c3, (hW.cell (by first | omega | (simp; done) | (simp; omega))).trans c4, (hW.cell (by first | omega | (simp; done) | (simp; omega))).trans c5, (hW.cell (by first | omega | (simp; done) | (simp; omega))).trans c6, (hW.cell (by first | omega | (simp; done) | (simp; omega))).trans c7, (hW.cell (by first | omega | (simp; done) | (simp; omega))).trans c8, (hW.frozen (by first | omega | (simp; done) | (simp; omega))).trans c9, (hW.frozen (by first | omega | (simp; done) | (simp; omega))).trans c10, (hW.frozen (by first | omega | (simp; done) | (simp; omega))).trans c11, (hW.frozen (by first | omega | (simp; done) | (simp; omega))).trans c12⟩)
      go_wp2_with (first
        | (go_at_call 61; (with_reducible refine (IR _ ?_).mono ?_); (focus (repeat' (first | exact Below.refl _ _ | assumption | (refine B0.trans (Below.mono ?_ B0.size); assumption) | refine Below.alloc ?_ (by first | omega | (simp; done) | (simp; omega)) _ | refine Below.drew ?_ | refine Below.setCell ?_ (by first | omega | (simp; done) | (simp; omega)) _))); rintro e w1 ⟨rfl, hb1⟩; have hB1 : Below w0.heap.size w0 w1 := Below.trans (by repeat' (first | exact Below.refl _ _ | assumption | refine Below.alloc ?_ (by first | omega | (simp; done) | (simp; omega)) _ | refine Below.drew ?_ | refine Below.setCell ?_ (by first | omega | (simp; done) | (simp; omega)) _)) (hb1.mono (by first | omega | (simp; done) | (simp; omega))); have hz1 := hB1.size; obtain ⟨q1_0, q1_1, q1_2, q1_3, q1_4, q1_5, q1_6, q1_7, q1_8, q1_9, q1_10, q1_11, q1_12⟩ := KP.out w1 hB1; clear hb1)
        | (go_at_call 62; (with_reducible refine (IS _).mono ?_); rintro e w2 ⟨rfl, hb2⟩; have hB2 : Below w0.heap.size w0 w2 := Below.trans (by repeat' (first | exact Below.refl _ _ | assumption | refine Below.alloc ?_ (by first | omega | (simp; done) | (simp; omega)) _ | refine Below.drew ?_ | refine Below.setCell ?_ (by first | omega | (simp; done) | (simp; omega)) _)) (hb2.mono (by first | omega | (simp; done) | (simp; omega))); have hz2 := hB2.size; obtain ⟨q2_0, q2_1, q2_2, q2_3, q2_4, q2_5, q2_6, q2_7, q2_8, q2_9, q2_10, q2_11, q2_12⟩ := KP.out w2 hB2; clear hb2))
      (refine bodyPost_ret (v := .tuple #[.agg #[.int .i64 0, .int .i64 0], .int .i64 1]) ?_ rfl ?_; (focus (simp [results, Try.results29, go_sem, *])); exact ⟨endSet_of HV.out, by repeat' (first | exact Below.refl _ _ | assumption | (refine B0.trans (Below.mono ?_ B0.size); assumption) | refine Below.alloc ?_ (by first | omega | (simp; done) | (simp; omega)) _ | refine Below.drew ?_ | refine Below.setCell ?_ (by first | omega | (simp; done) | (simp; omega)) _)⟩)
  · have g2' : ruleB a ls lt = false := by simpa using g2
    rw [g2'] at IR
    have HV := Lib.hid (show rCursor a ls lt x y slide s d t = ((0, 0), 1) by
      rw [rCursor]
      split
      · rw [l11C_1 (.inl g2')]; rfl
      · rfl)
    clear g2 g2' HS IG IS
    go_enter Try.func29, Try.ntmps29
    go_upto_region 0 with fail
    go_cut [5, 6, 9, 10, 11] (fun s5 s6 s9 s10 s11 wx => s5 = .pointer (some ⟨w.heap.size, 0, none⟩) ∧ s6 = .pointer (some ⟨w.heap.size + 1, 0, none⟩) ∧ s9 = .pointer (some ⟨w.heap.size + 2, 0, none⟩) ∧ s10 = .pointer (some ⟨w.heap.size + 3, 0, none⟩) ∧ s11 = .int .i64 0 ∧ wx.cell? ⟨w.heap.size, 0, none⟩ = some (.int .i64 a) ∧ wx.cell? ⟨w.heap.size, 1, none⟩ = some (.slice As ns cs) ∧ wx.cell? ⟨w.heap.size, 2, none⟩ = some (.slice At nt ct) ∧ wx.cell? ⟨(w.heap.size + 1), 0, none⟩ = some (.int .i64 x) ∧ wx.cell? ⟨(w.heap.size + 1), 1, none⟩ = some (.int .i64 y) ∧ wx.cell? ⟨(w.heap.size + 2), 0, none⟩ = some (.int .i64 d) ∧ wx.cell? ⟨(w.heap.size + 2), 1, none⟩ = some (.int .i64 t) ∧ wx.cell? ⟨(w.heap.size + 3), 0, none⟩ = some (.int .i64 0) ∧ wx.cell? ⟨(w.heap.size + 3), 1, none⟩ = some (.int .i64 0) ∧ wx.frozen? ⟨(w.heap.size + 1), 0, none⟩ = false ∧ wx.frozen? ⟨(w.heap.size + 1), 1, none⟩ = false ∧ wx.frozen? ⟨(w.heap.size + 3), 0, none⟩ = false ∧ wx.frozen? ⟨(w.heap.size + 3), 1, none⟩ = false ∧ (w.heap.size + 3) < wx.heap.size ∧ Below w.heap.size w wx)
    case first =>
      go_wp2_with fail
      go_meet
      refine ⟨rfl, rfl, rfl, rfl, rfl, ?_, ?_, ?_, ?_, ?_, ?_, ?_, ?_, ?_, ?_, ?_, ?_, ?_, ?_, by repeat' (first | exact Below.refl _ _ | assumption | refine Below.alloc ?_ (by first | omega | (simp; done) | (simp; omega)) _ | refine Below.drew ?_ | refine Below.setCell ?_ (by first | omega | (simp; done) | (simp; omega)) _)⟩
      all_goals (first | omega | (simp [go_sem]; done) | (simp; omega))
    case rest =>
    obtain ⟨rfl, rfl, rfl, rfl, rfl, c0, c1, c2, c3, c4, c5, c6, c7, c8, c9, c10, c11, c12, hl, B0⟩ := hcut
    obtain ⟨w0, rfl⟩ : ∃ w0 : World, w0 = wc := ⟨_, rfl⟩
    have lt0 : w.heap.size < w0.heap.size := by omega
    have lt1 : w.heap.size + 1 < w0.heap.size := by omega
    have lt2 : w.heap.size + 2 < w0.heap.size := by omega
    have KP := Lib.hid (show ∀ W : World, Below w0.heap.size w0 W → W.cell? ⟨w.heap.size, 0, none⟩ = some (.int .i64 a) ∧ W.cell? ⟨w.heap.size, 1, none⟩ = some (.slice As ns cs) ∧ W.cell? ⟨w.heap.size, 2, none⟩ = some (.slice At nt ct) ∧ W.cell? ⟨(w.heap.size + 1), 0, none⟩ = some (.int .i64 x) ∧ W.cell? ⟨(w.heap.size + 1), 1, none⟩ = some (.int .i64 y) ∧ W.cell? ⟨(w.heap.size + 2), 0, none⟩ = some (.int .i64 d) ∧ W.cell? ⟨(w.heap.size + 2), 1, none⟩ = some (.int .i64 t) ∧ W.cell? ⟨(w.heap.size + 3), 0, none⟩ = some (.int .i64 0) ∧ W.cell? ⟨(w.heap.size + 3), 1, none⟩ = some (.int .i64 0) ∧ W.frozen? ⟨(w.heap.size + 1), 0, none⟩ = false ∧ W.frozen? ⟨(w.heap.size + 1), 1, none⟩ = false ∧ W.frozen? ⟨(w.heap.size + 3), 0, none⟩ = false ∧ W.frozen? ⟨(w.heap.size + 3), 1, none⟩ = false from fun W hW => ⟨(hW.cell (by first | omega | (simp; done) | (simp; omega))).trans c0, (hW.cell (by first | omega | (simp; done) | (simp; omega))).trans c1, (hW.cell (by first | omega | (simp; done) | (simp; omega))).trans c2, (hW.cell (by first | omega | (simp; done) | (simp; omega))).trans c3, (hW.cell (by first | omega | (simp; done) | (simp; omega))).trans c4, (hW.cell (by first | omega | (simp; done) | (simp; omega))).trans c5, (hW.cell (by first | omega | (simp; done) | (simp; omega))).trans c6, (hW.cell (by first | omega | (simp; done) | (simp; omega))).trans c7, (hW.cell (by first | omega | (simp; done) | (simp; omega))).trans c8, (hW.frozen (by first | omega | (simp; done) | (simp; omega))).trans c9, (hW.frozen (by first | omega | (simp; done) | (simp; omega))).trans c10, (hW.frozen (by first | omega | (simp; done) | (simp; omega))).trans c11, (hW.frozen (by first | omega | (simp; done) | (simp; omega))).trans c12⟩)
    go_wp2_with (first
      | (go_at_call 61; (with_reducible refine (IR _ ?_).mono ?_); (focus (repeat' (first | exact Below.refl _ _ | assumption | (refine B0.trans (Below.mono ?_ B0.size); assumption) | refine Below.alloc ?_ (by first | omega | (simp; done) | (simp; omega)) _ | refine Below.drew ?_ | refine Below.setCell ?_ (by first | omega | (simp; done) | (simp; omega)) _))); rintro e w1 ⟨rfl, hb1⟩; have hB1 : Below w0.heap.size w0 w1 := Below.trans (by repeat' (first | exact Below.refl _ _ | assumption | refine Below.alloc ?_ (by first | omega | (simp; done) | (simp; omega)) _ | refine Below.drew ?_ | refine Below.setCell ?_ (by first | omega | (simp; done) | (simp; omega)) _)) (hb1.mono (by first | omega | (simp; done) | (simp; omega))); have hz1 := hB1.size; obtain ⟨q1_0, q1_1, q1_2, q1_3, q1_4, q1_5, q1_6, q1_7, q1_8, q1_9, q1_10, q1_11, q1_12⟩ := KP.out w1 hB1; clear hb1))
    (refine bodyPost_ret (v := .tuple #[.agg #[.int .i64 0, .int .i64 0], .int .i64 1]) ?_ rfl ?_; (focus (simp [results, Try.results29, go_sem, *])); exact ⟨endSet_of HV.out, by repeat' (first | exact Below.refl _ _ | assumption | (refine B0.trans (Below.mono ?_ B0.size); assumption) | refine Below.alloc ?_ (by first | omega | (simp; done) | (simp; omega)) _ | refine Below.drew ?_ | refine Below.setCell ?_ (by first | omega | (simp; done) | (simp; omega)) _)⟩)
set_option maxRecDepth 100000 in
set_option maxHeartbeats 4000000 in
theorem sSetCursor_any (a : Int) (As : Option Addr) (ns cs : Nat) (ls : List Int) (At : Option Addr) (nt ct : Nat) (lt : List Int) (x y : Int) (slide : Bool) (s d t : Int) (w : World) (hls : ls.length = ns) (hcs : ns ≤ cs) (hns : ns ≤ 1048576) (hrs : Sees w w.heap.size As (ls.map (Value.int .i64))) (hlt : lt.length = nt) (hct : nt ≤ ct) (hnt : nt ≤ 1048576) (hrt : Sees w w.heap.size At (lt.map (Value.int .i64))) :
    Calls Try.prog 28 #[.agg #[.int .i64 a, .slice As ns cs, .slice At nt ct], .agg #[.int .i64 x, .int .i64 y], .bool slide, .int .i64 s, .agg #[.int .i64 d, .int .i64 t]] w fun e w' => e = .returned (endSet (rCursor a ls lt x y slide s d t)) ∧ Below w.heap.size w w' := by
  have IR := fun W (hB : Below w.heap.size w W) => sIsRule_any a As ns cs ls At nt ct lt W hls hcs hns ((hrs.over hB).wider hB.size) hlt hct hnt ((hrt.over hB).wider hB.size)
  have IS := fun W => oneAlloc (sIsSetting_any x y W)
  have IG := fun W => oneAlloc (sIsFigure_any d t W)
  have CC := fun W (hB : Below w.heap.size w W) => l11Code_any a As ns cs ls At nt ct lt x y slide s W hls hcs hns ((hrs.over hB).wider hB.size) hlt hct hnt ((hrt.over hB).wider hB.size)
  clear hls hlt hrs hrt IR IS
  have HV1 := Lib.hid (show rCursor a ls lt x y slide s d t = if figB d t = true then (if l11C a ls lt x y slide s = 0 then rValid x (if slide = true then ptOf s d t + x else ptOf s d t) else ((0, 0), l11C a ls lt x y slide s)) else ((0, 0), 1) from rfl)
  have SB := fun h => l11C_zero (a := a) (ls := ls) (lt := lt) (x := x) (y := y) (slide := slide) (s := s) h
  generalize l11C a ls lt x y slide s = cc at *
  by_cases g1 : figB d t = true
  · rw [g1] at IG
    by_cases g2 : cc = 0
    · subst g2
      have g3 := SB rfl
      have HV0 := Lib.hid (HV1.out.trans ((if_pos g1).trans (if_pos rfl)))
      have HV := HV0
      clear SB HV1
      obtain ⟨hd, t1, t2⟩ := figB_iff.1 g1
      have PT := fun W => l11Point_any s d t W hd (by omega) (by omega)
      obtain ⟨p1, p2⟩ := ptOf_bd (s := s) (t := t) hd
      obtain ⟨⟨x1, x2⟩, y1, y2⟩ := setB_iff.1 g3
      have VV := fun u v W => sValid_any u v W
      have hd0 := hd
      have t10 : -1000000 ≤ t := by omega
      have t20 : t ≤ 1000000 := by omega
      clear hd t1 t2 HV0 g1 g3 PT
      generalize hpt : ptOf s d t = p at *
      have hq : -100000000 ≤ (if slide = true then p + x else p) ∧ (if slide = true then p + x else p) ≤ 100000000 := by cases slide <;> simp <;> omega
      have SC := fun W => sCursor_any x y slide s d t W x1 x2 hd0 t10 t20
      rw [hpt] at SC
      generalize (if slide = true then p + x else p) = q at *
      obtain ⟨⟨⟨k1, k2⟩, z⟩, HP⟩ : ∃ q', Hid (rValid x q = q') := ⟨_, Lib.hid rfl⟩
      have V2 := fun W => VV x q W
      rw [HP.out] at V2
      unfold endSet at V2
      clear VV hpt hd0 t10 t20
      go_enter Try.func28, Try.ntmps28
      go_upto_region 0 with fail
      go_cut [5, 6, 9, 10, 11] (fun s5 s6 s9 s10 s11 wx => s5 = .pointer (some ⟨w.heap.size, 0, none⟩) ∧ s6 = .pointer (some ⟨w.heap.size + 1, 0, none⟩) ∧ s9 = .pointer (some ⟨w.heap.size + 2, 0, none⟩) ∧ s10 = .pointer (some ⟨w.heap.size + 3, 0, none⟩) ∧ s11 = .int .i64 0 ∧ wx.cell? ⟨w.heap.size, 0, none⟩ = some (.int .i64 a) ∧ wx.cell? ⟨w.heap.size, 1, none⟩ = some (.slice As ns cs) ∧ wx.cell? ⟨w.heap.size, 2, none⟩ = some (.slice At nt ct) ∧ wx.cell? ⟨(w.heap.size + 1), 0, none⟩ = some (.int .i64 x) ∧ wx.cell? ⟨(w.heap.size + 1), 1, none⟩ = some (.int .i64 y) ∧ wx.cell? ⟨(w.heap.size + 2), 0, none⟩ = some (.int .i64 d) ∧ wx.cell? ⟨(w.heap.size + 2), 1, none⟩ = some (.int .i64 t) ∧ wx.cell? ⟨(w.heap.size + 3), 0, none⟩ = some (.int .i64 0) ∧ wx.cell? ⟨(w.heap.size + 3), 1, none⟩ = some (.int .i64 0) ∧ wx.frozen? ⟨(w.heap.size + 1), 0, none⟩ = false ∧ wx.frozen? ⟨(w.heap.size + 1), 1, none⟩ = false ∧ wx.frozen? ⟨(w.heap.size + 3), 0, none⟩ = false ∧ wx.frozen? ⟨(w.heap.size + 3), 1, none⟩ = false ∧ (w.heap.size + 3) < wx.heap.size ∧ Below w.heap.size w wx)
      case first =>
        go_wp2_with fail
        go_meet
        refine ⟨rfl, rfl, rfl, rfl, rfl, ?_, ?_, ?_, ?_, ?_, ?_, ?_, ?_, ?_, ?_, ?_, ?_, ?_, ?_, by repeat' (first | exact Below.refl _ _ | assumption | refine Below.alloc ?_ (by first | omega | (simp; done) | (simp; omega)) _ | refine Below.drew ?_ | refine Below.setCell ?_ (by first | omega | (simp; done) | (simp; omega)) _)⟩
        all_goals (first | omega | (simp [go_sem]; done) | (simp; omega))
      case rest =>
      obtain ⟨rfl, rfl, rfl, rfl, rfl, c0, c1, c2, c3, c4, c5, c6, c7, c8, c9, c10, c11, c12, hl, B0⟩ := hcut
      obtain ⟨w0, rfl⟩ : ∃ w0 : World, w0 = wc := ⟨_, rfl⟩
      have lt0 : w.heap.size < w0.heap.size := by omega
      have lt1 : w.heap.size + 1 < w0.heap.size := by omega
      have lt2 : w.heap.size + 2 < w0.heap.size := by omega
      have KP := Lib.hid (show ∀ W : World, Below w0.heap.size w0 W → W.cell? ⟨w.heap.size, 0, none⟩ = some (.int .i64 a) ∧ W.cell? ⟨w.heap.size, 1, none⟩ = some (.slice As ns cs) ∧ W.cell? ⟨w.heap.size, 2, none⟩ = some (.slice At nt ct) ∧ W.cell? ⟨(w.heap.size + 1), 0, none⟩ = some (.int .i64 x) ∧ W.cell? ⟨(w.heap.size + 1), 1, none⟩ = some (.int .i64 y) ∧ W.cell? ⟨(w.heap.size + 2), 0, none⟩ = some (.int .i64 d) ∧ W.cell? ⟨(w.heap.size + 2), 1, none⟩ = some (.int .i64 t) ∧ W.cell? ⟨(w.heap.size + 3), 0, none⟩ = some (.int .i64 0) ∧ W.cell? ⟨(w.heap.size + 3), 1, none⟩ = some (.int .i64 0) ∧ W.frozen? ⟨(w.heap.size + 1), 0, none⟩ = false ∧ W.frozen? ⟨(w.heap.size + 1), 1, none⟩ = false ∧ W.frozen? ⟨(w.heap.size + 3), 0, none⟩ = false ∧ W.frozen? ⟨(w.heap.size + 3), 1, none⟩ = false from fun W hW => ⟨(hW.cell (by first | omega | (simp; done) | (simp; omega))).trans c0, (hW.cell (by first | omega | (simp; done) | (simp; omega))).trans c1, (hW.cell (by first | omega | (simp; done) | (simp; omega))).trans c2, (hW.cell (by first | omega | (simp; done) | (simp; omega))).trans c3, (hW.cell (by first | omega | (simp; done) | (simp; omega))).trans c4, (hW.cell (by first | omega | (simp; done) | (simp; omega))).trans c5, (hW.cell (by first | omega | (simp; done) | (simp; omega))).trans c6, (hW.cell (by first | omega | (simp; done) | (simp; omega))).trans c7, (hW.cell (by first | omega | (simp; done) | (simp; omega))).trans c8, (hW.frozen (by first | omega | (simp; done) | (simp; omega))).trans c9, (hW.frozen (by first | omega | (simp; done) | (simp; omega))).trans c10, (hW.frozen (by first | omega | (simp; done) | (simp; omega))).trans c11, (hW.frozen (by first | omega | (simp; done) | (simp; omega))).trans c12⟩)
      go_wp2_with (first
        | (go_at_call 57; (with_reducible refine (CC _ ?_).mono ?_); (focus (repeat' (first | exact Below.refl _ _ | assumption | (refine B0.trans (Below.mono ?_ B0.size); assumption) | refine Below.alloc ?_ (by first | omega | (simp; done) | (simp; omega)) _ | refine Below.drew ?_ | refine Below.setCell ?_ (by first | omega | (simp; done) | (simp; omega)) _))); rintro e w1 ⟨rfl, hb1⟩; have hB1 : Below w0.heap.size w0 w1 := Below.trans (by repeat' (first | exact Below.refl _ _ | assumption | refine Below.alloc ?_ (by first | omega | (simp; done) | (simp; omega)) _ | refine Below.drew ?_ | refine Below.setCell ?_ (by first | omega | (simp; done) | (simp; omega)) _)) (hb1.mono (by first | omega | (simp; done) | (simp; omega))); have hz1 := hB1.size; obtain ⟨q1_0, q1_1, q1_2, q1_3, q1_4, q1_5, q1_6, q1_7, q1_8, q1_9, q1_10, q1_11, q1_12⟩ := KP.out w1 hB1; clear hb1)
        | (go_at_call 35; (with_reducible refine (IG _).mono ?_); rintro e w3 ⟨rfl, hb3⟩; have hB3 : Below w0.heap.size w0 w3 := Below.trans (by repeat' (first | exact Below.refl _ _ | assumption | refine Below.alloc ?_ (by first | omega | (simp; done) | (simp; omega)) _ | refine Below.drew ?_ | refine Below.setCell ?_ (by first | omega | (simp; done) | (simp; omega)) _)) (hb3.mono (by first | omega | (simp; done) | (simp; omega))); have hz3 := hB3.size; obtain ⟨q3_0, q3_1, q3_2, q3_3, q3_4, q3_5, q3_6, q3_7, q3_8, q3_9, q3_10, q3_11, q3_12⟩ := KP.out w3 hB3; clear hb3)
        | (go_at_call 67; (with_reducible refine (SC _).mono ?_); rintro e w5 ⟨rfl, hb5⟩; have hB5 : Below w0.heap.size w0 w5 := Below.trans (by repeat' (first | exact Below.refl _ _ | assumption | refine Below.alloc ?_ (by first | omega | (simp; done) | (simp; omega)) _ | refine Below.drew ?_ | refine Below.setCell ?_ (by first | omega | (simp; done) | (simp; omega)) _)) (hb5.mono (by first | omega | (simp; done) | (simp; omega))); have hz5 := hB5.size; obtain ⟨q5_0, q5_1, q5_2, q5_3, q5_4, q5_5, q5_6, q5_7, q5_8, q5_9, q5_10, q5_11, q5_12⟩ := KP.out w5 hB5; clear hb5)
        | (go_at_call 58; (with_reducible refine (V2 _).mono ?_); rintro e w6 ⟨rfl, hb6⟩; have hB6 : Below w0.heap.size w0 w6 := Below.trans (by repeat' (first | exact Below.refl _ _ | assumption | refine Below.alloc ?_ (by first | omega | (simp; done) | (simp; omega)) _ | refine Below.drew ?_ | refine Below.setCell ?_ (by first | omega | (simp; done) | (simp; omega)) _)) (hb6.mono (by first | omega | (simp; done) | (simp; omega))); have hz6 := hB6.size; obtain ⟨q6_0, q6_1, q6_2, q6_3, q6_4, q6_5, q6_6, q6_7, q6_8, q6_9, q6_10, q6_11, q6_12⟩ := KP.out w6 hB6; clear hb6))
      (refine bodyPost_ret (v := .tuple #[.agg #[.int .i64 k1, .int .i64 k2], .int .i64 z]) ?_ rfl ?_; (focus (simp [results, Try.results28, go_sem, *])); exact ⟨endSet_of (HV.out.trans HP.out), by repeat' (first | exact Below.refl _ _ | assumption | (refine B0.trans (Below.mono ?_ B0.size); assumption) | refine Below.alloc ?_ (by first | omega | (simp; done) | (simp; omega)) _ | refine Below.drew ?_ | refine Below.setCell ?_ (by first | omega | (simp; done) | (simp; omega)) _)⟩)
    · have HV := Lib.hid (HV1.out.trans ((if_pos g1).trans (if_neg g2)))
      have hcc : (cc != 0) = true := by simpa using g2
      clear SB HV1 g1 g2
      go_enter Try.func28, Try.ntmps28
      go_upto_region 0 with fail
      go_cut [5, 6, 9, 10, 11] (fun s5 s6 s9 s10 s11 wx => s5 = .pointer (some ⟨w.heap.size, 0, none⟩) ∧ s6 = .pointer (some ⟨w.heap.size + 1, 0, none⟩) ∧ s9 = .pointer (some ⟨w.heap.size + 2, 0, none⟩) ∧ s10 = .pointer (some ⟨w.heap.size + 3, 0, none⟩) ∧ s11 = .int .i64 0 ∧ wx.cell? ⟨w.heap.size, 0, none⟩ = some (.int .i64 a) ∧ wx.cell? ⟨w.heap.size, 1, none⟩ = some (.slice As ns cs) ∧ wx.cell? ⟨w.heap.size, 2, none⟩ = some (.slice At nt ct) ∧ wx.cell? ⟨(w.heap.size + 1), 0, none⟩ = some (.int .i64 x) ∧ wx.cell? ⟨(w.heap.size + 1), 1, none⟩ = some (.int .i64 y) ∧ wx.cell? ⟨(w.heap.size + 2), 0, none⟩ = some (.int .i64 d) ∧ wx.cell? ⟨(w.heap.size + 2), 1, none⟩ = some (.int .i64 t) ∧ wx.cell? ⟨(w.heap.size + 3), 0, none⟩ = some (.int .i64 0) ∧ wx.cell? ⟨(w.heap.size + 3), 1, none⟩ = some (.int .i64 0) ∧ wx.frozen? ⟨(w.heap.size + 1), 0, none⟩ = false ∧ wx.frozen? ⟨(w.heap.size + 1), 1, none⟩ = false ∧ wx.frozen? ⟨(w.heap.size + 3), 0, none⟩ = false ∧ wx.frozen? ⟨(w.heap.size + 3), 1, none⟩ = false ∧ (w.heap.size + 3) < wx.heap.size ∧ Below w.heap.size w wx)
      case first =>
        go_wp2_with fail
        go_meet
        refine ⟨rfl, rfl, rfl, rfl, rfl, ?_, ?_, ?_, ?_, ?_, ?_, ?_, ?_, ?_, ?_, ?_, ?_, ?_, ?_, by repeat' (first | exact Below.refl _ _ | assumption | refine Below.alloc ?_ (by first | omega | (simp; done) | (simp; omega)) _ | refine Below.drew ?_ | refine Below.setCell ?_ (by first | omega | (simp; done) | (simp; omega)) _)⟩
        all_goals (first | omega | (simp [go_sem]; done) | (simp; omega))
      case rest =>
      obtain ⟨rfl, rfl, rfl, rfl, rfl, c0, c1, c2, c3, c4, c5, c6, c7, c8, c9, c10, c11, c12, hl, B0⟩ := hcut
      obtain ⟨w0, rfl⟩ : ∃ w0 : World, w0 = wc := ⟨_, rfl⟩
      have lt0 : w.heap.size < w0.heap.size := by omega
      have lt1 : w.heap.size + 1 < w0.heap.size := by omega
      have lt2 : w.heap.size + 2 < w0.heap.size := by omega
      have KP := Lib.hid (show ∀ W : World, Below w0.heap.size w0 W → W.cell? ⟨w.heap.size, 0, none⟩ = some (.int .i64 a) ∧ W.cell? ⟨w.heap.size, 1, none⟩ = some (.slice As ns cs) ∧ W.cell? ⟨w.heap.size, 2, none⟩ = some (.slice At nt ct) ∧ W.cell? ⟨(w.heap.size + 1), 0, none⟩ = some (.int .i64 x) ∧ W.cell? ⟨(w.heap.size + 1), 1, none⟩ = some (.int .i64 y) ∧ W.cell? ⟨(w.heap.size + 2), 0, none⟩ = some (.int .i64 d) ∧ W.cell? ⟨(w.heap.size + 2), 1, none⟩ = some (.int .i64 t) ∧ W.cell? ⟨(w.heap.size + 3), 0, none⟩ = some (.int .i64 0) ∧ W.cell? ⟨(w.heap.size + 3), 1, none⟩ = some (.int .i64 0) ∧ W.frozen? ⟨(w.heap.size + 1), 0, none⟩ = false ∧ W.frozen? ⟨(w.heap.size + 1), 1, none⟩ = false ∧ W.frozen? ⟨(w.heap.size + 3), 0, none⟩ = false ∧ W.frozen? ⟨(w.heap.size + 3), 1, none⟩ = false from fun W hW => ⟨(hW.cell (by first | omega | (simp; done) | (simp; omega))).trans c0, (hW.cell (by first | omega | (simp; done) | (simp; omega))).trans c1, (hW.cell (by first | omega | (simp; done) | (simp; omega))).trans c2, (hW.cell (by first | omega | (simp; done) | (simp; omega))).trans c3, (hW.cell (by first | omega | (simp; done) | (simp; omega))).trans c4, (hW.cell (by first | omega | (simp; done) | (simp; omega))).trans c5, (hW.cell (by first | omega | (simp; done) | (simp; omega))).trans c6, (hW.cell (by first | omega | (simp; done) | (simp; omega))).trans c7, (hW.cell (by first | omega | (simp; done) | (simp; omega))).trans c8, (hW.frozen (by first | omega | (simp; done) | (simp; omega))).trans c9, (hW.frozen (by first | omega | (simp; done) | (simp; omega))).trans c10, (hW.frozen (by first | omega | (simp; done) | (simp; omega))).trans c11, (hW.frozen (by first | omega | (simp; done) | (simp; omega))).trans c12⟩)
      go_wp2_with (first
        | (go_at_call 57; (with_reducible refine (CC _ ?_).mono ?_); (focus (repeat' (first | exact Below.refl _ _ | assumption | (refine B0.trans (Below.mono ?_ B0.size); assumption) | refine Below.alloc ?_ (by first | omega | (simp; done) | (simp; omega)) _ | refine Below.drew ?_ | refine Below.setCell ?_ (by first | omega | (simp; done) | (simp; omega)) _))); rintro e w1 ⟨rfl, hb1⟩; have hB1 : Below w0.heap.size w0 w1 := Below.trans (by repeat' (first | exact Below.refl _ _ | assumption | refine Below.alloc ?_ (by first | omega | (simp; done) | (simp; omega)) _ | refine Below.drew ?_ | refine Below.setCell ?_ (by first | omega | (simp; done) | (simp; omega)) _)) (hb1.mono (by first | omega | (simp; done) | (simp; omega))); have hz1 := hB1.size; obtain ⟨q1_0, q1_1, q1_2, q1_3, q1_4, q1_5, q1_6, q1_7, q1_8, q1_9, q1_10, q1_11, q1_12⟩ := KP.out w1 hB1; clear hb1)
        | (go_at_call 35; (with_reducible refine (IG _).mono ?_); rintro e w3 ⟨rfl, hb3⟩; have hB3 : Below w0.heap.size w0 w3 := Below.trans (by repeat' (first | exact Below.refl _ _ | assumption | refine Below.alloc ?_ (by first | omega | (simp; done) | (simp; omega)) _ | refine Below.drew ?_ | refine Below.setCell ?_ (by first | omega | (simp; done) | (simp; omega)) _)) (hb3.mono (by first | omega | (simp; done) | (simp; omega))); have hz3 := hB3.size; obtain ⟨q3_0, q3_1, q3_2, q3_3, q3_4, q3_5, q3_6, q3_7, q3_8, q3_9, q3_10, q3_11, q3_12⟩ := KP.out w3 hB3; clear hb3))
      (refine bodyPost_ret (v := .tuple #[.agg #[.int .i64 0, .int .i64 0], .int .i64 cc]) ?_ rfl ?_; (focus (simp [results, Try.results28, go_sem, *])); exact ⟨endSet_of HV.out, by repeat' (first | exact Below.refl _ _ | assumption | (refine B0.trans (Below.mono ?_ B0.size); assumption) | refine Below.alloc ?_ (by first | omega | (simp; done) | (simp; omega)) _ | refine Below.drew ?_ | refine Below.setCell ?_ (by first | omega | (simp; done) | (simp; omega)) _)⟩)
  · have g1' : figB d t = false := by simpa using g1
    rw [g1'] at IG
    have HV := Lib.hid (HV1.out.trans (if_neg g1))
    clear SB HV1 g1 g1'
    go_enter Try.func28, Try.ntmps28
    go_upto_region 0 with fail
    go_cut [5, 6, 9, 10, 11] (fun s5 s6 s9 s10 s11 wx => s5 = .pointer (some ⟨w.heap.size, 0, none⟩) ∧ s6 = .pointer (some ⟨w.heap.size + 1, 0, none⟩) ∧ s9 = .pointer (some ⟨w.heap.size + 2, 0, none⟩) ∧ s10 = .pointer (some ⟨w.heap.size + 3, 0, none⟩) ∧ s11 = .int .i64 0 ∧ wx.cell? ⟨w.heap.size, 0, none⟩ = some (.int .i64 a) ∧ wx.cell? ⟨w.heap.size, 1, none⟩ = some (.slice As ns cs) ∧ wx.cell? ⟨w.heap.size, 2, none⟩ = some (.slice At nt ct) ∧ wx.cell? ⟨(w.heap.size + 1), 0, none⟩ = some (.int .i64 x) ∧ wx.cell? ⟨(w.heap.size + 1), 1, none⟩ = some (.int .i64 y) ∧ wx.cell? ⟨(w.heap.size + 2), 0, none⟩ = some (.int .i64 d) ∧ wx.cell? ⟨(w.heap.size + 2), 1, none⟩ = some (.int .i64 t) ∧ wx.cell? ⟨(w.heap.size + 3), 0, none⟩ = some (.int .i64 0) ∧ wx.cell? ⟨(w.heap.size + 3), 1, none⟩ = some (.int .i64 0) ∧ wx.frozen? ⟨(w.heap.size + 1), 0, none⟩ = false ∧ wx.frozen? ⟨(w.heap.size + 1), 1, none⟩ = false ∧ wx.frozen? ⟨(w.heap.size + 3), 0, none⟩ = false ∧ wx.frozen? ⟨(w.heap.size + 3), 1, none⟩ = false ∧ (w.heap.size + 3) < wx.heap.size ∧ Below w.heap.size w wx)
    case first =>
      go_wp2_with fail
      go_meet
      refine ⟨rfl, rfl, rfl, rfl, rfl, ?_, ?_, ?_, ?_, ?_, ?_, ?_, ?_, ?_, ?_, ?_, ?_, ?_, ?_, by repeat' (first | exact Below.refl _ _ | assumption | refine Below.alloc ?_ (by first | omega | (simp; done) | (simp; omega)) _ | refine Below.drew ?_ | refine Below.setCell ?_ (by first | omega | (simp; done) | (simp; omega)) _)⟩
      all_goals (first | omega | (simp [go_sem]; done) | (simp; omega))
    case rest =>
    obtain ⟨rfl, rfl, rfl, rfl, rfl, c0, c1, c2, c3, c4, c5, c6, c7, c8, c9, c10, c11, c12, hl, B0⟩ := hcut
    obtain ⟨w0, rfl⟩ : ∃ w0 : World, w0 = wc := ⟨_, rfl⟩
    have lt0 : w.heap.size < w0.heap.size := by omega
    have lt1 : w.heap.size + 1 < w0.heap.size := by omega
    have lt2 : w.heap.size + 2 < w0.heap.size := by omega
    have KP := Lib.hid (show ∀ W : World, Below w0.heap.size w0 W → W.cell? ⟨w.heap.size, 0, none⟩ = some (.int .i64 a) ∧ W.cell? ⟨w.heap.size, 1, none⟩ = some (.slice As ns cs) ∧ W.cell? ⟨w.heap.size, 2, none⟩ = some (.slice At nt ct) ∧ W.cell? ⟨(w.heap.size + 1), 0, none⟩ = some (.int .i64 x) ∧ W.cell? ⟨(w.heap.size + 1), 1, none⟩ = some (.int .i64 y) ∧ W.cell? ⟨(w.heap.size + 2), 0, none⟩ = some (.int .i64 d) ∧ W.cell? ⟨(w.heap.size + 2), 1, none⟩ = some (.int .i64 t) ∧ W.cell? ⟨(w.heap.size + 3), 0, none⟩ = some (.int .i64 0) ∧ W.cell? ⟨(w.heap.size + 3), 1, none⟩ = some (.int .i64 0) ∧ W.frozen? ⟨(w.heap.size + 1), 0, none⟩ = false ∧ W.frozen? ⟨(w.heap.size + 1), 1, none⟩ = false ∧ W.frozen? ⟨(w.heap.size + 3), 0, none⟩ = false ∧ W.frozen? ⟨(w.heap.size + 3), 1, none⟩ = false from fun W hW => ⟨(hW.cell (by first | omega | (simp; done) | (simp; omega))).trans c0, (hW.cell (by first | omega | (simp; done) | (simp; omega))).trans c1, (hW.cell (by first | omega | (simp; done) | (simp; omega))).trans c2, (hW.cell (by first | omega | (simp; done) | (simp; omega))).trans c3, (hW.cell (by first | omega | (simp; done) | (simp; omega))).trans c4, (hW.cell (by first | omega | (simp; done) | (simp; omega))).trans c5, (hW.cell (by first | omega | (simp; done) | (simp; omega))).trans c6, (hW.cell (by first | omega | (simp; done) | (simp; omega))).trans c7, (hW.cell (by first | omega | (simp; done) | (simp; omega))).trans c8, (hW.frozen (by first | omega | (simp; done) | (simp; omega))).trans c9, (hW.frozen (by first | omega | (simp; done) | (simp; omega))).trans c10, (hW.frozen (by first | omega | (simp; done) | (simp; omega))).trans c11, (hW.frozen (by first | omega | (simp; done) | (simp; omega))).trans c12⟩)
    go_wp2_with (first
      | (go_at_call 57; (with_reducible refine (CC _ ?_).mono ?_); (focus (repeat' (first | exact Below.refl _ _ | assumption | (refine B0.trans (Below.mono ?_ B0.size); assumption) | refine Below.alloc ?_ (by first | omega | (simp; done) | (simp; omega)) _ | refine Below.drew ?_ | refine Below.setCell ?_ (by first | omega | (simp; done) | (simp; omega)) _))); rintro e w1 ⟨rfl, hb1⟩; have hB1 : Below w0.heap.size w0 w1 := Below.trans (by repeat' (first | exact Below.refl _ _ | assumption | refine Below.alloc ?_ (by first | omega | (simp; done) | (simp; omega)) _ | refine Below.drew ?_ | refine Below.setCell ?_ (by first | omega | (simp; done) | (simp; omega)) _)) (hb1.mono (by first | omega | (simp; done) | (simp; omega))); have hz1 := hB1.size; obtain ⟨q1_0, q1_1, q1_2, q1_3, q1_4, q1_5, q1_6, q1_7, q1_8, q1_9, q1_10, q1_11, q1_12⟩ := KP.out w1 hB1; clear hb1)
      | (go_at_call 35; (with_reducible refine (IG _).mono ?_); rintro e w3 ⟨rfl, hb3⟩; have hB3 : Below w0.heap.size w0 w3 := Below.trans (by repeat' (first | exact Below.refl _ _ | assumption | refine Below.alloc ?_ (by first | omega | (simp; done) | (simp; omega)) _ | refine Below.drew ?_ | refine Below.setCell ?_ (by first | omega | (simp; done) | (simp; omega)) _)) (hb3.mono (by first | omega | (simp; done) | (simp; omega))); have hz3 := hB3.size; obtain ⟨q3_0, q3_1, q3_2, q3_3, q3_4, q3_5, q3_6, q3_7, q3_8, q3_9, q3_10, q3_11, q3_12⟩ := KP.out w3 hB3; clear hb3))
    (refine bodyPost_ret (v := .tuple #[.agg #[.int .i64 0, .int .i64 0], .int .i64 1]) ?_ rfl ?_; (focus (simp [results, Try.results28, go_sem, *])); exact ⟨endSet_of HV.out, by repeat' (first | exact Below.refl _ _ | assumption | (refine B0.trans (Below.mono ?_ B0.size); assumption) | refine Below.alloc ?_ (by first | omega | (simp; done) | (simp; omega)) _ | refine Below.drew ?_ | refine Below.setCell ?_ (by first | omega | (simp; done) | (simp; omega)) _)⟩)
end Go.Proofs.Ythkapanmmbhmcaa
