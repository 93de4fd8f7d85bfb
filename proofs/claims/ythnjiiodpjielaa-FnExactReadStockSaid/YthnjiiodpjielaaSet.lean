/- SetSlide, SetCursor (layer 11): contracts. No condition. -/
import Derived.Test.YthnjiiodpjielaaRule4
import Derived.Test.YthnjiiodpjielaaPt
import Derived.Deep.DeepCutAuto
namespace Go.Proofs.Ythnjiiodpjielaa
open Go.RowKit
set_option linter.unusedVariables false
set_option linter.unusedSimpArgs false

def setB (x y : Int) : Bool := inB x (-1048576) 1048576 && inB y 0 1048576
theorem setB_iff {x y : Int} : setB x y = true ↔ (-1048576 ≤ x ∧ x ≤ 1048576) ∧ 0 ≤ y ∧ y ≤ 1048576 := by simp [setB, inB_iff]
theorem oneAlloc {P : Program} {f : FuncId} {args : Array Value} {W : World} {v : Value} {o : Obj} (h : Calls P f args W fun e w' => e = .returned v ∧ W.alloc o = w') : Calls P f args W fun e w' => e = .returned v ∧ Below W.heap.size W w' :=
  h.mono fun e w' ⟨he, hw⟩ => ⟨he, by subst hw; exact (Below.refl _ _).alloc (Nat.le_refl _) _⟩
def rValid (x y : Int) : (Int × Int) × Int := if setB x y = true then ((x, y), 0) else ((0, 0), 5)
def l11C (a : Int) (ls lt : List Int) (x y : Int) (slide : Bool) (s : Int) : Int := if (ruleB a ls lt && setB x y) = true then (if s ∈ onScales slide ls lt then 0 else 2) else 1
def endSet (p : (Int × Int) × Int) : Value := .tuple #[.agg #[.int .i64 p.1.1, .int .i64 p.1.2], .int .i64 p.2]
theorem endSet_of {p : (Int × Int) × Int} {a b z : Int} (h : p = ((a, b), z)) : Ending.returned (.tuple #[.agg #[.int .i64 a, .int .i64 b], .int .i64 z]) = .returned (endSet p) := by subst h; rfl
theorem ptOf_bd {s d t : Int} (hd : Dig d) : -1 ≤ ptOf s d t ∧ ptOf s d t ≤ 2097152 := by
  have := p_bd (s := s) (t := t) hd
  unfold ptOf
  omega
set_option maxHeartbeats 400000 in
theorem iIsSetting_any (a b : Int) (w : World) :
    Calls Try.prog 127 #[.agg #[.int .i64 a, .int .i64 b]] w fun e w' => e = .returned (.bool (setB a b)) ∧ w.alloc (.cells #[.int .i64 a, .int .i64 b] 86) = w' := by
  go_enter Try.func127, Try.ntmps127
  go_wp2_with (go_at_call 66; refine (within_any _ _ _ _).mono ?_; rintro e w' ⟨rfl, rfl⟩)
  all_goals go_ret
  all_goals (refine ⟨endBool ?_, rfl⟩)
  all_goals simp_all [setB]
set_option maxHeartbeats 400000 in
theorem sIsSetting_any (a b : Int) (w : World) :
    Calls Try.prog 166 #[.agg #[.int .i64 a, .int .i64 b]] w fun e w' => e = .returned (.bool (setB a b)) ∧ w.alloc (.cells #[.int .i64 a, .int .i64 b] 86) = w' := by
  go_enter Try.func166, Try.ntmps166
  go_wp2_with (go_at_call 70; refine (l01In_any _ _ _ _).mono ?_; rintro e w' ⟨rfl, rfl⟩)
  all_goals go_ret
  all_goals (refine ⟨endBool ?_, rfl⟩)
  all_goals simp_all [setB]
set_option maxRecDepth 100000 in
set_option maxHeartbeats 2000000 in
theorem l11Code_any (a : Int) (As : Option Addr) (ns cs : Nat) (ls : List Int) (At : Option Addr) (nt ct : Nat) (lt : List Int) (x y : Int) (slide : Bool) (s : Int) (w : World) (hls : ls.length = ns) (hcs : ns ≤ cs) (hns : ns ≤ 1048576) (hrs : Sees w w.heap.size As (ls.map (Value.int .i64))) (hlt : lt.length = nt) (hct : nt ≤ ct) (hnt : nt ≤ 1048576) (hrt : Sees w w.heap.size At (lt.map (Value.int .i64))) :
    Calls Try.prog 123 #[.agg #[.int .i64 a, .slice As ns cs, .slice At nt ct], .agg #[.int .i64 x, .int .i64 y], .bool slide, .int .i64 s] w fun e w' => e = .returned (.int .i64 (l11C a ls lt x y slide s)) ∧ Below w.heap.size w w' := by
  have IR := fun W (hB : Below w.heap.size w W) => sIsRule_any a As ns cs ls At nt ct lt W hls hcs hns ((hrs.over hB).wider hB.size) hlt hct hnt ((hrt.over hB).wider hB.size)
  have IS := fun W => oneAlloc (sIsSetting_any x y W)
  have ON := fun W => oneAlloc (l11On_any a As ns cs At nt ct slide W)
  have HA : ∀ W, Below w.heap.size w W → Calls Try.prog 167 #[if slide = true then .slice At nt ct else .slice As ns cs, .int .i64 s] W fun e w' => e = .returned (.bool (decide (s ∈ onScales slide ls lt))) ∧ W = w' := by
    intro W hB
    cases slide
    · exact l01Has_any As ns cs ls s W w.heap.size hls (by omega) (hrs.over hB)
    · exact l01Has_any At nt ct lt s W w.heap.size hlt (by omega) (hrt.over hB)
  have HV0 := Lib.hid (show l11C a ls lt x y slide s = if (ruleB a ls lt && setB x y) = true then (if s ∈ onScales slide ls lt then 0 else 2) else 1 from rfl)
  clear hls hlt hrs hrt
  by_cases g1 : ruleB a ls lt = true
  · rw [g1] at IR
    by_cases g2 : setB x y = true
    · rw [g2] at IS
      by_cases g3 : s ∈ onScales slide ls lt
      · have HV := Lib.hid (show l11C a ls lt x y slide s = 0 by rw [HV0.out, if_pos (by rw [g1, g2]; rfl), if_pos g3])
        rw [show decide (s ∈ onScales slide ls lt) = true from decide_eq_true g3] at HA
        generalize hsl : (if slide = true then Value.slice At nt ct else Value.slice As ns cs) = sl at *
        clear hsl g1 g2 g3 HV0
        go_enter Try.func123, Try.ntmps123
        go_upto_region 0 with fail
        go_cut [4, 5, 8] (fun s4 s5 s8 wx => s4 = .pointer (some ⟨w.heap.size, 0, none⟩) ∧ s5 = .pointer (some ⟨w.heap.size + 1, 0, none⟩) ∧ s8 = .int .i64 0 ∧ wx.cell? ⟨w.heap.size, 0, none⟩ = some (.int .i64 a) ∧ wx.cell? ⟨w.heap.size, 1, none⟩ = some (.slice As ns cs) ∧ wx.cell? ⟨w.heap.size, 2, none⟩ = some (.slice At nt ct) ∧ wx.cell? ⟨(w.heap.size + 1), 0, none⟩ = some (.int .i64 x) ∧ wx.cell? ⟨(w.heap.size + 1), 1, none⟩ = some (.int .i64 y) ∧ (w.heap.size + 1) < wx.heap.size ∧ Below w.heap.size w wx)
        case first =>
          go_wp2_with fail
          go_meet
          refine ⟨rfl, rfl, rfl, ?_, ?_, ?_, ?_, ?_, ?_, by repeat' (first | exact Below.refl _ _ | assumption | refine Below.alloc ?_ (by first | omega | (simp; done) | (simp; omega)) _ | refine Below.drew ?_ | refine Below.setCell ?_ (by first | omega | (simp; done) | (simp; omega)) _)⟩
          all_goals (first | omega | (simp [go_sem]; done) | (simp; omega))
        case rest =>
        obtain ⟨rfl, rfl, rfl, c0, c1, c2, c3, c4, hl, B0⟩ := hcut
        have KP := Lib.hid (show ∀ W : World, Below wc.heap.size wc W → W.cell? ⟨w.heap.size, 0, none⟩ = some (.int .i64 a) ∧ W.cell? ⟨w.heap.size, 1, none⟩ = some (.slice As ns cs) ∧ W.cell? ⟨w.heap.size, 2, none⟩ = some (.slice At nt ct) ∧ W.cell? ⟨(w.heap.size + 1), 0, none⟩ = some (.int .i64 x) ∧ W.cell? ⟨(w.heap.size + 1), 1, none⟩ = some (.int .i64 y) from fun W hW => ⟨(hW.cell (by first | omega | (simp; done) | (simp; omega))).trans c0, (hW.cell (by first | omega | (simp; done) | (simp; omega))).trans c1, (hW.cell (by first | omega | (simp; done) | (simp; omega))).trans c2, (hW.cell (by first | omega | (simp; done) | (simp; omega))).trans c3, (hW.cell (by first | omega | (simp; done) | (simp; omega))).trans c4⟩)
        go_wp2_with (first
          | (go_at_call 165; (with_reducible refine (IR _ ?_).mono ?_); (focus (repeat' (first | exact Below.refl _ _ | assumption | (refine B0.trans (Below.mono ?_ B0.size); assumption) | refine Below.alloc ?_ (by first | omega | (simp; done) | (simp; omega)) _ | refine Below.drew ?_ | refine Below.setCell ?_ (by first | omega | (simp; done) | (simp; omega)) _))); rintro e w1 ⟨rfl, hb1⟩; have hB1 : Below wc.heap.size wc w1 := Below.trans (by repeat' (first | exact Below.refl _ _ | assumption | refine Below.alloc ?_ (by first | omega | (simp; done) | (simp; omega)) _ | refine Below.drew ?_ | refine Below.setCell ?_ (by first | omega | (simp; done) | (simp; omega)) _)) (hb1.mono (by first | omega | (simp; done) | (simp; omega))); have hz1 := hB1.size; obtain ⟨q1_0, q1_1, q1_2, q1_3, q1_4⟩ := KP.out w1 hB1; clear hb1)
          | (go_at_call 166; (with_reducible refine (IS _).mono ?_); rintro e w2 ⟨rfl, hb2⟩; have hB2 : Below wc.heap.size wc w2 := Below.trans (by repeat' (first | exact Below.refl _ _ | assumption | refine Below.alloc ?_ (by first | omega | (simp; done) | (simp; omega)) _ | refine Below.drew ?_ | refine Below.setCell ?_ (by first | omega | (simp; done) | (simp; omega)) _)) (hb2.mono (by first | omega | (simp; done) | (simp; omega))); have hz2 := hB2.size; obtain ⟨q2_0, q2_1, q2_2, q2_3, q2_4⟩ := KP.out w2 hB2; clear hb2)
          | (go_at_call 168; (with_reducible refine (ON _).mono ?_); rintro e w3 ⟨rfl, hb3⟩; have hB3 : Below wc.heap.size wc w3 := Below.trans (by repeat' (first | exact Below.refl _ _ | assumption | refine Below.alloc ?_ (by first | omega | (simp; done) | (simp; omega)) _ | refine Below.drew ?_ | refine Below.setCell ?_ (by first | omega | (simp; done) | (simp; omega)) _)) (hb3.mono (by first | omega | (simp; done) | (simp; omega))); have hz3 := hB3.size; obtain ⟨q3_0, q3_1, q3_2, q3_3, q3_4⟩ := KP.out w3 hB3; clear hb3)
          | (go_at_call 167; (with_reducible refine (HA _ ?_).mono ?_); (focus (repeat' (first | exact Below.refl _ _ | assumption | (refine B0.trans (Below.mono ?_ B0.size); assumption) | refine Below.alloc ?_ (by first | omega | (simp; done) | (simp; omega)) _ | refine Below.drew ?_ | refine Below.setCell ?_ (by first | omega | (simp; done) | (simp; omega)) _))); rintro e w' ⟨rfl, rfl⟩))
        go_ret
        exact ⟨endInt HV.out.symm, by repeat' (first | exact Below.refl _ _ | assumption | (refine B0.trans (Below.mono ?_ B0.size); assumption) | refine Below.alloc ?_ (by first | omega | (simp; done) | (simp; omega)) _ | refine Below.drew ?_ | refine Below.setCell ?_ (by first | omega | (simp; done) | (simp; omega)) _)⟩
      · have HV := Lib.hid (show l11C a ls lt x y slide s = 2 by rw [HV0.out, if_pos (by rw [g1, g2]; rfl), if_neg g3])
        rw [show decide (s ∈ onScales slide ls lt) = false from decide_eq_false g3] at HA
        generalize hsl : (if slide = true then Value.slice At nt ct else Value.slice As ns cs) = sl at *
        clear hsl g1 g2 g3 HV0
        go_enter Try.func123, Try.ntmps123
        go_upto_region 0 with fail
        go_cut [4, 5, 8] (fun s4 s5 s8 wx => s4 = .pointer (some ⟨w.heap.size, 0, none⟩) ∧ s5 = .pointer (some ⟨w.heap.size + 1, 0, none⟩) ∧ s8 = .int .i64 0 ∧ wx.cell? ⟨w.heap.size, 0, none⟩ = some (.int .i64 a) ∧ wx.cell? ⟨w.heap.size, 1, none⟩ = some (.slice As ns cs) ∧ wx.cell? ⟨w.heap.size, 2, none⟩ = some (.slice At nt ct) ∧ wx.cell? ⟨(w.heap.size + 1), 0, none⟩ = some (.int .i64 x) ∧ wx.cell? ⟨(w.heap.size + 1), 1, none⟩ = some (.int .i64 y) ∧ (w.heap.size + 1) < wx.heap.size ∧ Below w.heap.size w wx)
        case first =>
          go_wp2_with fail
          go_meet
          refine ⟨rfl, rfl, rfl, ?_, ?_, ?_, ?_, ?_, ?_, by repeat' (first | exact Below.refl _ _ | assumption | refine Below.alloc ?_ (by first | omega | (simp; done) | (simp; omega)) _ | refine Below.drew ?_ | refine Below.setCell ?_ (by first | omega | (simp; done) | (simp; omega)) _)⟩
          all_goals (first | omega | (simp [go_sem]; done) | (simp; omega))
        case rest =>
        obtain ⟨rfl, rfl, rfl, c0, c1, c2, c3, c4, hl, B0⟩ := hcut
        have KP := Lib.hid (show ∀ W : World, Below wc.heap.size wc W → W.cell? ⟨w.heap.size, 0, none⟩ = some (.int .i64 a) ∧ W.cell? ⟨w.heap.size, 1, none⟩ = some (.slice As ns cs) ∧ W.cell? ⟨w.heap.size, 2, none⟩ = some (.slice At nt ct) ∧ W.cell? ⟨(w.heap.size + 1), 0, none⟩ = some (.int .i64 x) ∧ W.cell? ⟨(w.heap.size + 1), 1, none⟩ = some (.int .i64 y) from fun W hW => ⟨(hW.cell (by first | omega | (simp; done) | (simp; omega))).trans c0, (hW.cell (by first | omega | (simp; done) | (simp; omega))).trans c1, (hW.cell (by first | omega | (simp; done) | (simp; omega))).trans c2, (hW.cell (by first | omega | (simp; done) | (simp; omega))).trans c3, (hW.cell (by first | omega | (simp; done) | (simp; omega))).trans c4⟩)
        go_wp2_with (first
          | (go_at_call 165; (with_reducible refine (IR _ ?_).mono ?_); (focus (repeat' (first | exact Below.refl _ _ | assumption | (refine B0.trans (Below.mono ?_ B0.size); assumption) | refine Below.alloc ?_ (by first | omega | (simp; done) | (simp; omega)) _ | refine Below.drew ?_ | refine Below.setCell ?_ (by first | omega | (simp; done) | (simp; omega)) _))); rintro e w1 ⟨rfl, hb1⟩; have hB1 : Below wc.heap.size wc w1 := Below.trans (by repeat' (first | exact Below.refl _ _ | assumption | refine Below.alloc ?_ (by first | omega | (simp; done) | (simp; omega)) _ | refine Below.drew ?_ | refine Below.setCell ?_ (by first | omega | (simp; done) | (simp; omega)) _)) (hb1.mono (by first | omega | (simp; done) | (simp; omega))); have hz1 := hB1.size; obtain ⟨q1_0, q1_1, q1_2, q1_3, q1_4⟩ := KP.out w1 hB1; clear hb1)
          | (go_at_call 166; (with_reducible refine (IS _).mono ?_); rintro e w2 ⟨rfl, hb2⟩; have hB2 : Below wc.heap.size wc w2 := Below.trans (by repeat' (first | exact Below.refl _ _ | assumption | refine Below.alloc ?_ (by first | omega | (simp; done) | (simp; omega)) _ | refine Below.drew ?_ | refine Below.setCell ?_ (by first | omega | (simp; done) | (simp; omega)) _)) (hb2.mono (by first | omega | (simp; done) | (simp; omega))); have hz2 := hB2.size; obtain ⟨q2_0, q2_1, q2_2, q2_3, q2_4⟩ := KP.out w2 hB2; clear hb2)
          | (go_at_call 168; (with_reducible refine (ON _).mono ?_); rintro e w3 ⟨rfl, hb3⟩; have hB3 : Below wc.heap.size wc w3 := Below.trans (by repeat' (first | exact Below.refl _ _ | assumption | refine Below.alloc ?_ (by first | omega | (simp; done) | (simp; omega)) _ | refine Below.drew ?_ | refine Below.setCell ?_ (by first | omega | (simp; done) | (simp; omega)) _)) (hb3.mono (by first | omega | (simp; done) | (simp; omega))); have hz3 := hB3.size; obtain ⟨q3_0, q3_1, q3_2, q3_3, q3_4⟩ := KP.out w3 hB3; clear hb3)
          | (go_at_call 167; (with_reducible refine (HA _ ?_).mono ?_); (focus (repeat' (first | exact Below.refl _ _ | assumption | (refine B0.trans (Below.mono ?_ B0.size); assumption) | refine Below.alloc ?_ (by first | omega | (simp; done) | (simp; omega)) _ | refine Below.drew ?_ | refine Below.setCell ?_ (by first | omega | (simp; done) | (simp; omega)) _))); rintro e w' ⟨rfl, rfl⟩))
        go_ret
        exact ⟨endInt HV.out.symm, by repeat' (first | exact Below.refl _ _ | assumption | (refine B0.trans (Below.mono ?_ B0.size); assumption) | refine Below.alloc ?_ (by first | omega | (simp; done) | (simp; omega)) _ | refine Below.drew ?_ | refine Below.setCell ?_ (by first | omega | (simp; done) | (simp; omega)) _)⟩
    · have HV := Lib.hid (show l11C a ls lt x y slide s = 1 by rw [HV0.out, if_neg (by simp [g2])])
      have g2' : setB x y = false := by simpa using g2
      rw [g2'] at IS
      clear g1 g2 g2' HV0 HA ON
      go_enter Try.func123, Try.ntmps123
      go_upto_region 0 with fail
      go_cut [4, 5, 8] (fun s4 s5 s8 wx => s4 = .pointer (some ⟨w.heap.size, 0, none⟩) ∧ s5 = .pointer (some ⟨w.heap.size + 1, 0, none⟩) ∧ s8 = .int .i64 0 ∧ wx.cell? ⟨w.heap.size, 0, none⟩ = some (.int .i64 a) ∧ wx.cell? ⟨w.heap.size, 1, none⟩ = some (.slice As ns cs) ∧ wx.cell? ⟨w.heap.size, 2, none⟩ = some (.slice At nt ct) ∧ wx.cell? ⟨(w.heap.size + 1), 0, none⟩ = some (.int .i64 x) ∧ wx.cell? ⟨(w.heap.size + 1), 1, none⟩ = some (.int .i64 y) ∧ (w.heap.size + 1) < wx.heap.size ∧ Below w.heap.size w wx)
      case first =>
        go_wp2_with fail
        go_meet
        refine ⟨rfl, rfl, rfl, ?_, ?_, ?_, ?_, ?_, ?_, by repeat' (first | exact Below.refl _ _ | assumption | refine Below.alloc ?_ (by first | omega | (simp; done) | (simp; omega)) _ | refine Below.drew ?_ | refine Below.setCell ?_ (by first | omega | (simp; done) | (simp; omega)) _)⟩
        all_goals (first | omega | (simp [go_sem]; done) | (simp; omega))
      case rest =>
      obtain ⟨rfl, rfl, rfl, c0, c1, c2, c3, c4, hl, B0⟩ := hcut
      have KP := Lib.hid (show ∀ W : World, Below wc.heap.size wc W → W.cell? ⟨w.heap.size, 0, none⟩ = some (.int .i64 a) ∧ W.cell? ⟨w.heap.size, 1, none⟩ = some (.slice As ns cs) ∧ W.cell? ⟨w.heap.size, 2, none⟩ = some (.slice At nt ct) ∧ W.cell? ⟨(w.heap.size + 1), 0, none⟩ = some (.int .i64 x) ∧ W.cell? ⟨(w.heap.size + 1), 1, none⟩ = some (.int .i64 y) from fun W hW => ⟨(hW.cell (by first | omega | (simp; done) | (simp; omega))).trans c0, (hW.cell (by first | omega | (simp; done) | (simp; omega))).trans c1, (hW.cell (by first | omega | (simp; done) | (simp; omega))).trans c2, (hW.cell (by first | omega | (simp; done) | (simp; omega))).trans c3, (hW.cell (by first | omega | (simp; done) | (simp; omega))).trans c4⟩)
      go_wp2_with (first
        | (go_at_call 165; (with_reducible refine (IR _ ?_).mono ?_); (focus (repeat' (first | exact Below.refl _ _ | assumption | (refine B0.trans (Below.mono ?_ B0.size); assumption) | refine Below.alloc ?_ (by first | omega | (simp; done) | (simp; omega)) _ | refine Below.drew ?_ | refine Below.setCell ?_ (by first | omega | (simp; done) | (simp; omega)) _))); rintro e w1 ⟨rfl, hb1⟩; have hB1 : Below wc.heap.size wc w1 := Below.trans (by repeat' (first | exact Below.refl _ _ | assumption | refine Below.alloc ?_ (by first | omega | (simp; done) | (simp; omega)) _ | refine Below.drew ?_ | refine Below.setCell ?_ (by first | omega | (simp; done) | (simp; omega)) _)) (hb1.mono (by first | omega | (simp; done) | (simp; omega))); have hz1 := hB1.size; obtain ⟨q1_0, q1_1, q1_2, q1_3, q1_4⟩ := KP.out w1 hB1; clear hb1)
        | (go_at_call 166; (with_reducible refine (IS _).mono ?_); rintro e w2 ⟨rfl, hb2⟩; have hB2 : Below wc.heap.size wc w2 := Below.trans (by repeat' (first | exact Below.refl _ _ | assumption | refine Below.alloc ?_ (by first | omega | (simp; done) | (simp; omega)) _ | refine Below.drew ?_ | refine Below.setCell ?_ (by first | omega | (simp; done) | (simp; omega)) _)) (hb2.mono (by first | omega | (simp; done) | (simp; omega))); have hz2 := hB2.size; obtain ⟨q2_0, q2_1, q2_2, q2_3, q2_4⟩ := KP.out w2 hB2; clear hb2))
      go_ret
      exact ⟨endInt HV.out.symm, by repeat' (first | exact Below.refl _ _ | assumption | (refine B0.trans (Below.mono ?_ B0.size); assumption) | refine Below.alloc ?_ (by first | omega | (simp; done) | (simp; omega)) _ | refine Below.drew ?_ | refine Below.setCell ?_ (by first | omega | (simp; done) | (simp; omega)) _)⟩
  · have HV := Lib.hid (show l11C a ls lt x y slide s = 1 by rw [HV0.out, if_neg (by simp [g1])])
    have g1' : ruleB a ls lt = false := by simpa using g1
    rw [g1'] at IR
    clear g1 g1' HV0 HA ON IS
    go_enter Try.func123, Try.ntmps123
    go_upto_region 0 with fail
    go_cut [4, 5, 8] (fun s4 s5 s8 wx => s4 = .pointer (some ⟨w.heap.size, 0, none⟩) ∧ s5 = .pointer (some ⟨w.heap.size + 1, 0, none⟩) ∧ s8 = .int .i64 0 ∧ wx.cell? ⟨w.heap.size, 0, none⟩ = some (.int .i64 a) ∧ wx.cell? ⟨w.heap.size, 1, none⟩ = some (.slice As ns cs) ∧ wx.cell? ⟨w.heap.size, 2, none⟩ = some (.slice At nt ct) ∧ wx.cell? ⟨(w.heap.size + 1), 0, none⟩ = some (.int .i64 x) ∧ wx.cell? ⟨(w.heap.size + 1), 1, none⟩ = some (.int .i64 y) ∧ (w.heap.size + 1) < wx.heap.size ∧ Below w.heap.size w wx)
    case first =>
      go_wp2_with fail
      go_meet
      refine ⟨rfl, rfl, rfl, ?_, ?_, ?_, ?_, ?_, ?_, by repeat' (first | exact Below.refl _ _ | assumption | refine Below.alloc ?_ (by first | omega | (simp; done) | (simp; omega)) _ | refine Below.drew ?_ | refine Below.setCell ?_ (by first | omega | (simp; done) | (simp; omega)) _)⟩
      all_goals (first | omega | (simp [go_sem]; done) | (simp; omega))
    case rest =>
    obtain ⟨rfl, rfl, rfl, c0, c1, c2, c3, c4, hl, B0⟩ := hcut
    have KP := Lib.hid (show ∀ W : World, Below wc.heap.size wc W → W.cell? ⟨w.heap.size, 0, none⟩ = some (.int .i64 a) ∧ W.cell? ⟨w.heap.size, 1, none⟩ = some (.slice As ns cs) ∧ W.cell? ⟨w.heap.size, 2, none⟩ = some (.slice At nt ct) ∧ W.cell? ⟨(w.heap.size + 1), 0, none⟩ = some (.int .i64 x) ∧ W.cell? ⟨(w.heap.size + 1), 1, none⟩ = some (.int .i64 y) from fun W hW => ⟨(hW.cell (by first | omega | (simp; done) | (simp; omega))).trans c0, (hW.cell (by first | omega | (simp; done) | (simp; omega))).trans c1, (hW.cell (by first | omega | (simp; done) | (simp; omega))).trans c2, (hW.cell (by first | omega | (simp; done) | (simp; omega))).trans c3, (hW.cell (by first | omega | (simp; done) | (simp; omega))).trans c4⟩)
    go_wp2_with (first
      | (go_at_call 165; (with_reducible refine (IR _ ?_).mono ?_); (focus (repeat' (first | exact Below.refl _ _ | assumption | (refine B0.trans (Below.mono ?_ B0.size); assumption) | refine Below.alloc ?_ (by first | omega | (simp; done) | (simp; omega)) _ | refine Below.drew ?_ | refine Below.setCell ?_ (by first | omega | (simp; done) | (simp; omega)) _))); rintro e w1 ⟨rfl, hb1⟩; have hB1 : Below wc.heap.size wc w1 := Below.trans (by repeat' (first | exact Below.refl _ _ | assumption | refine Below.alloc ?_ (by first | omega | (simp; done) | (simp; omega)) _ | refine Below.drew ?_ | refine Below.setCell ?_ (by first | omega | (simp; done) | (simp; omega)) _)) (hb1.mono (by first | omega | (simp; done) | (simp; omega))); have hz1 := hB1.size; obtain ⟨q1_0, q1_1, q1_2, q1_3, q1_4⟩ := KP.out w1 hB1; clear hb1))
    go_ret
    exact ⟨endInt HV.out.symm, by repeat' (first | exact Below.refl _ _ | assumption | (refine B0.trans (Below.mono ?_ B0.size); assumption) | refine Below.alloc ?_ (by first | omega | (simp; done) | (simp; omega)) _ | refine Below.drew ?_ | refine Below.setCell ?_ (by first | omega | (simp; done) | (simp; omega)) _)⟩
def rSlide (a : Int) (ls lt : List Int) (x y s d t : Int) : (Int × Int) × Int := if figB d t = true then (if l11C a ls lt x y true s = 0 then rValid (y - ptOf s d t) y else ((0, 0), l11C a ls lt x y true s)) else ((0, 0), 1)
def rCursor (a : Int) (ls lt : List Int) (x y : Int) (slide : Bool) (s d t : Int) : (Int × Int) × Int := if figB d t = true then (if l11C a ls lt x y slide s = 0 then rValid x (if slide = true then ptOf s d t + x else ptOf s d t) else ((0, 0), l11C a ls lt x y slide s)) else ((0, 0), 1)
theorem l11C_0 {a : Int} {ls lt : List Int} {x y : Int} {slide : Bool} {s : Int} (h1 : ruleB a ls lt = true) (h2 : setB x y = true) (h3 : s ∈ onScales slide ls lt) : l11C a ls lt x y slide s = 0 := by rw [l11C, if_pos (by rw [h1, h2]; rfl), if_pos h3]
theorem l11C_2 {a : Int} {ls lt : List Int} {x y : Int} {slide : Bool} {s : Int} (h1 : ruleB a ls lt = true) (h2 : setB x y = true) (h3 : ¬ s ∈ onScales slide ls lt) : l11C a ls lt x y slide s = 2 := by rw [l11C, if_pos (by rw [h1, h2]; rfl), if_neg h3]
theorem l11C_1 {a : Int} {ls lt : List Int} {x y : Int} {slide : Bool} {s : Int} (h : ruleB a ls lt = false ∨ setB x y = false) : l11C a ls lt x y slide s = 1 := by rw [l11C, if_neg (by rcases h with h | h <;> simp [h])]
theorem l11C_zero {a : Int} {ls lt : List Int} {x y : Int} {slide : Bool} {s : Int} (h : l11C a ls lt x y slide s = 0) : setB x y = true := by
  unfold l11C at h
  split at h
  · rename_i hh
    simp only [Bool.and_eq_true] at hh
    exact hh.2
  · cases h
theorem setB_arith {x y p : Int} (h : setB x y = true) (h1 : -1 ≤ p) (h2 : p ≤ 2097152) : (-1048576 ≤ x ∧ x ≤ 1048576) ∧ 0 ≤ y ∧ y ≤ 1048576 := setB_iff.1 h
end Go.Proofs.Ythnjiiodpjielaa
