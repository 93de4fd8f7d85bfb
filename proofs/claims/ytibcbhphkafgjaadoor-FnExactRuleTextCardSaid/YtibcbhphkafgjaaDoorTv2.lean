/- RuleText of both (layer 11). No condition but the table. -/
import Derived.Test.YtibcbhphkafgjaaDoorTv
import Derived.Deep.RegionHeld3
import Derived.Deep.RegionWith
import Derived.Deep.DeepCutAuto
namespace Go.Proofs.YtibcbhphkafgjaaDoor
open Go.RowKit
set_option linter.unusedVariables false
set_option linter.unusedSimpArgs false

theorem catFive (d x y : List UInt8) : ((((⟨d.toArray⟩ : ByteArray) ++ ⟨#[32]⟩) ++ ⟨x.toArray⟩) ++ ⟨#[32]⟩) ++ ⟨y.toArray⟩ = ⟨((((d ++ [32]) ++ x) ++ [32]) ++ y).toArray⟩ := by
  rw [← bytesCat, ← bytesCat, ← bytesCat, ← bytesCat]
set_option maxRecDepth 100000 in
set_option maxHeartbeats 8000000 in
theorem sRuleText_any (a : Int) (As : Option Addr) (ns cs : Nat) (ls : List Int) (At : Option Addr) (nt ct : Nat) (lt : List Int) (w : World) (hls : ls.length = ns) (hcs : ns ≤ cs) (hns : ns ≤ 1048576) (hrs : Sees w w.heap.size As (ls.map (Value.int .i64))) (hlt : lt.length = nt) (hct : nt ≤ ct) (hnt : nt ≤ 1048576) (hrt : Sees w w.heap.size At (lt.map (Value.int .i64))) :
    Calls Tryd.prog 13 #[.agg #[.int .i64 a, .slice As ns cs, .slice At nt ct]] w fun e w' => e = .returned (.tuple #[.string ⟨(rRText a ls lt).1.toArray⟩, .int .i64 (rRText a ls lt).2]) ∧ Below w.heap.size w w' := by
  by_cases h : ruleB a ls lt = true
  · obtain ⟨⟨ha1, ha2⟩, hsc, htc⟩ := rule_of h
    obtain ⟨m, rfl⟩ : ∃ m : Nat, a = (m : Int) := ⟨a.toNat, by omega⟩
    have Hv := Lib.hid (show rRText (m : Int) ls lt = (ruleT (m : Int) ls lt, 0) by rw [rRText, if_pos h])
    have HB := Lib.hid h
    clear h
    go_enter Tryd.func13, Tryd.ntmps13
    go_upto_region 0 with fail
    go_cut [1] (fun s1 wx => s1 = .pointer (some ⟨w.heap.size, 0, none⟩) ∧ wx.cell? ⟨w.heap.size, 0, none⟩ = some (.int .i64 (m : Int)) ∧ wx.cell? ⟨w.heap.size, 1, none⟩ = some (.slice As ns cs) ∧ wx.cell? ⟨w.heap.size, 2, none⟩ = some (.slice At nt ct) ∧ w.heap.size < wx.heap.size ∧ Below w.heap.size w wx)
    case first =>
      go_wp2_with fail
      go_meet
      refine ⟨rfl, ?_, ?_, ?_, by simp, by repeat' (first | (with_reducible exact Below.refl _ _) | (with_reducible assumption) | (with_reducible refine Below.alloc ?_ ?_ _) | (with_reducible refine Below.drew ?_) | (with_reducible refine belowDraws ?_ _) | (with_reducible refine Below.setCell ?_ ?_ _) | omega | (simp; done) | (simp; omega))⟩
      all_goals simp [go_sem]
    case rest =>
    obtain ⟨rfl, c0, c1, c2, hl0, B0⟩ := hcut
    obtain ⟨w0, rfl⟩ : ∃ w0 : World, w0 = wc := ⟨_, rfl⟩
    have KP := Lib.hid (show ∀ W : World, Below w0.heap.size w0 W → W.cell? ⟨w.heap.size, 0, none⟩ = some (.int .i64 (m : Int)) ∧ W.cell? ⟨w.heap.size, 1, none⟩ = some (.slice As ns cs) ∧ W.cell? ⟨w.heap.size, 2, none⟩ = some (.slice At nt ct) from fun W hW => ⟨(hW.cell (by first | omega | (simp; done) | (simp; omega))).trans c0, (hW.cell (by first | omega | (simp; done) | (simp; omega))).trans c1, (hW.cell (by first | omega | (simp; done) | (simp; omega))).trans c2⟩)
    have C0 := fun (W : World) (hB : Below w.heap.size w W) => sIsRule_any (m : Int) As ns cs ls At nt ct lt W hls hcs hns ((hrs.over hB).wider hB.size) hlt hct hnt ((hrt.over hB).wider hB.size)
    rw [HB.out] at C0
    go_wp2_with fail
    refine (C0 _ B0).mono ?_
    rintro e wq ⟨rfl, hbq⟩
    obtain ⟨c3, c4, c5⟩ := KP.out wq hbq
    replace B0 : Below w.heap.size w wq := B0.trans (hbq.mono B0.size)
    have hlq : w.heap.size < wq.heap.size := Nat.lt_of_lt_of_le hl0 hbq.size
    clear KP c0 c1 c2 hl0 hbq C0
    have KP := Lib.hid (show ∀ W : World, Below wq.heap.size wq W → W.cell? ⟨w.heap.size, 0, none⟩ = some (.int .i64 (m : Int)) ∧ W.cell? ⟨w.heap.size, 1, none⟩ = some (.slice As ns cs) ∧ W.cell? ⟨w.heap.size, 2, none⟩ = some (.slice At nt ct) from fun W hW => ⟨(hW.cell (by first | omega | (simp; done) | (simp; omega))).trans c3, (hW.cell (by first | omega | (simp; done) | (simp; omega))).trans c4, (hW.cell (by first | omega | (simp; done) | (simp; omega))).trans c5⟩)
    have C1 := fun (W : World) (hB : Below wq.heap.size wq W) => l11Text_any m As ns cs ls At nt ct lt W hls hns ((hrs.over (B0.trans (hB.mono B0.size))).wider (Nat.le_trans B0.size hB.size)) hlt hnt ((hrt.over (B0.trans (hB.mono B0.size))).wider (Nat.le_trans B0.size hB.size)) (by omega) hsc htc
    clear hsc htc hls hlt hrs hrt
    go_wp2_with fail
    refine (C1 _ (Below.refl _ _)).mono ?_
    rintro e w2 ⟨rfl, hb2⟩
    go_wp2_with fail
    go_ret2
    exact ⟨endTxt' Hv.out, B0.trans (hb2.mono B0.size)⟩
  · have Hv := Lib.hid (show rRText a ls lt = ([], 1) by rw [rRText, if_neg h])
    have HB := Lib.hid (show ruleB a ls lt = false by simpa using h)
    clear h
    go_enter Tryd.func13, Tryd.ntmps13
    go_upto_region 0 with fail
    go_cut [1] (fun s1 wx => s1 = .pointer (some ⟨w.heap.size, 0, none⟩) ∧ wx.cell? ⟨w.heap.size, 0, none⟩ = some (.int .i64 a) ∧ wx.cell? ⟨w.heap.size, 1, none⟩ = some (.slice As ns cs) ∧ wx.cell? ⟨w.heap.size, 2, none⟩ = some (.slice At nt ct) ∧ w.heap.size < wx.heap.size ∧ Below w.heap.size w wx)
    case first =>
      go_wp2_with fail
      go_meet
      refine ⟨rfl, ?_, ?_, ?_, by simp, by repeat' (first | (with_reducible exact Below.refl _ _) | (with_reducible assumption) | (with_reducible refine Below.alloc ?_ ?_ _) | (with_reducible refine Below.drew ?_) | (with_reducible refine belowDraws ?_ _) | (with_reducible refine Below.setCell ?_ ?_ _) | omega | (simp; done) | (simp; omega))⟩
      all_goals simp [go_sem]
    case rest =>
    obtain ⟨rfl, c0, c1, c2, hl0, B0⟩ := hcut
    obtain ⟨w0, rfl⟩ : ∃ w0 : World, w0 = wc := ⟨_, rfl⟩
    have KP := Lib.hid (show ∀ W : World, Below w0.heap.size w0 W → W.cell? ⟨w.heap.size, 0, none⟩ = some (.int .i64 a) ∧ W.cell? ⟨w.heap.size, 1, none⟩ = some (.slice As ns cs) ∧ W.cell? ⟨w.heap.size, 2, none⟩ = some (.slice At nt ct) from fun W hW => ⟨(hW.cell (by first | omega | (simp; done) | (simp; omega))).trans c0, (hW.cell (by first | omega | (simp; done) | (simp; omega))).trans c1, (hW.cell (by first | omega | (simp; done) | (simp; omega))).trans c2⟩)
    have C0 := fun (W : World) (hB : Below w.heap.size w W) => sIsRule_any a As ns cs ls At nt ct lt W hls hcs hns ((hrs.over hB).wider hB.size) hlt hct hnt ((hrt.over hB).wider hB.size)
    rw [HB.out] at C0
    go_wp2_with fail
    refine (C0 _ B0).mono ?_
    rintro e wq ⟨rfl, hbq⟩
    obtain ⟨c3, c4, c5⟩ := KP.out wq hbq
    replace B0 : Below w.heap.size w wq := B0.trans (hbq.mono B0.size)
    have hlq : w.heap.size < wq.heap.size := Nat.lt_of_lt_of_le hl0 hbq.size
    clear KP c0 c1 c2 hl0 hbq C0
    go_wp2_with fail
    go_ret2
    exact ⟨endTxt' Hv.out, B0⟩
set_option maxRecDepth 100000 in
set_option maxHeartbeats 8000000 in
theorem iRuleText_any (a : Int) (As : Option Addr) (ns cs : Nat) (ls : List Int) (At : Option Addr) (nt ct : Nat) (lt : List Int) (w : World) (hls : ls.length = ns) (hcs : ns ≤ cs) (hns : ns ≤ 1048576) (hrs : Sees w w.heap.size As (ls.map (Value.int .i64))) (hlt : lt.length = nt) (hct : nt ≤ ct) (hnt : nt ≤ 1048576) (hrt : Sees w w.heap.size At (lt.map (Value.int .i64))) (hT : TabT w) :
    Calls Tryd.prog 15 #[.agg #[.int .i64 a, .slice As ns cs, .slice At nt ct]] w fun e w' => e = .returned (.tuple #[.string ⟨(rRText a ls lt).1.toArray⟩, .int .i64 (rRText a ls lt).2]) ∧ Below w.heap.size w w' := by
  by_cases h : ruleB a ls lt = true
  · obtain ⟨⟨ha1, ha2⟩, hsc, htc⟩ := rule_of h
    obtain ⟨m, rfl⟩ : ∃ m : Nat, a = (m : Int) := ⟨a.toNat, by omega⟩
    have Hv := Lib.hid (show rRText (m : Int) ls lt = (ruleT (m : Int) ls lt, 0) by rw [rRText, if_pos h])
    have HB := Lib.hid h
    clear h
    go_enter Tryd.func15, Tryd.ntmps15
    go_upto_region 0 with fail
    go_cut [1] (fun s1 wx => s1 = .pointer (some ⟨w.heap.size, 0, none⟩) ∧ wx.cell? ⟨w.heap.size, 0, none⟩ = some (.int .i64 (m : Int)) ∧ wx.cell? ⟨w.heap.size, 1, none⟩ = some (.slice As ns cs) ∧ wx.cell? ⟨w.heap.size, 2, none⟩ = some (.slice At nt ct) ∧ w.heap.size < wx.heap.size ∧ Below w.heap.size w wx)
    case first =>
      go_wp2_with fail
      go_meet
      refine ⟨rfl, ?_, ?_, ?_, by simp, by repeat' (first | (with_reducible exact Below.refl _ _) | (with_reducible assumption) | (with_reducible refine Below.alloc ?_ ?_ _) | (with_reducible refine Below.drew ?_) | (with_reducible refine belowDraws ?_ _) | (with_reducible refine Below.setCell ?_ ?_ _) | omega | (simp; done) | (simp; omega))⟩
      all_goals simp [go_sem]
    case rest =>
    obtain ⟨rfl, c0, c1, c2, hl0, B0⟩ := hcut
    obtain ⟨w0, rfl⟩ : ∃ w0 : World, w0 = wc := ⟨_, rfl⟩
    have KP := Lib.hid (show ∀ W : World, Below w0.heap.size w0 W → W.cell? ⟨w.heap.size, 0, none⟩ = some (.int .i64 (m : Int)) ∧ W.cell? ⟨w.heap.size, 1, none⟩ = some (.slice As ns cs) ∧ W.cell? ⟨w.heap.size, 2, none⟩ = some (.slice At nt ct) from fun W hW => ⟨(hW.cell (by first | omega | (simp; done) | (simp; omega))).trans c0, (hW.cell (by first | omega | (simp; done) | (simp; omega))).trans c1, (hW.cell (by first | omega | (simp; done) | (simp; omega))).trans c2⟩)
    have C0 := fun (W : World) (hB : Below w.heap.size w W) => iIsRule_any (m : Int) As ns cs ls At nt ct lt W hls hcs hns ((hrs.over hB).wider hB.size) hlt hct hnt ((hrt.over hB).wider hB.size)
    rw [HB.out] at C0
    go_wp2_with fail
    refine (C0 _ B0).mono ?_
    rintro e wq ⟨rfl, hbq⟩
    obtain ⟨c3, c4, c5⟩ := KP.out wq hbq
    replace B0 : Below w.heap.size w wq := B0.trans (hbq.mono B0.size)
    have hlq : w.heap.size < wq.heap.size := Nat.lt_of_lt_of_le hl0 hbq.size
    clear KP c0 c1 c2 hl0 hbq C0
    have KP := Lib.hid (show ∀ W : World, Below wq.heap.size wq W → W.cell? ⟨w.heap.size, 0, none⟩ = some (.int .i64 (m : Int)) ∧ W.cell? ⟨w.heap.size, 1, none⟩ = some (.slice As ns cs) ∧ W.cell? ⟨w.heap.size, 2, none⟩ = some (.slice At nt ct) from fun W hW => ⟨(hW.cell (by first | omega | (simp; done) | (simp; omega))).trans c3, (hW.cell (by first | omega | (simp; done) | (simp; omega))).trans c4, (hW.cell (by first | omega | (simp; done) | (simp; omega))).trans c5⟩)
    have HD := Lib.hid (show ruleT (m : Int) ls lt = (((Lib.itoa (m : Int) ++ [32]) ++ namesT ls) ++ [32]) ++ namesT lt from rfl)
    have hd := Lib.itoa_length_le (m : Int) (by omega) (by omega)
    have hx := names_short hsc
    have hy := names_short htc
    have C1 := fun (W : World) (hB : Below wq.heap.size wq W) => decI_any (m : Int) W (by omega) (by omega) ((hT.over B0).over hB)
    have C2 := fun (W : World) (hB : Below wq.heap.size wq W) => namesOf_any As ns cs ls W hls ((hrs.over (B0.trans (hB.mono B0.size))).wider (Nat.le_trans B0.size hB.size)) hsc
    have C3 := fun (W : World) (hB : Below wq.heap.size wq W) => namesOf_any At nt ct lt W hlt ((hrt.over (B0.trans (hB.mono B0.size))).wider (Nat.le_trans B0.size hB.size)) htc
    obtain ⟨d, ed⟩ : ∃ d, Lib.itoa (m : Int) = d := ⟨_, rfl⟩
    obtain ⟨x, ex⟩ : ∃ x, namesT ls = x := ⟨_, rfl⟩
    obtain ⟨y, ey⟩ : ∃ y, namesT lt = y := ⟨_, rfl⟩
    rw [ed] at C1 HD hd
    rw [ex] at C2 HD hx
    rw [ey] at C3 HD hy
    rw [HD.out] at Hv
    have k1 := fun W => run_string_add_sum (P := Tryd.prog) (w := W) ⟨d.toArray⟩ ⟨#[32]⟩ (by rw [bytesSize]; show d.length + 1 ≤ _; omega)
    have k2 := fun W => run_string_add_sum (P := Tryd.prog) (w := W) (⟨d.toArray⟩ ++ ⟨#[32]⟩) ⟨x.toArray⟩ (by rw [ByteArray.size_append, bytesSize, bytesSize]; show d.length + 1 + x.length ≤ _; omega)
    have k3 := fun W => run_string_add_sum (P := Tryd.prog) (w := W) ((⟨d.toArray⟩ ++ ⟨#[32]⟩) ++ ⟨x.toArray⟩) ⟨#[32]⟩ (by rw [ByteArray.size_append, ByteArray.size_append, bytesSize, bytesSize]; show d.length + 1 + x.length + 1 ≤ _; omega)
    have k4 := fun W => run_string_add_sum (P := Tryd.prog) (w := W) (((⟨d.toArray⟩ ++ ⟨#[32]⟩) ++ ⟨x.toArray⟩) ++ ⟨#[32]⟩) ⟨y.toArray⟩ (by rw [ByteArray.size_append, ByteArray.size_append, ByteArray.size_append, bytesSize, bytesSize, bytesSize]; show d.length + 1 + x.length + 1 + y.length ≤ _; omega)
    clear ed ex ey hd hx hy hsc htc hls hlt hrs hrt HD hT
    go_wp2_with fail
    go_region_with (first
      | (go_at_call 36; (with_reducible refine (C1 _ ?_).mono ?_); (focus (repeat' (first | exact Below.refl _ _ | assumption | refine Below.alloc ?_ (by first | omega | (simp; done) | (simp; omega)) _ | refine Below.drew ?_ | refine Below.setCell ?_ (by first | omega | (simp; done) | (simp; omega)) _))); rintro e w1 ⟨rfl, hb1⟩; have hB1 : Below wq.heap.size wq w1 := Below.trans (by repeat' (first | exact Below.refl _ _ | assumption | refine Below.alloc ?_ (by first | omega | (simp; done) | (simp; omega)) _ | refine Below.drew ?_ | refine Below.setCell ?_ (by first | omega | (simp; done) | (simp; omega)) _)) (hb1.mono (by first | omega | (simp; done) | (simp; omega))); have hz1 := hB1.size; obtain ⟨q1_0, q1_1, q1_2⟩ := KP.out w1 hB1; clear hb1)
      | (go_at_call 37; (with_reducible refine (C2 _ ?_).mono ?_); (focus (repeat' (first | exact Below.refl _ _ | assumption | refine Below.alloc ?_ (by first | omega | (simp; done) | (simp; omega)) _ | refine Below.drew ?_ | refine Below.setCell ?_ (by first | omega | (simp; done) | (simp; omega)) _))); rintro e w2 ⟨rfl, hb2⟩; have hB2 : Below wq.heap.size wq w2 := Below.trans (by repeat' (first | exact Below.refl _ _ | assumption | refine Below.alloc ?_ (by first | omega | (simp; done) | (simp; omega)) _ | refine Below.drew ?_ | refine Below.setCell ?_ (by first | omega | (simp; done) | (simp; omega)) _)) (hb2.mono (by first | omega | (simp; done) | (simp; omega))); have hz2 := hB2.size; obtain ⟨q2_0, q2_1, q2_2⟩ := KP.out w2 hB2; clear hb2)
      | (go_at_call 37; (with_reducible refine (C3 _ ?_).mono ?_); (focus (repeat' (first | exact Below.refl _ _ | assumption | refine Below.alloc ?_ (by first | omega | (simp; done) | (simp; omega)) _ | refine Below.drew ?_ | refine Below.setCell ?_ (by first | omega | (simp; done) | (simp; omega)) _))); rintro e w3 ⟨rfl, hb3⟩; have hB3 : Below wq.heap.size wq w3 := Below.trans (by repeat' (first | exact Below.refl _ _ | assumption | refine Below.alloc ?_ (by first | omega | (simp; done) | (simp; omega)) _ | refine Below.drew ?_ | refine Below.setCell ?_ (by first | omega | (simp; done) | (simp; omega)) _)) (hb3.mono (by first | omega | (simp; done) | (simp; omega))); have hz3 := hB3.size; obtain ⟨q3_0, q3_1, q3_2⟩ := KP.out w3 hB3; clear hb3))
    all_goals go_wp2_with fail
    all_goals go_ret2
    all_goals (refine ⟨(congrArg (fun s => Ending.returned (.tuple #[.string s, .int .i64 0])) (catFive d x y)).trans (endTxt' Hv.out), B0.trans (Below.mono ?_ B0.size)⟩)
    all_goals (repeat' (first | (with_reducible exact Below.refl _ _) | (with_reducible assumption) | (with_reducible refine Below.alloc ?_ ?_ _) | (with_reducible refine Below.drew ?_) | (with_reducible refine belowDraws ?_ _) | (with_reducible refine Below.setCell ?_ ?_ _) | omega | (simp; done) | (simp; omega)))
  · have Hv := Lib.hid (show rRText a ls lt = ([], 1) by rw [rRText, if_neg h])
    have HB := Lib.hid (show ruleB a ls lt = false by simpa using h)
    clear h
    go_enter Tryd.func15, Tryd.ntmps15
    go_upto_region 0 with fail
    go_cut [1] (fun s1 wx => s1 = .pointer (some ⟨w.heap.size, 0, none⟩) ∧ wx.cell? ⟨w.heap.size, 0, none⟩ = some (.int .i64 a) ∧ wx.cell? ⟨w.heap.size, 1, none⟩ = some (.slice As ns cs) ∧ wx.cell? ⟨w.heap.size, 2, none⟩ = some (.slice At nt ct) ∧ w.heap.size < wx.heap.size ∧ Below w.heap.size w wx)
    case first =>
      go_wp2_with fail
      go_meet
      refine ⟨rfl, ?_, ?_, ?_, by simp, by repeat' (first | (with_reducible exact Below.refl _ _) | (with_reducible assumption) | (with_reducible refine Below.alloc ?_ ?_ _) | (with_reducible refine Below.drew ?_) | (with_reducible refine belowDraws ?_ _) | (with_reducible refine Below.setCell ?_ ?_ _) | omega | (simp; done) | (simp; omega))⟩
      all_goals simp [go_sem]
    case rest =>
    obtain ⟨rfl, c0, c1, c2, hl0, B0⟩ := hcut
    obtain ⟨w0, rfl⟩ : ∃ w0 : World, w0 = wc := ⟨_, rfl⟩
    have KP := Lib.hid (show ∀ W : World, Below w0.heap.size w0 W → W.cell? ⟨w.heap.size, 0, none⟩ = some (.int .i64 a) ∧ W.cell? ⟨w.heap.size, 1, none⟩ = some (.slice As ns cs) ∧ W.cell? ⟨w.heap.size, 2, none⟩ = some (.slice At nt ct) from fun W hW => ⟨(hW.cell (by first | omega | (simp; done) | (simp; omega))).trans c0, (hW.cell (by first | omega | (simp; done) | (simp; omega))).trans c1, (hW.cell (by first | omega | (simp; done) | (simp; omega))).trans c2⟩)
    have C0 := fun (W : World) (hB : Below w.heap.size w W) => iIsRule_any a As ns cs ls At nt ct lt W hls hcs hns ((hrs.over hB).wider hB.size) hlt hct hnt ((hrt.over hB).wider hB.size)
    rw [HB.out] at C0
    go_wp2_with fail
    refine (C0 _ B0).mono ?_
    rintro e wq ⟨rfl, hbq⟩
    obtain ⟨c3, c4, c5⟩ := KP.out wq hbq
    replace B0 : Below w.heap.size w wq := B0.trans (hbq.mono B0.size)
    have hlq : w.heap.size < wq.heap.size := Nat.lt_of_lt_of_le hl0 hbq.size
    clear KP c0 c1 c2 hl0 hbq C0
    go_wp2_with fail
    go_ret2
    exact ⟨endTxt' Hv.out, B0⟩
end Go.Proofs.YtibcbhphkafgjaaDoor
