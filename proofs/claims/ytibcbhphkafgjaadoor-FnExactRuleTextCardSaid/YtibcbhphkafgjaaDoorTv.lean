/- RuleText of both, and its law (layer 11). No condition but the table. -/
import Derived.Test.YtibcbhphkafgjaaDoorTu
import Derived.Test.YtibcbhphkafgjaaDoorRule3
import Derived.Deep.RegionHeld3
import Derived.Deep.RegionWith
import Derived.Deep.DeepCutAuto
namespace Go.Proofs.YtibcbhphkafgjaaDoor
open Go.RowKit
set_option linter.unusedVariables false
set_option linter.unusedSimpArgs false

def ruleT (a : Int) (ls lt : List Int) : List UInt8 := (((Lib.itoa a ++ [32]) ++ namesT ls) ++ [32]) ++ namesT lt
def rRText (a : Int) (ls lt : List Int) : List UInt8 × Int := if ruleB a ls lt = true then (ruleT a ls lt, 0) else ([], 1)
theorem endTxt' {p : List UInt8 × Int} {x : List UInt8} {y : Int} (h : p = (x, y)) : Ending.returned (.tuple #[.string ⟨x.toArray⟩, .int .i64 y]) = .returned (.tuple #[.string ⟨p.1.toArray⟩, .int .i64 p.2]) := by subst h; rfl
theorem names_short {l : List Int} (h : Scales l) : (namesT l).length ≤ 18 := by
  have := join_len (c := 44) (m := 2) (l.map nameI) (fun x hx => by
    obtain ⟨y, hy, rfl⟩ := List.mem_map.1 hx
    exact name_len _)
  rw [List.length_map] at this
  have h2 := h.1.2
  unfold namesT
  omega
theorem rule_of {a : Int} {ls lt : List Int} (h : ruleB a ls lt = true) : (1 ≤ a ∧ a ≤ 100000) ∧ Scales ls ∧ Scales lt := by
  unfold ruleB at h
  simp only [Bool.and_eq_true] at h
  exact ⟨inB_iff.1 h.1, scales_of h.2.1, scales_of h.2.2⟩
set_option maxRecDepth 100000 in
set_option maxHeartbeats 8000000 in
theorem l11Text_any (m : Nat) (As : Option Addr) (ns cs : Nat) (ls : List Int) (At : Option Addr) (nt ct : Nat) (lt : List Int) (w : World) (hls : ls.length = ns) (hns : ns ≤ 1048576) (hrs : Sees w w.heap.size As (ls.map (Value.int .i64))) (hlt : lt.length = nt) (hnt : nt ≤ 1048576) (hrt : Sees w w.heap.size At (lt.map (Value.int .i64))) (hm : m ≤ 100000) (hsc : Scales ls) (htc : Scales lt) :
    Calls Tryd.prog 33 #[.agg #[.int .i64 (m : Int), .slice As ns cs, .slice At nt ct]] w fun e w' => e = .returned (.string ⟨(ruleT (m : Int) ls lt).toArray⟩) ∧ Below w.heap.size w w' := by
  have HD := Lib.hid (show ruleT (m : Int) ls lt = (((Lib.itoa (m : Int) ++ [32]) ++ namesT ls) ++ [32]) ++ namesT lt from rfl)
  have hd := Lib.itoa_length_le (m : Int) (by omega) (by omega)
  have hx := names_short hsc
  have hy := names_short htc
  go_enter Tryd.func33, Tryd.ntmps33
  go_upto_region 0 with fail
  go_cut [1] (fun s1 wx => s1 = .pointer (some ⟨w.heap.size, 0, none⟩) ∧ wx.cell? ⟨w.heap.size, 0, none⟩ = some (.int .i64 (m : Int)) ∧ wx.cell? ⟨w.heap.size, 1, none⟩ = some (.slice As ns cs) ∧ wx.cell? ⟨w.heap.size, 2, none⟩ = some (.slice At nt ct) ∧ w.heap.size < wx.heap.size ∧ Below w.heap.size w wx)
  case first =>
    go_wp2_with fail
    go_meet
    refine ⟨rfl, ?_, ?_, ?_, by simp, by repeat' (first | (with_reducible exact Below.refl _ _) | (with_reducible assumption) | (with_reducible refine Below.alloc ?_ ?_ _) | (with_reducible refine Below.drew ?_) | (with_reducible refine belowDraws ?_ _) | (with_reducible refine Below.setCell ?_ ?_ _) | omega | (simp; done) | (simp; omega))⟩
    all_goals simp [go_sem]
  case rest =>
  obtain ⟨rfl, c0, c1, c2, hl0, B0⟩ := hcut
  obtain ⟨w0, rfl⟩ : ∃ w0 : World, w0 = wc := ⟨_, rfl⟩
  have KP := Lib.hid (show ∀ W : World, Below w0.heap.size w0 W → W.cell? ⟨w.heap.size, 0, none⟩ = some (.int .i64 (m : Int)) ∧ W.cell? ⟨w.heap.size, 1, none⟩ = some (.slice As ns cs) ∧ W.cell? ⟨w.heap.size, 2, none⟩ = some (.slice At nt ct) from fun W hW => ⟨(hW.cell (by first | omega | (simp; done) | (simp; omega))).trans c0, (hW.cell (by first | omega | (simp; done) | (simp; omega))).trans c1, (hW.cell (by first | omega | (simp; done) | (simp; omega))).trans c2⟩)
  have C1 := fun W => l01Dec_any m m W (Nat.le_refl _) (by omega)
  have C2 := fun (W : World) (hB : Below w0.heap.size w0 W) => l11Names_any As ns cs ls W hls ((hrs.over (B0.trans (hB.mono B0.size))).wider (Nat.le_trans B0.size hB.size)) hsc
  have C3 := fun (W : World) (hB : Below w0.heap.size w0 W) => l11Names_any At nt ct lt W hlt ((hrt.over (B0.trans (hB.mono B0.size))).wider (Nat.le_trans B0.size hB.size)) htc
  rw [← itoa_nat] at C1
  obtain ⟨d, ed⟩ : ∃ d, Lib.itoa (m : Int) = d := ⟨_, rfl⟩
  obtain ⟨x, ex⟩ : ∃ x, namesT ls = x := ⟨_, rfl⟩
  obtain ⟨y, ey⟩ : ∃ y, namesT lt = y := ⟨_, rfl⟩
  rw [ed] at C1 HD hd
  rw [ex] at C2 HD hx
  rw [ey] at C3 HD hy
  have k1 := fun W => run_string_add_sum (P := Tryd.prog) (w := W) ⟨d.toArray⟩ ⟨#[32]⟩ (by rw [bytesSize]; show d.length + 1 ≤ _; omega)
  have k2 := fun W => run_string_add_sum (P := Tryd.prog) (w := W) (⟨d.toArray⟩ ++ ⟨#[32]⟩) ⟨x.toArray⟩ (by rw [ByteArray.size_append, bytesSize, bytesSize]; show d.length + 1 + x.length ≤ _; omega)
  have k3 := fun W => run_string_add_sum (P := Tryd.prog) (w := W) ((⟨d.toArray⟩ ++ ⟨#[32]⟩) ++ ⟨x.toArray⟩) ⟨#[32]⟩ (by rw [ByteArray.size_append, ByteArray.size_append, bytesSize, bytesSize]; show d.length + 1 + x.length + 1 ≤ _; omega)
  have k4 := fun W => run_string_add_sum (P := Tryd.prog) (w := W) (((⟨d.toArray⟩ ++ ⟨#[32]⟩) ++ ⟨x.toArray⟩) ++ ⟨#[32]⟩) ⟨y.toArray⟩ (by rw [ByteArray.size_append, ByteArray.size_append, ByteArray.size_append, bytesSize, bytesSize, bytesSize]; show d.length + 1 + x.length + 1 + y.length ≤ _; omega)
  clear ed ex ey hd hx hy hsc htc hls hlt hrs hrt
  go_wp2_with fail
  go_region_with (first
    | (go_at_call 54; (with_reducible refine (C1 _).mono ?_); rintro e w1 ⟨rfl, hb1⟩; have hB1 : Below w0.heap.size w0 w1 := Below.trans (by repeat' (first | exact Below.refl _ _ | assumption | refine Below.alloc ?_ (by first | omega | (simp; done) | (simp; omega)) _ | refine Below.drew ?_ | refine Below.setCell ?_ (by first | omega | (simp; done) | (simp; omega)) _)) (hb1.mono (by first | omega | (simp; done) | (simp; omega))); have hz1 := hB1.size; obtain ⟨q1_0, q1_1, q1_2⟩ := KP.out w1 hB1; clear hb1)
    | (go_at_call 55; (with_reducible refine (C2 _ ?_).mono ?_); (focus (repeat' (first | exact Below.refl _ _ | assumption | refine Below.alloc ?_ (by first | omega | (simp; done) | (simp; omega)) _ | refine Below.drew ?_ | refine Below.setCell ?_ (by first | omega | (simp; done) | (simp; omega)) _))); rintro e w2 ⟨rfl, hb2⟩; have hB2 : Below w0.heap.size w0 w2 := Below.trans (by repeat' (first | exact Below.refl _ _ | assumption | refine Below.alloc ?_ (by first | omega | (simp; done) | (simp; omega)) _ | refine Below.drew ?_ | refine Below.setCell ?_ (by first | omega | (simp; done) | (simp; omega)) _)) (hb2.mono (by first | omega | (simp; done) | (simp; omega))); have hz2 := hB2.size; obtain ⟨q2_0, q2_1, q2_2⟩ := KP.out w2 hB2; clear hb2)
    | (go_at_call 55; (with_reducible refine (C3 _ ?_).mono ?_); (focus (repeat' (first | exact Below.refl _ _ | assumption | refine Below.alloc ?_ (by first | omega | (simp; done) | (simp; omega)) _ | refine Below.drew ?_ | refine Below.setCell ?_ (by first | omega | (simp; done) | (simp; omega)) _))); rintro e w3 ⟨rfl, hb3⟩; have hB3 : Below w0.heap.size w0 w3 := Below.trans (by repeat' (first | exact Below.refl _ _ | assumption | refine Below.alloc ?_ (by first | omega | (simp; done) | (simp; omega)) _ | refine Below.drew ?_ | refine Below.setCell ?_ (by first | omega | (simp; done) | (simp; omega)) _)) (hb3.mono (by first | omega | (simp; done) | (simp; omega))); have hz3 := hB3.size; obtain ⟨q3_0, q3_1, q3_2⟩ := KP.out w3 hB3; clear hb3))
  all_goals go_wp2_with fail
  all_goals go_ret
  all_goals (refine ⟨by (rw [HD.out]; (try unfold strL); rw [← bytesCat, ← bytesCat, ← bytesCat, ← bytesCat]; rfl), B0.trans (Below.mono ?_ B0.size)⟩)
  all_goals (repeat' (first | (with_reducible exact Below.refl _ _) | (with_reducible assumption) | (with_reducible refine Below.alloc ?_ ?_ _) | (with_reducible refine Below.drew ?_) | (with_reducible refine belowDraws ?_ _) | (with_reducible refine Below.setCell ?_ ?_ _) | omega | (simp; done) | (simp; omega)))
end Go.Proofs.YtibcbhphkafgjaaDoor
