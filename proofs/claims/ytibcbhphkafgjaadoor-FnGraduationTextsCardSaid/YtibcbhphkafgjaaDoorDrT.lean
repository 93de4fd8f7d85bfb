/- Draws of texts of graduations (layers 1, 7): l01Damage, DrawGraduationText, DrawReadGraduation. No condition. -/
import Derived.Test.YtibcbhphkafgjaaDoorDr4
import Derived.Test.YtibcbhphkafgjaaDoorTe
import Derived.Deep.RegionHeld3
import Derived.Deep.RegionWith
import Derived.BigQuiet
namespace Go.Proofs.YtibcbhphkafgjaaDoor
open Go.RowKit
set_option linter.unusedVariables false
set_option linter.unusedSimpArgs false

/-- a text of bounded length, drawn over a source -/
def GivesStr (m b : Nat) (A : Option Addr) (n c : Nat) (l : List Int) (w : World) (e : Ending) (w' : World) : Prop := ∃ x : ByteArray, e = .returned (.string x) ∧ x.size ≤ m ∧ Src w' b A n c l ∧ w.grownBy w' (some b)
/-- the eight words -/
def dmgL : List UInt8 := [48, 35, 46, 47, 32, 97, 45, 10]
def dmgW (j : Nat) : ByteArray := ⟨#[dmgL.getD j 0]⟩
def dmgC : Array Value := #[.string ⟨#[48]⟩, .string ⟨#[35]⟩, .string ⟨#[46]⟩, .string ⟨#[47]⟩, .string ⟨#[32]⟩, .string ⟨#[97]⟩, .string ⟨#[45]⟩, .string ⟨#[10]⟩]
theorem dmg_at {j : Nat} (h : j < 8) : dmgC[j]? = some (.string (dmgW j)) := by
  rcases j with _ | _ | _ | _ | _ | _ | _ | _ | j <;> first | rfl | omega
theorem dmg_size (j : Nat) : (dmgW j).size = 1 := rfl
theorem dmg_new {j : Nat} (h : j < 8) (W : World) (T : TypeId) : (W.alloc (.cells #[.string ⟨#[48]⟩, .string ⟨#[35]⟩, .string ⟨#[46]⟩, .string ⟨#[47]⟩, .string ⟨#[32]⟩, .string ⟨#[97]⟩, .string ⟨#[45]⟩, .string ⟨#[10]⟩] T)).cell? ⟨W.heap.size, j, none⟩ = some (.string (dmgW j)) :=
  ((Full.made W T dmgC).at_ j).trans (dmg_at h)
theorem dmg_at2 {j : Nat} (h : j < 8) : (#[.string ⟨#[48]⟩, .string ⟨#[35]⟩, .string ⟨#[46]⟩, .string ⟨#[47]⟩, .string ⟨#[32]⟩, .string ⟨#[97]⟩, .string ⟨#[45]⟩, .string ⟨#[10]⟩] : Array Value)[j]? = some (.string (dmgW j)) := dmg_at h
theorem extractLe (s : ByteArray) (a b : Nat) : (s.extract a b).size ≤ s.size := by rw [ByteArray.size_extract]; omega
set_option maxRecDepth 100000 in
set_option maxHeartbeats 8000000 in
theorem l01Damage_any (s : ByteArray) (b : Nat) (A : Option Addr) (n c : Nat) (l : List Int) (w : World) (hl : l.length = n) (hn : n ≤ 1048576) (h8 : U8s l) (hS : Src w b A n c l) (hsz : s.size ≤ 1000000) :
    Calls Tryd.prog 47 #[.pointer (some ⟨b, 0, none⟩), .string s] w (GivesStr (s.size + 1) b A n c l w) := by
  go_enter Tryd.func47, Tryd.ntmps47
  go_wp2_with fail
  refine (l01Next_any _ b A n c l _ hl hn h8 hS).mono ?_
  rintro e w1 ⟨v1, rfl, lo1, hi1, S1, g1⟩
  obtain ⟨k, rfl⟩ : ∃ k : Nat, v1 = (k : Int) := ⟨v1.toNat, by omega⟩
  have hk : k ≤ s.size := by omega
  clear hi1 lo1
  go_wp2_with fail
  refine (l01Next_any _ b A n c l _ hl hn h8 S1).mono ?_
  rintro e w2 ⟨v2, rfl, lo2, hi2, S2, g2⟩
  have G2 : w.grownBy w2 (some b) := grownTrans g1 g2
  have hv2 : v2 ≤ 7 := by omega
  have k0 : (0 : Int) ≤ (k : Int) := by omega
  have k1 : (k : Int) ≤ (s.size : Int) := by omega
  have ex1 := extractLe s 0 k
  clear hi2 g1 g2 S1
  by_cases h0 : v2 = 0
  · subst h0
    go_wp2_with fail
    go_ret
    exact ⟨_, rfl, by omega, S2, G2⟩
  by_cases h1 : v2 = 1
  · subst h1
    have y2 := S2.inside
    have ex2 := extractLe s k s.size
    have ex3 := ByteArray.size_extract (a := s) (b := 0) (e := k)
    have ex4 := ByteArray.size_extract (a := s) (b := k) (e := s.size)
    have k3 := fun (j : Nat) W => run_string_add_sum (P := Tryd.prog) (w := W) (s.extract 0 k) (dmgW j) (by rw [dmg_size]; omega)
    have k4 := fun (j : Nat) W => run_string_add_sum (P := Tryd.prog) (w := W) (s.extract 0 k ++ dmgW j) (s.extract k s.size) (by rw [ByteArray.size_append, dmg_size]; omega)
    have HL := Lib.hid (fun (j : Nat) => show ((s.extract 0 k ++ dmgW j) ++ s.extract k s.size).size ≤ s.size + 1 by rw [ByteArray.size_append, ByteArray.size_append, dmg_size]; omega)
    clear ex1 ex2 ex3 ex4
    go_wp2_with fail
    go_region_with (go_at_call 46; (with_reducible refine (l01Next_any _ b A n c l _ hl hn h8 ?_).mono ?_); (focus (repeat' (first | (with_reducible assumption) | (with_reducible refine Src.alloc ?_ _) | (with_reducible refine Src.drew ?_) | (with_reducible refine Src.drewN ?_ _) | (with_reducible refine Src.set ?_ ?_ _) | omega | (simp; done) | (simp; omega)))); rintro e w6 ⟨v6, rfl, lo6, hi6, S6, g6⟩; obtain ⟨j6, rfl⟩ : ∃ j : Nat, v6 = (j : Int) := ⟨v6.toNat, by omega⟩; have hj6 : j6 < 8 := (by omega); have hj7 : (j6 : Int) < 8 := (by omega); have K3 := k3 j6; have K4 := k4 j6; have G6 : w2.grownBy w6 (some b) := grownTrans (by repeat' (first | (with_reducible exact grownRefl _ _) | (with_reducible assumption) | (with_reducible refine gAlloc ?_ _) | (with_reducible refine grownDrew ?_) | (with_reducible refine gDrewN ?_ _) | (with_reducible refine gSet ?_ ?_ _) | (left; with_reducible rfl) | (right; first | omega | (simp; done) | (simp; omega)) | (with_reducible refine gBel ?_ (by with_reducible assumption)))) g6; have y6 := S6.inside; have z6 := G6.size; have dn := (fun W => dmg_new hj6 W 9); have da := dmg_at2 hj6; (try (refine (fun (q6 : w6.cell? ⟨w2.heap.size, j6, none⟩ = some (.string (dmgW j6))) => ?_) ((gCell g6 ?_ ?_).trans (dn w2)); rotate_left; (focus (first | omega | (simp; done) | (simp; omega))); (focus (first | omega | (simp; done) | (simp; omega))))); clear g6 hi6)
    all_goals go_wp2_with fail
    all_goals go_ret
    all_goals (exact ⟨_, rfl, HL.out j6, (by repeat' (first | (with_reducible assumption) | (with_reducible refine Src.alloc ?_ _) | (with_reducible refine Src.drew ?_) | (with_reducible refine Src.drewN ?_ _) | (with_reducible refine Src.set ?_ ?_ _) | omega | (simp; done) | (simp; omega))), grownTrans G2 (by repeat' (first | (with_reducible exact grownRefl _ _) | (with_reducible assumption) | (with_reducible refine gAlloc ?_ _) | (with_reducible refine grownDrew ?_) | (with_reducible refine gDrewN ?_ _) | (with_reducible refine gSet ?_ ?_ _) | (left; with_reducible rfl) | (right; first | omega | (simp; done) | (simp; omega)) | (with_reducible refine gBel ?_ (by with_reducible assumption))))⟩)
  by_cases h2 : v2 = 2
  · subst h2
    by_cases hlt : k < s.size
    · have n1 : (k : Int) < (s.size : Int) := by omega
      have n2 : (k : Int) + 1 ≤ (s.size : Int) := by omega
      have n3 : (0 : Int) ≤ (k : Int) + 1 := by omega
      have e1 : IntKind.i64.wrap ((k : Int) + 1) = (k : Int) + 1 := IntWalk.i64_in _ (by omega)
      have e2 : ((k : Int) + 1).toNat = k + 1 := by omega
      have ex4 := ByteArray.size_extract (a := s) (b := k + 1) (e := s.size)
      have ex3 := ByteArray.size_extract (a := s) (b := 0) (e := k)
      have k3 := fun W => run_string_add_sum (P := Tryd.prog) (w := W) (s.extract 0 k) (s.extract (k + 1) s.size) (by omega)
      have HL := Lib.hid (show (s.extract 0 k ++ s.extract (k + 1) s.size).size ≤ s.size + 1 by rw [ByteArray.size_append]; omega)
      clear ex1 ex3 ex4
      go_wp2_with fail
      go_quiet (fail)
      go_wp2_with fail
      go_ret
      exact ⟨_, rfl, HL.out, (by repeat' (first | (with_reducible assumption) | (with_reducible refine Src.alloc ?_ _) | (with_reducible refine Src.drew ?_) | (with_reducible refine Src.drewN ?_ _) | (with_reducible refine Src.set ?_ ?_ _) | omega | (simp; done) | (simp; omega))), grownTrans G2 (by repeat' (first | (with_reducible exact grownRefl _ _) | (with_reducible assumption) | (with_reducible refine gAlloc ?_ _) | (with_reducible refine grownDrew ?_) | (with_reducible refine gDrewN ?_ _) | (with_reducible refine gSet ?_ ?_ _) | (left; with_reducible rfl) | (right; first | omega | (simp; done) | (simp; omega)) | (with_reducible refine gBel ?_ (by with_reducible assumption))))⟩
    · have n1 : ¬ (k : Int) < (s.size : Int) := by omega
      go_wp2_with fail
      go_ret
      exact ⟨_, rfl, by omega, S2, G2⟩
  · have t0 : (v2 == 0) = false := beq_false_of_ne h0
    have t1 : (v2 == 1) = false := beq_false_of_ne h1
    have t2 : (v2 == 2) = false := beq_false_of_ne h2
    go_wp2_with fail
    go_ret
    exact ⟨_, rfl, by omega, S2, G2⟩
set_option maxRecDepth 100000 in
set_option maxHeartbeats 4000000 in
theorem DrawGraduationText_any (A : Option Addr) (n c : Nat) (l : List Int) (w : World) (hl : l.length = n) (hn : n ≤ 1048576) (h8 : U8s l) (hs : Sees w w.heap.size A (l.map (Value.int .u8))) :
    Calls Tryd.prog 22 #[.slice A n c] w (GivesGN gv1 0 w) := by
  go_enter Tryd.func22, Tryd.ntmps22
  go_wp2_with fail
  refine (l01From_any A n c l _ hl hn h8 ?_).mono ?_
  · exact (hs.over (by repeat' (first | exact Below.refl _ _ | assumption | refine Below.alloc ?_ (by first | omega | (simp; done) | (simp; omega)) _ | refine Below.drew ?_ | refine Below.setCell ?_ (by first | omega | (simp; done) | (simp; omega)) _))).wider (by first | omega | (simp; done) | (simp; omega))
  rintro e w0 ⟨b, rfl, hb0, S0, B0⟩
  have hb : w.heap.size + 0 ≤ b := by first | omega | (simp at hb0; omega)
  have y0 := S0.inside
  replace B0 : Below w.heap.size w w0 := Below.trans (by repeat' (first | exact Below.refl _ _ | assumption | refine Below.alloc ?_ (by first | omega | (simp; done) | (simp; omega)) _ | refine Below.drew ?_ | refine Below.setCell ?_ (by first | omega | (simp; done) | (simp; omega)) _)) (B0.mono (by first | omega | (simp; done) | (simp; omega)))
  have z0 := B0.size
  have hbw : w.heap.size ≤ b := by omega
  clear hb0 hs
  go_wp2_with fail
  refine (l07Draw_any b A n c l _ hl hn h8 S0).mono ?_
  rintro e w1 ⟨v, L, rfl, _, L12, HL, own, S1, g1⟩
  obtain ⟨vA, vc, rfl⟩ := ownShape own
  have G1 : w0.grownBy w1 (some b) := grownTrans (by repeat' (first | (with_reducible exact grownRefl _ _) | (with_reducible assumption) | (with_reducible refine gAlloc ?_ _) | (with_reducible refine grownDrew ?_) | (with_reducible refine gDrewN ?_ _) | (with_reducible refine gSet ?_ ?_ _) | (left; with_reducible rfl) | (right; first | omega | (simp; done) | (simp; omega)) | (with_reducible refine gBel ?_ (by with_reducible assumption)))) g1
  have y1 := S1.inside
  clear g1
  go_wp2_with fail
  go_ret
  exact ⟨_, L, [], rfl, rfl, (fun y hy => by cases hy), L12, HL, ownLower own (by omega), B0.trans (gBelow G1 hbw z0)⟩
/-- a text of bounded length -/
def GivesTx (w : World) (e : Ending) (w' : World) : Prop := ∃ x : ByteArray, e = .returned (.string x) ∧ x.size ≤ 2000 ∧ Below w.heap.size w w'
set_option maxRecDepth 100000 in
set_option maxHeartbeats 4000000 in
theorem DrawReadGraduation_any (A : Option Addr) (n c : Nat) (l : List Int) (w : World) (hl : l.length = n) (hn : n ≤ 1048576) (h8 : U8s l) (hs : Sees w w.heap.size A (l.map (Value.int .u8))) :
    Calls Tryd.prog 23 #[.slice A n c] w (GivesTx w) := by
  go_enter Tryd.func23, Tryd.ntmps23
  go_wp2_with fail
  refine (l01From_any A n c l _ hl hn h8 ?_).mono ?_
  · exact (hs.over (by repeat' (first | exact Below.refl _ _ | assumption | refine Below.alloc ?_ (by first | omega | (simp; done) | (simp; omega)) _ | refine Below.drew ?_ | refine Below.setCell ?_ (by first | omega | (simp; done) | (simp; omega)) _))).wider (by first | omega | (simp; done) | (simp; omega))
  rintro e w0 ⟨b, rfl, hb0, S0, B0⟩
  have hb : w.heap.size + 0 ≤ b := by first | omega | (simp at hb0; omega)
  have y0 := S0.inside
  replace B0 : Below w.heap.size w w0 := Below.trans (by repeat' (first | exact Below.refl _ _ | assumption | refine Below.alloc ?_ (by first | omega | (simp; done) | (simp; omega)) _ | refine Below.drew ?_ | refine Below.setCell ?_ (by first | omega | (simp; done) | (simp; omega)) _)) (B0.mono (by first | omega | (simp; done) | (simp; omega)))
  have z0 := B0.size
  have hbw : w.heap.size ≤ b := by omega
  clear hb0 hs
  go_wp2_with fail
  refine (l07Valid_any b A n c l _ hl hn h8 S0).mono ?_
  rintro e w1 ⟨v, L, rfl, _, L12, HL, own, S1, g1⟩
  obtain ⟨vA, vc, rfl⟩ := ownShape own
  have G1 : w0.grownBy w1 (some b) := grownTrans (by repeat' (first | (with_reducible exact grownRefl _ _) | (with_reducible assumption) | (with_reducible refine gAlloc ?_ _) | (with_reducible refine grownDrew ?_) | (with_reducible refine gDrewN ?_ _) | (with_reducible refine gSet ?_ ?_ _) | (left; with_reducible rfl) | (right; first | omega | (simp; done) | (simp; omega)) | (with_reducible refine gBel ?_ (by with_reducible assumption)))) g1
  have y1 := S1.inside
  clear g1
  go_wp2_with fail
  refine (l07Text_any vA L.length vc L _ rfl (by omega) (Sees.ofOwn own) HL).mono ?_
  rintro e w2 ⟨rfl, hb2⟩
  have G2 : w0.grownBy w2 (some b) := gBel G1 hb2
  have S2 := S1.over hb2
  have hlen := gradT_len (G := L) (fun p hp => ten_i64 (HL p hp))
  obtain ⟨x, hx⟩ : ∃ x : ByteArray, x = ⟨(gradT L).toArray⟩ := ⟨_, rfl⟩
  have hxs : x.size ≤ 1000 := by rw [hx, bytesSize]; omega
  rw [← hx]
  clear hx hlen hb2 S1 own
  go_wp2_with fail
  refine (l01Next_any _ b A n c l _ hl hn h8 S2).mono ?_
  rintro e w3 ⟨v3, rfl, lo3, hi3, S3, g3⟩
  have G3 : w0.grownBy w3 (some b) := grownTrans G2 g3
  clear g3 hi3
  by_cases h0 : v3 = 0
  · subst h0
    go_wp2_with fail
    refine (l01Damage_any x b A n c l _ hl hn h8 S3 (by omega)).mono ?_
    rintro e w4 ⟨y, rfl, hy, S4, g4⟩
    go_wp2_with fail
    go_ret
    exact ⟨_, rfl, by omega, B0.trans (gBelow (grownTrans G3 g4) hbw z0)⟩
  · have t0 : (v3 == 0) = false := beq_false_of_ne h0
    go_wp2_with fail
    go_ret
    exact ⟨_, rfl, by omega, B0.trans (gBelow G3 hbw z0)⟩
end Go.Proofs.YtibcbhphkafgjaaDoor
