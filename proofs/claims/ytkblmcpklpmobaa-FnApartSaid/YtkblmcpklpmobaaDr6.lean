/- Draws of the arguments of layer 8. No condition. -/
import Derived.Test.YtkblmcpklpmobaaDr5
namespace Go.Proofs.Ytkblmcpklpmobaa
open Go.RowKit
set_option linter.unusedVariables false
set_option linter.unusedSimpArgs false

/-- ticks of their own, and numbers -/
def GivesTN (xs : List Int → Value → Value) (k : Nat) (w : World) (e : Ending) (w' : World) : Prop := ∃ v T ns, e = .returned (xs ns v) ∧ ns.length = k ∧ I64s ns ∧ T.length ≤ 151 ∧ I64s3 T ∧ w'.ownsRow w.heap.size 51 3 v T.length (cells3 T) ∧ Below w.heap.size w w'
theorem GivesTN.none {w w' : World} {e : Ending} (h : GivesTN gv1 0 w e w') : ∃ v T, e = .returned v ∧ T.length ≤ 151 ∧ I64s3 T ∧ w'.ownsRow w.heap.size 51 3 v T.length (cells3 T) ∧ Below w.heap.size w w' := by
  obtain ⟨v, T, ns, he, hn, _, h12, hL, ho, hb⟩ := h
  exact ⟨v, T, he, h12, hL, ho, hb⟩
theorem GivesTN.one {w w' : World} {e : Ending} (h : GivesTN gv2 1 w e w') : ∃ v T k, e = .returned (.tuple #[v, .int .i64 k]) ∧ I64 k ∧ T.length ≤ 151 ∧ I64s3 T ∧ w'.ownsRow w.heap.size 51 3 v T.length (cells3 T) ∧ Below w.heap.size w w' := by
  obtain ⟨v, T, ns, he, hn, hi, h12, hL, ho, hb⟩ := h
  obtain ⟨k, rfl⟩ := List.length_eq_one_iff.1 hn
  exact ⟨v, T, k, he, hi k (List.mem_singleton.2 rfl), h12, hL, ho, hb⟩
theorem GivesTN.two {w w' : World} {e : Ending} (h : GivesTN gv3 2 w e w') : ∃ v T a b, e = .returned (.tuple #[v, .int .i64 a, .int .i64 b]) ∧ I64 a ∧ I64 b ∧ T.length ≤ 151 ∧ I64s3 T ∧ w'.ownsRow w.heap.size 51 3 v T.length (cells3 T) ∧ Below w.heap.size w w' := by
  obtain ⟨v, T, ns, he, hn, hi, h12, hL, ho, hb⟩ := h
  match ns, hn with
  | [a, b], _ => exact ⟨v, T, a, b, he, hi a (by simp), hi b (by simp), h12, hL, ho, hb⟩
theorem pickOf3 {v x0 x1 x2 : Int} {P : Int → Prop} (h : ∃ j : Nat, j < 3 ∧ (#[Value.int .i64 x0, Value.int .i64 x1, Value.int .i64 x2] : Array Value)[j]? = some (.int .i64 v)) (h0 : P x0) (h1 : P x1) (h2 : P x2) : P v := pick3 h h0 h1 h2
set_option maxRecDepth 100000 in
set_option maxHeartbeats 4000000 in
theorem DrawClosestTicks_any (A : Option Addr) (n c : Nat) (l : List Int) (w : World) (hl : l.length = n) (hn : n ≤ 1048576) (h8 : U8s l) (hs : Sees w w.heap.size A (l.map (Value.int .u8))) :
    Calls Try.prog 31 #[.slice A n c] w (GivesTN gv1 0 w) := by
  go_enter Try.func31, Try.ntmps31
  go_wp2_with fail
  refine (l01From_any A n c l _ hl hn h8 ?_).mono ?_
  · exact (hs.over (by repeat' (first | exact Below.refl _ _ | assumption | refine Below.alloc ?_ (by first | omega | (simp; done) | (simp; omega)) _ | refine Below.drew ?_ | refine Below.setCell ?_ (by first | omega | (simp; done) | (simp; omega)) _))).wider (by first | omega | (simp; done) | (simp; omega))
  rintro e w0 ⟨b, rfl, hb0, S0, B0⟩
  have hb : w.heap.size + 0 ≤ b := by first | omega | (simp at hb0; omega)
  have y0 := S0.inside
  replace B0 : Below w.heap.size w w0 := Below.trans (by repeat' (first | exact Below.refl _ _ | assumption | refine Below.alloc ?_ (by first | omega | (simp; done) | (simp; omega)) _ | refine Below.drew ?_ | refine Below.setCell ?_ (by first | omega | (simp; done) | (simp; omega)) _)) (B0.mono (by first | omega | (simp; done) | (simp; omega)))
  have z0 := B0.size
  have hbw : w.heap.size ≤ b := by omega
  clear hb0 hs
  go_wp2_with fail
  refine (l08Draw_any b A n c l _ hl hn h8 S0).mono ?_
  rintro e w1 ⟨v, L, rfl, L12, HL, own, S1, g1⟩
  obtain ⟨vA, vc, rfl⟩ := ownShape own
  have G1 : w0.grownBy w1 (some b) := grownTrans (by repeat' (first | (with_reducible exact grownRefl _ _) | (with_reducible assumption) | (with_reducible refine gAlloc ?_ _) | (with_reducible refine grownDrew ?_) | (with_reducible refine gDrewN ?_ _) | (with_reducible refine gSet ?_ ?_ _) | (left; with_reducible rfl) | (right; first | omega | (simp; done) | (simp; omega)) | (with_reducible refine gBel ?_ (by with_reducible assumption)))) g1
  have y1 := S1.inside
  clear g1
  go_wp2_with fail
  go_ret
  exact ⟨_, L, [], rfl, rfl, (fun y hy => by cases hy), L12, HL, ownLower own (by omega), B0.trans (gBelow G1 hbw z0)⟩
set_option maxRecDepth 100000 in
set_option maxHeartbeats 4000000 in
theorem DrawNearestTick_any (A : Option Addr) (n c : Nat) (l : List Int) (w : World) (hl : l.length = n) (hn : n ≤ 1048576) (h8 : U8s l) (hs : Sees w w.heap.size A (l.map (Value.int .u8))) :
    Calls Try.prog 25 #[.slice A n c] w (GivesTN gv2 1 w) := by
  go_enter Try.func25, Try.ntmps25
  go_wp2_with fail
  refine (l01From_any A n c l _ hl hn h8 ?_).mono ?_
  · exact (hs.over (by repeat' (first | exact Below.refl _ _ | assumption | refine Below.alloc ?_ (by first | omega | (simp; done) | (simp; omega)) _ | refine Below.drew ?_ | refine Below.setCell ?_ (by first | omega | (simp; done) | (simp; omega)) _))).wider (by first | omega | (simp; done) | (simp; omega))
  rintro e w0 ⟨b, rfl, hb0, S0, B0⟩
  have hb : w.heap.size + 0 ≤ b := by first | omega | (simp at hb0; omega)
  have y0 := S0.inside
  replace B0 : Below w.heap.size w w0 := Below.trans (by repeat' (first | exact Below.refl _ _ | assumption | refine Below.alloc ?_ (by first | omega | (simp; done) | (simp; omega)) _ | refine Below.drew ?_ | refine Below.setCell ?_ (by first | omega | (simp; done) | (simp; omega)) _)) (B0.mono (by first | omega | (simp; done) | (simp; omega)))
  have z0 := B0.size
  have hbw : w.heap.size ≤ b := by omega
  clear hb0 hs
  go_wp2_with fail
  refine (l08Draw_any b A n c l _ hl hn h8 S0).mono ?_
  rintro e w1 ⟨v, L, rfl, L12, HL, own, S1, g1⟩
  obtain ⟨vA, vc, rfl⟩ := ownShape own
  have G1 : w0.grownBy w1 (some b) := grownTrans (by repeat' (first | (with_reducible exact grownRefl _ _) | (with_reducible assumption) | (with_reducible refine gAlloc ?_ _) | (with_reducible refine grownDrew ?_) | (with_reducible refine gDrewN ?_ _) | (with_reducible refine gSet ?_ ?_ _) | (left; with_reducible rfl) | (right; first | omega | (simp; done) | (simp; omega)) | (with_reducible refine gBel ?_ (by with_reducible assumption)))) g1
  have y1 := S1.inside
  clear g1
  go_wp2_with fail
  refine (l01Next_any _ b A n c l _ hl hn h8 S1).mono ?_
  rintro e w2 ⟨v2, rfl, lo2, hi2, S2, g2⟩
  have hv2 : v2 ≤ 1999 := by omega
  clear hi2
  have G2 : w0.grownBy w2 (some b) := grownTrans (by repeat' (first | (with_reducible exact grownRefl _ _) | (with_reducible assumption) | (with_reducible refine gAlloc ?_ _) | (with_reducible refine grownDrew ?_) | (with_reducible refine gDrewN ?_ _) | (with_reducible refine gSet ?_ ?_ _) | (left; with_reducible rfl) | (right; first | omega | (simp; done) | (simp; omega)) | (with_reducible refine gBel ?_ (by with_reducible assumption)))) g2
  replace own := ownGrown (own) g2 (ownNo (fun q hq => by have := (own.lt q hq).1; have := z0; omega))
  have y2 := S2.inside
  clear g2
  go_wp2_with fail
  refine (l01Next_any _ b A n c l _ hl hn h8 S2).mono ?_
  rintro e w3 ⟨v3, rfl, lo3, hi3, S3, g3⟩
  have hv3 : v3 ≤ 24999 := by omega
  clear hi3
  have G3 : w0.grownBy w3 (some b) := grownTrans (by repeat' (first | (with_reducible exact grownRefl _ _) | (with_reducible assumption) | (with_reducible refine gAlloc ?_ _) | (with_reducible refine grownDrew ?_) | (with_reducible refine gDrewN ?_ _) | (with_reducible refine gSet ?_ ?_ _) | (left; with_reducible rfl) | (right; first | omega | (simp; done) | (simp; omega)) | (with_reducible refine gBel ?_ (by with_reducible assumption)))) g3
  replace own := ownGrown (own) g3 (ownNo (fun q hq => by have := (own.lt q hq).1; have := z0; omega))
  have y3 := S3.inside
  clear g3
  go_wp2_with fail
  refine (l01Pick_any _ _ _ _ b A n c l _ hl hn h8 (S3.alloc _) (Full.made _ _ _) ?_ ?_ ?_ ?_).mono ?_
  · first | exact nums_3 _ _ _ | exact nums_4 _ _ _ _ | exact nums_5 _ _ _ _ _ | exact nums_6 _ _ _ _ _ _ | exact nums_7 _ _ _ _ _ _ _ | exact nums_8 _ _ _ _ _ _ _ _
  · omega
  · omega
  · omega
  rintro e w4 ⟨v4, rfl, mem4, S4, g4⟩
  have i4 : I64 v4 := pickOf4 mem4 (by unfold I64; omega) (by unfold I64; omega) (by unfold I64; omega) (by unfold I64; omega)
  clear mem4
  have G4 : w0.grownBy w4 (some b) := grownTrans (by repeat' (first | (with_reducible exact grownRefl _ _) | (with_reducible assumption) | (with_reducible refine gAlloc ?_ _) | (with_reducible refine grownDrew ?_) | (with_reducible refine gDrewN ?_ _) | (with_reducible refine gSet ?_ ?_ _) | (left; with_reducible rfl) | (right; first | omega | (simp; done) | (simp; omega)) | (with_reducible refine gBel ?_ (by with_reducible assumption)))) g4
  replace own := ownGrown (own.alloc _) g4 (ownNo (fun q hq => by have := (own.lt q hq).1; have := z0; omega))
  have y4 := S4.inside
  clear g4
  go_wp2_with fail
  go_ret2
  exact ⟨_, L, [v4], rfl, rfl, (i64s_one i4), L12, HL, ownLower own (by omega), B0.trans (gBelow G4 hbw z0)⟩
set_option maxRecDepth 100000 in
set_option maxHeartbeats 4000000 in
theorem DrawKeepApart_any (A : Option Addr) (n c : Nat) (l : List Int) (w : World) (hl : l.length = n) (hn : n ≤ 1048576) (h8 : U8s l) (hs : Sees w w.heap.size A (l.map (Value.int .u8))) :
    Calls Try.prog 59 #[.slice A n c] w (GivesTN gv2 1 w) := by
  go_enter Try.func59, Try.ntmps59
  go_wp2_with fail
  refine (l01From_any A n c l _ hl hn h8 ?_).mono ?_
  · exact (hs.over (by repeat' (first | exact Below.refl _ _ | assumption | refine Below.alloc ?_ (by first | omega | (simp; done) | (simp; omega)) _ | refine Below.drew ?_ | refine Below.setCell ?_ (by first | omega | (simp; done) | (simp; omega)) _))).wider (by first | omega | (simp; done) | (simp; omega))
  rintro e w0 ⟨b, rfl, hb0, S0, B0⟩
  have hb : w.heap.size + 0 ≤ b := by first | omega | (simp at hb0; omega)
  have y0 := S0.inside
  replace B0 : Below w.heap.size w w0 := Below.trans (by repeat' (first | exact Below.refl _ _ | assumption | refine Below.alloc ?_ (by first | omega | (simp; done) | (simp; omega)) _ | refine Below.drew ?_ | refine Below.setCell ?_ (by first | omega | (simp; done) | (simp; omega)) _)) (B0.mono (by first | omega | (simp; done) | (simp; omega)))
  have z0 := B0.size
  have hbw : w.heap.size ≤ b := by omega
  clear hb0 hs
  go_wp2_with fail
  refine (l08Draw_any b A n c l _ hl hn h8 S0).mono ?_
  rintro e w1 ⟨v, L, rfl, L12, HL, own, S1, g1⟩
  obtain ⟨vA, vc, rfl⟩ := ownShape own
  have G1 : w0.grownBy w1 (some b) := grownTrans (by repeat' (first | (with_reducible exact grownRefl _ _) | (with_reducible assumption) | (with_reducible refine gAlloc ?_ _) | (with_reducible refine grownDrew ?_) | (with_reducible refine gDrewN ?_ _) | (with_reducible refine gSet ?_ ?_ _) | (left; with_reducible rfl) | (right; first | omega | (simp; done) | (simp; omega)) | (with_reducible refine gBel ?_ (by with_reducible assumption)))) g1
  have y1 := S1.inside
  clear g1
  go_wp2_with fail
  refine (l01Next_any _ b A n c l _ hl hn h8 S1).mono ?_
  rintro e w2 ⟨v2, rfl, lo2, hi2, S2, g2⟩
  have hv2 : v2 ≤ 599 := by omega
  clear hi2
  have G2 : w0.grownBy w2 (some b) := grownTrans (by repeat' (first | (with_reducible exact grownRefl _ _) | (with_reducible assumption) | (with_reducible refine gAlloc ?_ _) | (with_reducible refine grownDrew ?_) | (with_reducible refine gDrewN ?_ _) | (with_reducible refine gSet ?_ ?_ _) | (left; with_reducible rfl) | (right; first | omega | (simp; done) | (simp; omega)) | (with_reducible refine gBel ?_ (by with_reducible assumption)))) g2
  replace own := ownGrown (own) g2 (ownNo (fun q hq => by have := (own.lt q hq).1; have := z0; omega))
  have y2 := S2.inside
  clear g2
  go_wp2_with fail
  refine (l01Pick_any _ _ _ _ b A n c l _ hl hn h8 (S2.alloc _) (Full.made _ _ _) ?_ ?_ ?_ ?_).mono ?_
  · first | exact nums_3 _ _ _ | exact nums_4 _ _ _ _ | exact nums_5 _ _ _ _ _ | exact nums_6 _ _ _ _ _ _ | exact nums_7 _ _ _ _ _ _ _ | exact nums_8 _ _ _ _ _ _ _ _
  · omega
  · omega
  · omega
  rintro e w3 ⟨v3, rfl, mem3, S3, g3⟩
  have i3 : I64 v3 := pickOf8 mem3 (by unfold I64; omega) (by unfold I64; omega) (by unfold I64; omega) (by unfold I64; omega) (by unfold I64; omega) (by unfold I64; omega) (by unfold I64; omega) (by unfold I64; omega)
  clear mem3
  have G3 : w0.grownBy w3 (some b) := grownTrans (by repeat' (first | (with_reducible exact grownRefl _ _) | (with_reducible assumption) | (with_reducible refine gAlloc ?_ _) | (with_reducible refine grownDrew ?_) | (with_reducible refine gDrewN ?_ _) | (with_reducible refine gSet ?_ ?_ _) | (left; with_reducible rfl) | (right; first | omega | (simp; done) | (simp; omega)) | (with_reducible refine gBel ?_ (by with_reducible assumption)))) g3
  replace own := ownGrown (own.alloc _) g3 (ownNo (fun q hq => by have := (own.lt q hq).1; have := z0; omega))
  have y3 := S3.inside
  clear g3
  go_wp2_with fail
  go_ret2
  exact ⟨_, L, [v3], rfl, rfl, (i64s_one i3), L12, HL, ownLower own (by omega), B0.trans (gBelow G3 hbw z0)⟩
set_option maxRecDepth 100000 in
set_option maxHeartbeats 4000000 in
theorem DrawTicksBetween_any (A : Option Addr) (n c : Nat) (l : List Int) (w : World) (hl : l.length = n) (hn : n ≤ 1048576) (h8 : U8s l) (hs : Sees w w.heap.size A (l.map (Value.int .u8))) :
    Calls Try.prog 28 #[.slice A n c] w (GivesTN gv3 2 w) := by
  go_enter Try.func28, Try.ntmps28
  go_wp2_with fail
  refine (l01From_any A n c l _ hl hn h8 ?_).mono ?_
  · exact (hs.over (by repeat' (first | exact Below.refl _ _ | assumption | refine Below.alloc ?_ (by first | omega | (simp; done) | (simp; omega)) _ | refine Below.drew ?_ | refine Below.setCell ?_ (by first | omega | (simp; done) | (simp; omega)) _))).wider (by first | omega | (simp; done) | (simp; omega))
  rintro e w0 ⟨b, rfl, hb0, S0, B0⟩
  have hb : w.heap.size + 0 ≤ b := by first | omega | (simp at hb0; omega)
  have y0 := S0.inside
  replace B0 : Below w.heap.size w w0 := Below.trans (by repeat' (first | exact Below.refl _ _ | assumption | refine Below.alloc ?_ (by first | omega | (simp; done) | (simp; omega)) _ | refine Below.drew ?_ | refine Below.setCell ?_ (by first | omega | (simp; done) | (simp; omega)) _)) (B0.mono (by first | omega | (simp; done) | (simp; omega)))
  have z0 := B0.size
  have hbw : w.heap.size ≤ b := by omega
  clear hb0 hs
  go_wp2_with fail
  refine (l08Draw_any b A n c l _ hl hn h8 S0).mono ?_
  rintro e w1 ⟨v, L, rfl, L12, HL, own, S1, g1⟩
  obtain ⟨vA, vc, rfl⟩ := ownShape own
  have G1 : w0.grownBy w1 (some b) := grownTrans (by repeat' (first | (with_reducible exact grownRefl _ _) | (with_reducible assumption) | (with_reducible refine gAlloc ?_ _) | (with_reducible refine grownDrew ?_) | (with_reducible refine gDrewN ?_ _) | (with_reducible refine gSet ?_ ?_ _) | (left; with_reducible rfl) | (right; first | omega | (simp; done) | (simp; omega)) | (with_reducible refine gBel ?_ (by with_reducible assumption)))) g1
  have y1 := S1.inside
  clear g1
  go_wp2_with fail
  refine (l01Next_any _ b A n c l _ hl hn h8 S1).mono ?_
  rintro e w2 ⟨v2, rfl, lo2, hi2, S2, g2⟩
  have hv2 : v2 ≤ 1999 := by omega
  clear hi2
  have G2 : w0.grownBy w2 (some b) := grownTrans (by repeat' (first | (with_reducible exact grownRefl _ _) | (with_reducible assumption) | (with_reducible refine gAlloc ?_ _) | (with_reducible refine grownDrew ?_) | (with_reducible refine gDrewN ?_ _) | (with_reducible refine gSet ?_ ?_ _) | (left; with_reducible rfl) | (right; first | omega | (simp; done) | (simp; omega)) | (with_reducible refine gBel ?_ (by with_reducible assumption)))) g2
  replace own := ownGrown (own) g2 (ownNo (fun q hq => by have := (own.lt q hq).1; have := z0; omega))
  have y2 := S2.inside
  clear g2
  go_wp2_with fail
  refine (l01Pick_any _ _ _ _ b A n c l _ hl hn h8 (S2.alloc _) (Full.made _ _ _) ?_ ?_ ?_ ?_).mono ?_
  · first | exact nums_3 _ _ _ | exact nums_4 _ _ _ _ | exact nums_5 _ _ _ _ _ | exact nums_6 _ _ _ _ _ _ | exact nums_7 _ _ _ _ _ _ _ | exact nums_8 _ _ _ _ _ _ _ _
  · omega
  · omega
  · omega
  rintro e w3 ⟨v3, rfl, mem3, S3, g3⟩
  have i3 : I64 v3 := pickOf3 mem3 (by unfold I64; omega) (by unfold I64; omega) (by unfold I64; omega)
  clear mem3
  have G3 : w0.grownBy w3 (some b) := grownTrans (by repeat' (first | (with_reducible exact grownRefl _ _) | (with_reducible assumption) | (with_reducible refine gAlloc ?_ _) | (with_reducible refine grownDrew ?_) | (with_reducible refine gDrewN ?_ _) | (with_reducible refine gSet ?_ ?_ _) | (left; with_reducible rfl) | (right; first | omega | (simp; done) | (simp; omega)) | (with_reducible refine gBel ?_ (by with_reducible assumption)))) g3
  replace own := ownGrown (own.alloc _) g3 (ownNo (fun q hq => by have := (own.lt q hq).1; have := z0; omega))
  have y3 := S3.inside
  clear g3
  go_wp2_with fail
  refine (l01Pick_any _ _ _ _ b A n c l _ hl hn h8 (S3.alloc _) (Full.made _ _ _) ?_ ?_ ?_ ?_).mono ?_
  · first | exact nums_3 _ _ _ | exact nums_4 _ _ _ _ | exact nums_5 _ _ _ _ _ | exact nums_6 _ _ _ _ _ _ | exact nums_7 _ _ _ _ _ _ _ | exact nums_8 _ _ _ _ _ _ _ _
  · omega
  · omega
  · omega
  rintro e w4 ⟨v4, rfl, mem4, S4, g4⟩
  have i4 : I64 v4 := pickOf4 mem4 (by unfold I64; omega) (by unfold I64; omega) (by unfold I64; omega) (by unfold I64; omega)
  clear mem4
  have G4 : w0.grownBy w4 (some b) := grownTrans (by repeat' (first | (with_reducible exact grownRefl _ _) | (with_reducible assumption) | (with_reducible refine gAlloc ?_ _) | (with_reducible refine grownDrew ?_) | (with_reducible refine gDrewN ?_ _) | (with_reducible refine gSet ?_ ?_ _) | (left; with_reducible rfl) | (right; first | omega | (simp; done) | (simp; omega)) | (with_reducible refine gBel ?_ (by with_reducible assumption)))) g4
  replace own := ownGrown (own.alloc _) g4 (ownNo (fun q hq => by have := (own.lt q hq).1; have := z0; omega))
  have y4 := S4.inside
  clear g4
  go_wp2_with fail
  go_ret3
  exact ⟨_, L, [v3, v4], rfl, rfl, (i64s_two i3 i4), L12, HL, ownLower own (by omega), B0.trans (gBelow G4 hbw z0)⟩
/-- a graduation of its own, and numbers of which nothing is said -/
def GivesGM (xs : List Int → Value → Value) (w : World) (e : Ending) (w' : World) : Prop := ∃ v L ns, e = .returned (xs ns v) ∧ L.length ≤ 12 ∧ I64s3 L ∧ w'.ownsRow w.heap.size 79 3 v L.length (cells3 L) ∧ Below w.heap.size w w'
theorem GivesGM.two {w w' : World} {e : Ending} (h : GivesGM gv3 w e w') : ∃ v L a b, e = .returned (.tuple #[v, .int .i64 a, .int .i64 b]) ∧ L.length ≤ 12 ∧ I64s3 L ∧ w'.ownsRow w.heap.size 79 3 v L.length (cells3 L) ∧ Below w.heap.size w w' := by
  obtain ⟨v, L, ns, he, h12, hL, ho, hb⟩ := h
  exact ⟨v, L, _, _, he, h12, hL, ho, hb⟩
theorem GivesGM.four {w w' : World} {e : Ending} (h : GivesGM gv5 w e w') : ∃ v L a b x y, e = .returned (.tuple #[v, .int .i64 a, .int .i64 b, .int .i64 x, .int .i64 y]) ∧ L.length ≤ 12 ∧ I64s3 L ∧ w'.ownsRow w.heap.size 79 3 v L.length (cells3 L) ∧ Below w.heap.size w w' := by
  obtain ⟨v, L, ns, he, h12, hL, ho, hb⟩ := h
  exact ⟨v, L, _, _, _, _, he, h12, hL, ho, hb⟩
set_option maxRecDepth 100000 in
set_option maxHeartbeats 4000000 in
theorem DrawLeastDistance_any (A : Option Addr) (n c : Nat) (l : List Int) (w : World) (hl : l.length = n) (hn : n ≤ 1048576) (h8 : U8s l) (hs : Sees w w.heap.size A (l.map (Value.int .u8))) :
    Calls Try.prog 95 #[.slice A n c] w (GivesGM gv3 w) := by
  go_enter Try.func95, Try.ntmps95
  go_wp2_with fail
  refine (l01From_any A n c l _ hl hn h8 ?_).mono ?_
  · exact (hs.over (by repeat' (first | exact Below.refl _ _ | assumption | refine Below.alloc ?_ (by first | omega | (simp; done) | (simp; omega)) _ | refine Below.drew ?_ | refine Below.setCell ?_ (by first | omega | (simp; done) | (simp; omega)) _))).wider (by first | omega | (simp; done) | (simp; omega))
  rintro e w0 ⟨b, rfl, hb0, S0, B0⟩
  have hb : w.heap.size + 0 ≤ b := by first | omega | (simp at hb0; omega)
  have y0 := S0.inside
  replace B0 : Below w.heap.size w w0 := Below.trans (by repeat' (first | exact Below.refl _ _ | assumption | refine Below.alloc ?_ (by first | omega | (simp; done) | (simp; omega)) _ | refine Below.drew ?_ | refine Below.setCell ?_ (by first | omega | (simp; done) | (simp; omega)) _)) (B0.mono (by first | omega | (simp; done) | (simp; omega)))
  have z0 := B0.size
  have hbw : w.heap.size ≤ b := by omega
  clear hb0 hs
  go_wp2_with fail
  refine (l07Draw_any b A n c l _ hl hn h8 S0).mono ?_
  rintro e w1 ⟨v, L, rfl, _, L12, HL, own, S1, g1⟩
  obtain ⟨vA, vc, rfl⟩ := ownShape own
  have G1 : w0.grownBy w1 (some b) := grownTrans (by repeat' (first | (with_reducible exact grownRefl _ _) | (with_reducible assumption) | (with_reducible refine gAlloc ?_ _) | (with_reducible refine grownDrew ?_) | (with_reducible refine gDrewN ?_ _) | (with_reducible refine gSet ?_ ?_ _) | (left; with_reducible rfl) | (right; first | omega | (simp; done) | (simp; omega)) | (with_reducible refine gBel ?_ (by with_reducible assumption)))) g1
  have y1 := S1.inside
  clear g1
  go_wp2_with fail
  refine (l05DrawScale_any b A n c l _ hl hn h8 S1).mono ?_
  rintro e w2 ⟨v2, rfl, S2, g2⟩
  have G2 : w0.grownBy w2 (some b) := grownTrans (by repeat' (first | (with_reducible exact grownRefl _ _) | (with_reducible assumption) | (with_reducible refine gAlloc ?_ _) | (with_reducible refine grownDrew ?_) | (with_reducible refine gDrewN ?_ _) | (with_reducible refine gSet ?_ ?_ _) | (left; with_reducible rfl) | (right; first | omega | (simp; done) | (simp; omega)) | (with_reducible refine gBel ?_ (by with_reducible assumption)))) g2
  replace own := ownGrown (own) g2 (ownNo (fun q hq => by have := (own.lt q hq).1; have := z0; omega))
  have y2 := S2.inside
  clear g2
  go_wp2_with fail
  refine (l05DrawLength_any b A n c l _ hl hn h8 S2).mono ?_
  rintro e w3 ⟨v3, rfl, S3, g3⟩
  have G3 : w0.grownBy w3 (some b) := grownTrans (by repeat' (first | (with_reducible exact grownRefl _ _) | (with_reducible assumption) | (with_reducible refine gAlloc ?_ _) | (with_reducible refine grownDrew ?_) | (with_reducible refine gDrewN ?_ _) | (with_reducible refine gSet ?_ ?_ _) | (left; with_reducible rfl) | (right; first | omega | (simp; done) | (simp; omega)) | (with_reducible refine gBel ?_ (by with_reducible assumption)))) g3
  replace own := ownGrown (own) g3 (ownNo (fun q hq => by have := (own.lt q hq).1; have := z0; omega))
  have y3 := S3.inside
  clear g3
  go_wp2_with fail
  go_ret3
  exact ⟨_, L, [v2, v3], rfl, L12, HL, ownLower own (by omega), B0.trans (gBelow G3 hbw z0)⟩
set_option maxRecDepth 100000 in
set_option maxHeartbeats 4000000 in
theorem DrawTickHeight_any (A : Option Addr) (n c : Nat) (l : List Int) (w : World) (hl : l.length = n) (hn : n ≤ 1048576) (h8 : U8s l) (hs : Sees w w.heap.size A (l.map (Value.int .u8))) :
    Calls Try.prog 51 #[.slice A n c] w fun e w' => ∃ k : Int, e = .returned (.int .i64 k) ∧ Below w.heap.size w w' := by
  go_enter Try.func51, Try.ntmps51
  go_wp2_with fail
  refine (l01From_any A n c l _ hl hn h8 ?_).mono ?_
  · exact (hs.over (by repeat' (first | exact Below.refl _ _ | assumption | refine Below.alloc ?_ (by first | omega | (simp; done) | (simp; omega)) _ | refine Below.drew ?_ | refine Below.setCell ?_ (by first | omega | (simp; done) | (simp; omega)) _))).wider (by first | omega | (simp; done) | (simp; omega))
  rintro e w0 ⟨b, rfl, hb0, S0, B0⟩
  have hb : w.heap.size + 0 ≤ b := by first | omega | (simp at hb0; omega)
  have y0 := S0.inside
  replace B0 : Below w.heap.size w w0 := Below.trans (by repeat' (first | exact Below.refl _ _ | assumption | refine Below.alloc ?_ (by first | omega | (simp; done) | (simp; omega)) _ | refine Below.drew ?_ | refine Below.setCell ?_ (by first | omega | (simp; done) | (simp; omega)) _)) (B0.mono (by first | omega | (simp; done) | (simp; omega)))
  have z0 := B0.size
  have hbw : w.heap.size ≤ b := by omega
  clear hb0 hs
  go_wp2_with fail
  refine (l01Next_any _ b A n c l _ hl hn h8 S0).mono ?_
  rintro e w1 ⟨v1, rfl, lo1, hi1, S1, g1⟩
  have hv1 : v1 ≤ 8999 := by omega
  clear hi1
  have G1 : w0.grownBy w1 (some b) := grownTrans (by repeat' (first | (with_reducible exact grownRefl _ _) | (with_reducible assumption) | (with_reducible refine gAlloc ?_ _) | (with_reducible refine grownDrew ?_) | (with_reducible refine gDrewN ?_ _) | (with_reducible refine gSet ?_ ?_ _) | (left; with_reducible rfl) | (right; first | omega | (simp; done) | (simp; omega)) | (with_reducible refine gBel ?_ (by with_reducible assumption)))) g1
  have y1 := S1.inside
  clear g1
  go_wp2_with fail
  refine (l01Next_any _ b A n c l _ hl hn h8 S1).mono ?_
  rintro e w2 ⟨v2, rfl, lo2, hi2, S2, g2⟩
  have hv2 : v2 ≤ 179 := by omega
  clear hi2
  have G2 : w0.grownBy w2 (some b) := grownTrans (by repeat' (first | (with_reducible exact grownRefl _ _) | (with_reducible assumption) | (with_reducible refine gAlloc ?_ _) | (with_reducible refine grownDrew ?_) | (with_reducible refine gDrewN ?_ _) | (with_reducible refine gSet ?_ ?_ _) | (left; with_reducible rfl) | (right; first | omega | (simp; done) | (simp; omega)) | (with_reducible refine gBel ?_ (by with_reducible assumption)))) g2
  have y2 := S2.inside
  clear g2
  go_wp2_with fail
  refine (l01Next_any _ b A n c l _ hl hn h8 S2).mono ?_
  rintro e w3 ⟨v3, rfl, lo3, hi3, S3, g3⟩
  have hv3 : v3 ≤ 17 := by omega
  clear hi3
  have G3 : w0.grownBy w3 (some b) := grownTrans (by repeat' (first | (with_reducible exact grownRefl _ _) | (with_reducible assumption) | (with_reducible refine gAlloc ?_ _) | (with_reducible refine grownDrew ?_) | (with_reducible refine gDrewN ?_ _) | (with_reducible refine gSet ?_ ?_ _) | (left; with_reducible rfl) | (right; first | omega | (simp; done) | (simp; omega)) | (with_reducible refine gBel ?_ (by with_reducible assumption)))) g3
  have y3 := S3.inside
  clear g3
  go_wp2_with fail
  refine (l01Pick_any _ _ _ _ b A n c l _ hl hn h8 (S3.alloc _) (Full.made _ _ _) ?_ ?_ ?_ ?_).mono ?_
  · first | exact nums_3 _ _ _ | exact nums_4 _ _ _ _ | exact nums_5 _ _ _ _ _ | exact nums_6 _ _ _ _ _ _ | exact nums_7 _ _ _ _ _ _ _ | exact nums_8 _ _ _ _ _ _ _ _
  · omega
  · omega
  · omega
  rintro e w4 ⟨v4, rfl, mem4, S4, g4⟩
  have i4 : I64 v4 := pickOf7 mem4 (by unfold I64; omega) (by unfold I64; omega) (by unfold I64; omega) (by unfold I64; omega) (by unfold I64; omega) (by unfold I64; omega) (by unfold I64; omega)
  clear mem4
  have G4 : w0.grownBy w4 (some b) := grownTrans (by repeat' (first | (with_reducible exact grownRefl _ _) | (with_reducible assumption) | (with_reducible refine gAlloc ?_ _) | (with_reducible refine grownDrew ?_) | (with_reducible refine gDrewN ?_ _) | (with_reducible refine gSet ?_ ?_ _) | (left; with_reducible rfl) | (right; first | omega | (simp; done) | (simp; omega)) | (with_reducible refine gBel ?_ (by with_reducible assumption)))) g4
  have y4 := S4.inside
  clear g4
  go_wp2_with fail
  go_ret
  exact ⟨v4, rfl, B0.trans (gBelow G4 hbw z0)⟩
set_option maxRecDepth 100000 in
set_option maxHeartbeats 8000000 in
theorem DrawTicksOf_any (A : Option Addr) (n c : Nat) (l : List Int) (w : World) (hl : l.length = n) (hn : n ≤ 1048576) (h8 : U8s l) (hs : Sees w w.heap.size A (l.map (Value.int .u8))) :
    Calls Try.prog 50 #[.slice A n c] w (GivesGM gv5 w) := by
  have hs0 := hs
  go_enter Try.func50, Try.ntmps50
  go_wp2_with fail
  refine (l01From_any A n c l _ hl hn h8 ?_).mono ?_
  · exact (hs.over (by repeat' (first | exact Below.refl _ _ | assumption | refine Below.alloc ?_ (by first | omega | (simp; done) | (simp; omega)) _ | refine Below.drew ?_ | refine Below.setCell ?_ (by first | omega | (simp; done) | (simp; omega)) _))).wider (by first | omega | (simp; done) | (simp; omega))
  rintro e w0 ⟨b, rfl, hb0, S0, B0⟩
  have hb : w.heap.size + 0 ≤ b := by first | omega | (simp at hb0; omega)
  have y0 := S0.inside
  replace B0 : Below w.heap.size w w0 := Below.trans (by repeat' (first | exact Below.refl _ _ | assumption | refine Below.alloc ?_ (by first | omega | (simp; done) | (simp; omega)) _ | refine Below.drew ?_ | refine Below.setCell ?_ (by first | omega | (simp; done) | (simp; omega)) _)) (B0.mono (by first | omega | (simp; done) | (simp; omega)))
  have z0 := B0.size
  have hbw : w.heap.size ≤ b := by omega
  clear hb0 hs
  go_wp2_with fail
  refine ((DrawLeastDistance_any A n c l _ hl hn h8 ((hs0.over B0).wider z0)).mono fun e w' h => GivesGM.two h).mono ?_
  rintro e w1 ⟨v, L, sc, len, rfl, L12, HL, own, hb1⟩
  obtain ⟨vA, vc, rfl⟩ := ownShape own
  have S1 := S0.over hb1
  have G1 : w0.grownBy w1 (some b) := gBel (grownRefl _ _) hb1
  have y1 := S1.inside
  clear hb1
  go_wp2_with fail
  refine (l01Next_any _ b A n c l _ hl hn h8 S1).mono ?_
  rintro e w2 ⟨v2, rfl, lo2, hi2, S2, g2⟩
  have hv2 : v2 ≤ 89 := by omega
  clear hi2
  have G2 : w0.grownBy w2 (some b) := grownTrans (by repeat' (first | (with_reducible exact grownRefl _ _) | (with_reducible assumption) | (with_reducible refine gAlloc ?_ _) | (with_reducible refine grownDrew ?_) | (with_reducible refine gDrewN ?_ _) | (with_reducible refine gSet ?_ ?_ _) | (left; with_reducible rfl) | (right; first | omega | (simp; done) | (simp; omega)) | (with_reducible refine gBel ?_ (by with_reducible assumption)))) g2
  replace own := ownGrown (own) g2 (ownNo (fun q hq => by have := (own.lt q hq).1; have := z0; omega))
  have y2 := S2.inside
  clear g2
  go_wp2_with fail
  all_goals
    refine (l01Pick_any _ _ _ _ b A n c l _ hl hn h8 (S2.alloc _) (Full.made _ _ _) ?_ ?_ ?_ ?_).mono ?_
    · first | exact nums_3 _ _ _ | exact nums_4 _ _ _ _ | exact nums_5 _ _ _ _ _ | exact nums_6 _ _ _ _ _ _ | exact nums_7 _ _ _ _ _ _ _ | exact nums_8 _ _ _ _ _ _ _ _
    · omega
    · omega
    · omega
    rintro e w3 ⟨v3, rfl, mem3, S3, g3⟩
    have G3 : w0.grownBy w3 (some b) := grownTrans (by repeat' (first | (with_reducible exact grownRefl _ _) | (with_reducible assumption) | (with_reducible refine gAlloc ?_ _) | (with_reducible refine grownDrew ?_) | (with_reducible refine gDrewN ?_ _) | (with_reducible refine gSet ?_ ?_ _) | (left; with_reducible rfl) | (right; first | omega | (simp; done) | (simp; omega)) | (with_reducible refine gBel ?_ (by with_reducible assumption)))) g3
    replace own := ownGrown (own.alloc _) g3 (ownNo (fun q hq => by have := (own.lt q hq).1; have := z0; omega))
    go_wp2_with fail
    refine bodyPost_ret (v := .tuple #[.slice vA L.length vc, .int .i64 sc, .int .i64 len, .int .i64 (1000 + 100 * v2), .int .i64 v3]) ?_ rfl ?_
    · simp [results, Try.results50, go_sem, *]
    · exact ⟨_, L, [sc, len, 1000 + 100 * v2, v3], rfl, L12, HL, ownLower own (by omega), B0.trans (gBelow G3 hbw z0)⟩
end Go.Proofs.Ytkblmcpklpmobaa
