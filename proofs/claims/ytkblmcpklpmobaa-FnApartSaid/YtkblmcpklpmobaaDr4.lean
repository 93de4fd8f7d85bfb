/- Draws of the arguments of layers 7 and 8: graduations with numbers. No condition. -/
import Derived.Test.YtkblmcpklpmobaaDr2
import Derived.Test.YtkblmcpklpmobaaDr3
namespace Go.Proofs.Ytkblmcpklpmobaa
open Go.RowKit
set_option linter.unusedVariables false
set_option linter.unusedSimpArgs false

theorem pickOf5 {v x0 x1 x2 x3 x4 : Int} {P : Int → Prop} (h : ∃ j : Nat, j < 5 ∧ (#[Value.int .i64 x0, Value.int .i64 x1, Value.int .i64 x2, Value.int .i64 x3, Value.int .i64 x4] : Array Value)[j]? = some (.int .i64 v)) (h0 : P x0) (h1 : P x1) (h2 : P x2) (h3 : P x3) (h4 : P x4) : P v := by
  obtain ⟨j, hj, h⟩ := h
  rcases j with _ | _ | _ | _ | _ | j <;> first | (simp at h; subst h; assumption) | omega
theorem pickOf6 {v x0 x1 x2 x3 x4 x5 : Int} {P : Int → Prop} (h : ∃ j : Nat, j < 6 ∧ (#[Value.int .i64 x0, Value.int .i64 x1, Value.int .i64 x2, Value.int .i64 x3, Value.int .i64 x4, Value.int .i64 x5] : Array Value)[j]? = some (.int .i64 v)) (h0 : P x0) (h1 : P x1) (h2 : P x2) (h3 : P x3) (h4 : P x4) (h5 : P x5) : P v := by
  obtain ⟨j, hj, h⟩ := h
  rcases j with _ | _ | _ | _ | _ | _ | j <;> first | (simp at h; subst h; assumption) | omega
theorem pickOf7 {v x0 x1 x2 x3 x4 x5 x6 : Int} {P : Int → Prop} (h : ∃ j : Nat, j < 7 ∧ (#[Value.int .i64 x0, Value.int .i64 x1, Value.int .i64 x2, Value.int .i64 x3, Value.int .i64 x4, Value.int .i64 x5, Value.int .i64 x6] : Array Value)[j]? = some (.int .i64 v)) (h0 : P x0) (h1 : P x1) (h2 : P x2) (h3 : P x3) (h4 : P x4) (h5 : P x5) (h6 : P x6) : P v := by
  obtain ⟨j, hj, h⟩ := h
  rcases j with _ | _ | _ | _ | _ | _ | _ | j <;> first | (simp at h; subst h; assumption) | omega
theorem pickOf8 {v x0 x1 x2 x3 x4 x5 x6 x7 : Int} {P : Int → Prop} (h : ∃ j : Nat, j < 8 ∧ (#[Value.int .i64 x0, Value.int .i64 x1, Value.int .i64 x2, Value.int .i64 x3, Value.int .i64 x4, Value.int .i64 x5, Value.int .i64 x6, Value.int .i64 x7] : Array Value)[j]? = some (.int .i64 v)) (h0 : P x0) (h1 : P x1) (h2 : P x2) (h3 : P x3) (h4 : P x4) (h5 : P x5) (h6 : P x6) (h7 : P x7) : P v := by
  obtain ⟨j, hj, h⟩ := h
  rcases j with _ | _ | _ | _ | _ | _ | _ | _ | j <;> first | (simp at h; subst h; assumption) | omega
theorem pickOf4 {v x0 x1 x2 x3 : Int} {P : Int → Prop} (h : ∃ j : Nat, j < 4 ∧ (#[Value.int .i64 x0, Value.int .i64 x1, Value.int .i64 x2, Value.int .i64 x3] : Array Value)[j]? = some (.int .i64 v)) (h0 : P x0) (h1 : P x1) (h2 : P x2) (h3 : P x3) : P v := pick4 h h0 h1 h2 h3
/-- a graduation of its own, and numbers -/
def GivesGN (xs : List Int → Value → Value) (k : Nat) (w : World) (e : Ending) (w' : World) : Prop := ∃ v L ns, e = .returned (xs ns v) ∧ ns.length = k ∧ I64s ns ∧ L.length ≤ 12 ∧ I64s3 L ∧ w'.ownsRow w.heap.size 79 3 v L.length (cells3 L) ∧ Below w.heap.size w w'
def gv1 (ns : List Int) (v : Value) : Value := v
def gv2 (ns : List Int) (v : Value) : Value := .tuple #[v, .int .i64 (ns.getD 0 0)]
def gv3 (ns : List Int) (v : Value) : Value := .tuple #[v, .int .i64 (ns.getD 0 0), .int .i64 (ns.getD 1 0)]
def gv5 (ns : List Int) (v : Value) : Value := .tuple #[v, .int .i64 (ns.getD 0 0), .int .i64 (ns.getD 1 0), .int .i64 (ns.getD 2 0), .int .i64 (ns.getD 3 0)]
theorem i64s_one {x : Int} (h : I64 x) : I64s [x] := fun y hy => by rw [List.mem_singleton] at hy; subst hy; exact h
theorem i64s_two {x y : Int} (h : I64 x) (k : I64 y) : I64s [x, y] := fun z hz => by rcases List.mem_cons.1 hz with rfl | hz; exact h; rw [List.mem_singleton] at hz; subst hz; exact k
theorem nums_7' (x0 x1 x2 x3 x4 x5 x6 : Int) : Nums #[.int .i64 x0, .int .i64 x1, .int .i64 x2, .int .i64 x3, .int .i64 x4, .int .i64 x5, .int .i64 x6] 7 := nums_7 x0 x1 x2 x3 x4 x5 x6
set_option maxRecDepth 100000 in
set_option maxHeartbeats 4000000 in
theorem DrawCountMarks_any (A : Option Addr) (n c : Nat) (l : List Int) (w : World) (hl : l.length = n) (hn : n ≤ 1048576) (h8 : U8s l) (hs : Sees w w.heap.size A (l.map (Value.int .u8))) :
    Calls Try.prog 10 #[.slice A n c] w (GivesGN gv1 0 w) := by
  go_enter Try.func10, Try.ntmps10
  go_wp2_with fail
  refine (l01From_any A n c l _ hl hn h8 ?_).mono ?_
  · exact (hs.over (by repeat' (first | exact Below.refl _ _ | assumption | refine Below.alloc ?_ (by first | omega | (simp; done) | (simp; omega)) _ | refine Below.drew ?_ | refine Below.setCell ?_ (by first | omega | (simp; done) | (simp; omega)) _))).wider (by first | omega | (simp; done) | (simp; omega))
  rintro e w0 ⟨b, rfl, hb0, S0, B0⟩
  have hb : w.heap.size + 0 ≤ b := by first | omega | (simp at hb0; omega)
  have y0 := S0.inside
  replace B0 : Below w.heap.size w w0 := Below.trans (by repeat' (first | exact Below.refl _ _ | assumption | refine Below.alloc ?_ (by first | omega | (simp; done) | (simp; omega)) _ | refine Below.drew ?_ | refine Below.setCell ?_ (by first | omega | (simp; done) | (simp; omega)) _)) (B0.mono (by first | omega | (simp; done) | (simp; omega)))
  have z0 := B0.size
  have hbw : w.heap.size ≤ b := by omega
  clear hb0 hs
  go_wp2_with fail
  refine (l07Draw_any b A n c l _ hl hn h8 S0).mono ?_
  rintro e w1 ⟨v, L, rfl, _, L12, HL, own, S1, g1⟩
  obtain ⟨vA, vc, rfl⟩ := ownShape own
  have G1 : w0.grownBy w1 (some b) := grownTrans (by repeat' (first | (with_reducible exact grownRefl _ _) | (with_reducible assumption) | (with_reducible refine gAlloc ?_ _) | (with_reducible refine grownDrew ?_) | (with_reducible refine gDrewN ?_ _) | (with_reducible refine gSet ?_ ?_ _) | (left; with_reducible rfl) | (right; first | omega | (simp; done) | (simp; omega)) | (with_reducible refine gBel ?_ (by with_reducible assumption)))) g1
  have y1 := S1.inside
  clear g1
  go_wp2_with fail
  go_ret
  exact ⟨_, L, [], rfl, rfl, (fun y hy => by cases hy), L12, HL, ownLower own (by omega), B0.trans (gBelow G1 hbw z0)⟩
set_option maxRecDepth 100000 in
set_option maxHeartbeats 4000000 in
theorem DrawCountHeights_any (A : Option Addr) (n c : Nat) (l : List Int) (w : World) (hl : l.length = n) (hn : n ≤ 1048576) (h8 : U8s l) (hs : Sees w w.heap.size A (l.map (Value.int .u8))) :
    Calls Try.prog 54 #[.slice A n c] w (GivesGN gv1 0 w) := by
  go_enter Try.func54, Try.ntmps54
  go_wp2_with fail
  refine (l01From_any A n c l _ hl hn h8 ?_).mono ?_
  · exact (hs.over (by repeat' (first | exact Below.refl _ _ | assumption | refine Below.alloc ?_ (by first | omega | (simp; done) | (simp; omega)) _ | refine Below.drew ?_ | refine Below.setCell ?_ (by first | omega | (simp; done) | (simp; omega)) _))).wider (by first | omega | (simp; done) | (simp; omega))
  rintro e w0 ⟨b, rfl, hb0, S0, B0⟩
  have hb : w.heap.size + 0 ≤ b := by first | omega | (simp at hb0; omega)
  have y0 := S0.inside
  replace B0 : Below w.heap.size w w0 := Below.trans (by repeat' (first | exact Below.refl _ _ | assumption | refine Below.alloc ?_ (by first | omega | (simp; done) | (simp; omega)) _ | refine Below.drew ?_ | refine Below.setCell ?_ (by first | omega | (simp; done) | (simp; omega)) _)) (B0.mono (by first | omega | (simp; done) | (simp; omega)))
  have z0 := B0.size
  have hbw : w.heap.size ≤ b := by omega
  clear hb0 hs
  go_wp2_with fail
  refine (l07Draw_any b A n c l _ hl hn h8 S0).mono ?_
  rintro e w1 ⟨v, L, rfl, _, L12, HL, own, S1, g1⟩
  obtain ⟨vA, vc, rfl⟩ := ownShape own
  have G1 : w0.grownBy w1 (some b) := grownTrans (by repeat' (first | (with_reducible exact grownRefl _ _) | (with_reducible assumption) | (with_reducible refine gAlloc ?_ _) | (with_reducible refine grownDrew ?_) | (with_reducible refine gDrewN ?_ _) | (with_reducible refine gSet ?_ ?_ _) | (left; with_reducible rfl) | (right; first | omega | (simp; done) | (simp; omega)) | (with_reducible refine gBel ?_ (by with_reducible assumption)))) g1
  have y1 := S1.inside
  clear g1
  go_wp2_with fail
  go_ret
  exact ⟨_, L, [], rfl, rfl, (fun y hy => by cases hy), L12, HL, ownLower own (by omega), B0.trans (gBelow G1 hbw z0)⟩
set_option maxRecDepth 100000 in
set_option maxHeartbeats 4000000 in
theorem DrawMarksOf_any (A : Option Addr) (n c : Nat) (l : List Int) (w : World) (hl : l.length = n) (hn : n ≤ 1048576) (h8 : U8s l) (hs : Sees w w.heap.size A (l.map (Value.int .u8))) :
    Calls Try.prog 13 #[.slice A n c] w (GivesGN gv3 2 w) := by
  go_enter Try.func13, Try.ntmps13
  go_wp2_with fail
  refine (l01From_any A n c l _ hl hn h8 ?_).mono ?_
  · exact (hs.over (by repeat' (first | exact Below.refl _ _ | assumption | refine Below.alloc ?_ (by first | omega | (simp; done) | (simp; omega)) _ | refine Below.drew ?_ | refine Below.setCell ?_ (by first | omega | (simp; done) | (simp; omega)) _))).wider (by first | omega | (simp; done) | (simp; omega))
  rintro e w0 ⟨b, rfl, hb0, S0, B0⟩
  have hb : w.heap.size + 0 ≤ b := by first | omega | (simp at hb0; omega)
  have y0 := S0.inside
  replace B0 : Below w.heap.size w w0 := Below.trans (by repeat' (first | exact Below.refl _ _ | assumption | refine Below.alloc ?_ (by first | omega | (simp; done) | (simp; omega)) _ | refine Below.drew ?_ | refine Below.setCell ?_ (by first | omega | (simp; done) | (simp; omega)) _)) (B0.mono (by first | omega | (simp; done) | (simp; omega)))
  have z0 := B0.size
  have hbw : w.heap.size ≤ b := by omega
  clear hb0 hs
  go_wp2_with fail
  refine (l07Draw_any b A n c l _ hl hn h8 S0).mono ?_
  rintro e w1 ⟨v, L, rfl, _, L12, HL, own, S1, g1⟩
  obtain ⟨vA, vc, rfl⟩ := ownShape own
  have G1 : w0.grownBy w1 (some b) := grownTrans (by repeat' (first | (with_reducible exact grownRefl _ _) | (with_reducible assumption) | (with_reducible refine gAlloc ?_ _) | (with_reducible refine grownDrew ?_) | (with_reducible refine gDrewN ?_ _) | (with_reducible refine gSet ?_ ?_ _) | (left; with_reducible rfl) | (right; first | omega | (simp; done) | (simp; omega)) | (with_reducible refine gBel ?_ (by with_reducible assumption)))) g1
  have y1 := S1.inside
  clear g1
  go_wp2_with fail
  refine (l01Next_any _ b A n c l _ hl hn h8 S1).mono ?_
  rintro e w2 ⟨v2, rfl, lo2, hi2, S2, g2⟩
  have hv2 : v2 ≤ 8999 := by omega
  clear hi2
  have G2 : w0.grownBy w2 (some b) := grownTrans (by repeat' (first | (with_reducible exact grownRefl _ _) | (with_reducible assumption) | (with_reducible refine gAlloc ?_ _) | (with_reducible refine grownDrew ?_) | (with_reducible refine gDrewN ?_ _) | (with_reducible refine gSet ?_ ?_ _) | (left; with_reducible rfl) | (right; first | omega | (simp; done) | (simp; omega)) | (with_reducible refine gBel ?_ (by with_reducible assumption)))) g2
  replace own := ownGrown (own) g2 (ownNo (fun q hq => by have := (own.lt q hq).1; have := z0; omega))
  have y2 := S2.inside
  clear g2
  go_wp2_with fail
  refine (l01Pick_any _ _ _ _ b A n c l _ hl hn h8 (S2.alloc _) (Full.made _ _ _) ?_ ?_ ?_ ?_).mono ?_
  · first | exact nums_3 _ _ _ | exact nums_4 _ _ _ _ | exact nums_5 _ _ _ _ _ | exact nums_6 _ _ _ _ _ _ | exact nums_7 _ _ _ _ _ _ _ | exact nums_8 _ _ _ _ _ _ _ _
  · omega
  · omega
  · omega
  rintro e w3 ⟨v3, rfl, mem3, S3, g3⟩
  have i3 : I64 v3 := pickOf4 mem3 (by unfold I64; omega) (by unfold I64; omega) (by unfold I64; omega) (by unfold I64; omega)
  clear mem3
  have G3 : w0.grownBy w3 (some b) := grownTrans (by repeat' (first | (with_reducible exact grownRefl _ _) | (with_reducible assumption) | (with_reducible refine gAlloc ?_ _) | (with_reducible refine grownDrew ?_) | (with_reducible refine gDrewN ?_ _) | (with_reducible refine gSet ?_ ?_ _) | (left; with_reducible rfl) | (right; first | omega | (simp; done) | (simp; omega)) | (with_reducible refine gBel ?_ (by with_reducible assumption)))) g3
  replace own := ownGrown (own.alloc _) g3 (ownNo (fun q hq => by have := (own.lt q hq).1; have := z0; omega))
  have y3 := S3.inside
  clear g3
  go_wp2_with fail
  refine (l01Pick_any _ _ _ _ b A n c l _ hl hn h8 (S3.alloc _) (Full.made _ _ _) ?_ ?_ ?_ ?_).mono ?_
  · first | exact nums_3 _ _ _ | exact nums_4 _ _ _ _ | exact nums_5 _ _ _ _ _ | exact nums_6 _ _ _ _ _ _ | exact nums_7 _ _ _ _ _ _ _ | exact nums_8 _ _ _ _ _ _ _ _
  · omega
  · omega
  · omega
  rintro e w4 ⟨v4, rfl, mem4, S4, g4⟩
  have i4 : I64 v4 := pickOf5 mem4 (by unfold I64; omega) (by unfold I64; omega) (by unfold I64; omega) (by unfold I64; omega) (by unfold I64; omega)
  clear mem4
  have G4 : w0.grownBy w4 (some b) := grownTrans (by repeat' (first | (with_reducible exact grownRefl _ _) | (with_reducible assumption) | (with_reducible refine gAlloc ?_ _) | (with_reducible refine grownDrew ?_) | (with_reducible refine gDrewN ?_ _) | (with_reducible refine gSet ?_ ?_ _) | (left; with_reducible rfl) | (right; first | omega | (simp; done) | (simp; omega)) | (with_reducible refine gBel ?_ (by with_reducible assumption)))) g4
  replace own := ownGrown (own.alloc _) g4 (ownNo (fun q hq => by have := (own.lt q hq).1; have := z0; omega))
  have y4 := S4.inside
  clear g4
  go_wp2_with fail
  go_ret3
  exact ⟨_, L, [v3, v4], rfl, rfl, (i64s_two i3 i4), L12, HL, ownLower own (by omega), B0.trans (gBelow G4 hbw z0)⟩
set_option maxRecDepth 100000 in
set_option maxHeartbeats 4000000 in
theorem DrawNearestMark_any (A : Option Addr) (n c : Nat) (l : List Int) (w : World) (hl : l.length = n) (hn : n ≤ 1048576) (h8 : U8s l) (hs : Sees w w.heap.size A (l.map (Value.int .u8))) :
    Calls Try.prog 16 #[.slice A n c] w (GivesGN gv2 1 w) := by
  go_enter Try.func16, Try.ntmps16
  go_wp2_with fail
  refine (l01From_any A n c l _ hl hn h8 ?_).mono ?_
  · exact (hs.over (by repeat' (first | exact Below.refl _ _ | assumption | refine Below.alloc ?_ (by first | omega | (simp; done) | (simp; omega)) _ | refine Below.drew ?_ | refine Below.setCell ?_ (by first | omega | (simp; done) | (simp; omega)) _))).wider (by first | omega | (simp; done) | (simp; omega))
  rintro e w0 ⟨b, rfl, hb0, S0, B0⟩
  have hb : w.heap.size + 0 ≤ b := by first | omega | (simp at hb0; omega)
  have y0 := S0.inside
  replace B0 : Below w.heap.size w w0 := Below.trans (by repeat' (first | exact Below.refl _ _ | assumption | refine Below.alloc ?_ (by first | omega | (simp; done) | (simp; omega)) _ | refine Below.drew ?_ | refine Below.setCell ?_ (by first | omega | (simp; done) | (simp; omega)) _)) (B0.mono (by first | omega | (simp; done) | (simp; omega)))
  have z0 := B0.size
  have hbw : w.heap.size ≤ b := by omega
  clear hb0 hs
  go_wp2_with fail
  refine (l07Draw_any b A n c l _ hl hn h8 S0).mono ?_
  rintro e w1 ⟨v, L, rfl, _, L12, HL, own, S1, g1⟩
  obtain ⟨vA, vc, rfl⟩ := ownShape own
  have G1 : w0.grownBy w1 (some b) := grownTrans (by repeat' (first | (with_reducible exact grownRefl _ _) | (with_reducible assumption) | (with_reducible refine gAlloc ?_ _) | (with_reducible refine grownDrew ?_) | (with_reducible refine gDrewN ?_ _) | (with_reducible refine gSet ?_ ?_ _) | (left; with_reducible rfl) | (right; first | omega | (simp; done) | (simp; omega)) | (with_reducible refine gBel ?_ (by with_reducible assumption)))) g1
  have y1 := S1.inside
  clear g1
  go_wp2_with fail
  refine (l01Next_any _ b A n c l _ hl hn h8 S1).mono ?_
  rintro e w2 ⟨v2, rfl, lo2, hi2, S2, g2⟩
  have hv2 : v2 ≤ 8999 := by omega
  clear hi2
  have G2 : w0.grownBy w2 (some b) := grownTrans (by repeat' (first | (with_reducible exact grownRefl _ _) | (with_reducible assumption) | (with_reducible refine gAlloc ?_ _) | (with_reducible refine grownDrew ?_) | (with_reducible refine gDrewN ?_ _) | (with_reducible refine gSet ?_ ?_ _) | (left; with_reducible rfl) | (right; first | omega | (simp; done) | (simp; omega)) | (with_reducible refine gBel ?_ (by with_reducible assumption)))) g2
  replace own := ownGrown (own) g2 (ownNo (fun q hq => by have := (own.lt q hq).1; have := z0; omega))
  have y2 := S2.inside
  clear g2
  go_wp2_with fail
  refine (l01Next_any _ b A n c l _ hl hn h8 S2).mono ?_
  rintro e w3 ⟨v3, rfl, lo3, hi3, S3, g3⟩
  have hv3 : v3 ≤ 899 := by omega
  clear hi3
  have G3 : w0.grownBy w3 (some b) := grownTrans (by repeat' (first | (with_reducible exact grownRefl _ _) | (with_reducible assumption) | (with_reducible refine gAlloc ?_ _) | (with_reducible refine grownDrew ?_) | (with_reducible refine gDrewN ?_ _) | (with_reducible refine gSet ?_ ?_ _) | (left; with_reducible rfl) | (right; first | omega | (simp; done) | (simp; omega)) | (with_reducible refine gBel ?_ (by with_reducible assumption)))) g3
  replace own := ownGrown (own) g3 (ownNo (fun q hq => by have := (own.lt q hq).1; have := z0; omega))
  have y3 := S3.inside
  clear g3
  go_wp2_with fail
  refine (l01Pick_any _ _ _ _ b A n c l _ hl hn h8 (S3.alloc _) (Full.made _ _ _) ?_ ?_ ?_ ?_).mono ?_
  · first | exact nums_3 _ _ _ | exact nums_4 _ _ _ _ | exact nums_5 _ _ _ _ _ | exact nums_6 _ _ _ _ _ _ | exact nums_7 _ _ _ _ _ _ _ | exact nums_8 _ _ _ _ _ _ _ _
  · omega
  · omega
  · omega
  rintro e w4 ⟨v4, rfl, mem4, S4, g4⟩
  have i4 : I64 v4 := pickOf6 mem4 (by unfold I64; omega) (by unfold I64; omega) (by unfold I64; omega) (by unfold I64; omega) (by unfold I64; omega) (by unfold I64; omega)
  clear mem4
  have G4 : w0.grownBy w4 (some b) := grownTrans (by repeat' (first | (with_reducible exact grownRefl _ _) | (with_reducible assumption) | (with_reducible refine gAlloc ?_ _) | (with_reducible refine grownDrew ?_) | (with_reducible refine gDrewN ?_ _) | (with_reducible refine gSet ?_ ?_ _) | (left; with_reducible rfl) | (right; first | omega | (simp; done) | (simp; omega)) | (with_reducible refine gBel ?_ (by with_reducible assumption)))) g4
  replace own := ownGrown (own.alloc _) g4 (ownNo (fun q hq => by have := (own.lt q hq).1; have := z0; omega))
  have y4 := S4.inside
  clear g4
  go_wp2_with fail
  go_ret2
  exact ⟨_, L, [v4], rfl, rfl, (i64s_one i4), L12, HL, ownLower own (by omega), B0.trans (gBelow G4 hbw z0)⟩
set_option maxRecDepth 100000 in
set_option maxHeartbeats 4000000 in
theorem DrawIsMark_any (A : Option Addr) (n c : Nat) (l : List Int) (w : World) (hl : l.length = n) (hn : n ≤ 1048576) (h8 : U8s l) (hs : Sees w w.heap.size A (l.map (Value.int .u8))) :
    Calls Try.prog 19 #[.slice A n c] w (GivesGN gv2 1 w) := by
  go_enter Try.func19, Try.ntmps19
  go_wp2_with fail
  refine (l01From_any A n c l _ hl hn h8 ?_).mono ?_
  · exact (hs.over (by repeat' (first | exact Below.refl _ _ | assumption | refine Below.alloc ?_ (by first | omega | (simp; done) | (simp; omega)) _ | refine Below.drew ?_ | refine Below.setCell ?_ (by first | omega | (simp; done) | (simp; omega)) _))).wider (by first | omega | (simp; done) | (simp; omega))
  rintro e w0 ⟨b, rfl, hb0, S0, B0⟩
  have hb : w.heap.size + 0 ≤ b := by first | omega | (simp at hb0; omega)
  have y0 := S0.inside
  replace B0 : Below w.heap.size w w0 := Below.trans (by repeat' (first | exact Below.refl _ _ | assumption | refine Below.alloc ?_ (by first | omega | (simp; done) | (simp; omega)) _ | refine Below.drew ?_ | refine Below.setCell ?_ (by first | omega | (simp; done) | (simp; omega)) _)) (B0.mono (by first | omega | (simp; done) | (simp; omega)))
  have z0 := B0.size
  have hbw : w.heap.size ≤ b := by omega
  clear hb0 hs
  go_wp2_with fail
  refine (l07Draw_any b A n c l _ hl hn h8 S0).mono ?_
  rintro e w1 ⟨v, L, rfl, _, L12, HL, own, S1, g1⟩
  obtain ⟨vA, vc, rfl⟩ := ownShape own
  have G1 : w0.grownBy w1 (some b) := grownTrans (by repeat' (first | (with_reducible exact grownRefl _ _) | (with_reducible assumption) | (with_reducible refine gAlloc ?_ _) | (with_reducible refine grownDrew ?_) | (with_reducible refine gDrewN ?_ _) | (with_reducible refine gSet ?_ ?_ _) | (left; with_reducible rfl) | (right; first | omega | (simp; done) | (simp; omega)) | (with_reducible refine gBel ?_ (by with_reducible assumption)))) g1
  have y1 := S1.inside
  clear g1
  go_wp2_with fail
  refine (l01Next_any _ b A n c l _ hl hn h8 S1).mono ?_
  rintro e w2 ⟨v2, rfl, lo2, hi2, S2, g2⟩
  have hv2 : v2 ≤ 899 := by omega
  clear hi2
  have G2 : w0.grownBy w2 (some b) := grownTrans (by repeat' (first | (with_reducible exact grownRefl _ _) | (with_reducible assumption) | (with_reducible refine gAlloc ?_ _) | (with_reducible refine grownDrew ?_) | (with_reducible refine gDrewN ?_ _) | (with_reducible refine gSet ?_ ?_ _) | (left; with_reducible rfl) | (right; first | omega | (simp; done) | (simp; omega)) | (with_reducible refine gBel ?_ (by with_reducible assumption)))) g2
  replace own := ownGrown (own) g2 (ownNo (fun q hq => by have := (own.lt q hq).1; have := z0; omega))
  have y2 := S2.inside
  clear g2
  go_wp2_with fail
  refine (l01Next_any _ b A n c l _ hl hn h8 S2).mono ?_
  rintro e w3 ⟨v3, rfl, lo3, hi3, S3, g3⟩
  have hv3 : v3 ≤ 89 := by omega
  clear hi3
  have G3 : w0.grownBy w3 (some b) := grownTrans (by repeat' (first | (with_reducible exact grownRefl _ _) | (with_reducible assumption) | (with_reducible refine gAlloc ?_ _) | (with_reducible refine grownDrew ?_) | (with_reducible refine gDrewN ?_ _) | (with_reducible refine gSet ?_ ?_ _) | (left; with_reducible rfl) | (right; first | omega | (simp; done) | (simp; omega)) | (with_reducible refine gBel ?_ (by with_reducible assumption)))) g3
  replace own := ownGrown (own) g3 (ownNo (fun q hq => by have := (own.lt q hq).1; have := z0; omega))
  have y3 := S3.inside
  clear g3
  go_wp2_with fail
  refine (l01Pick_any _ _ _ _ b A n c l _ hl hn h8 (S3.alloc _) (Full.made _ _ _) ?_ ?_ ?_ ?_).mono ?_
  · first | exact nums_3 _ _ _ | exact nums_4 _ _ _ _ | exact nums_5 _ _ _ _ _ | exact nums_6 _ _ _ _ _ _ | exact nums_7 _ _ _ _ _ _ _ | exact nums_8 _ _ _ _ _ _ _ _
  · omega
  · omega
  · omega
  rintro e w4 ⟨v4, rfl, mem4, S4, g4⟩
  have i4 : I64 v4 := pickOf5 mem4 (by unfold I64; omega) (by unfold I64; omega) (by unfold I64; omega) (by unfold I64; omega) (by unfold I64; omega)
  clear mem4
  have G4 : w0.grownBy w4 (some b) := grownTrans (by repeat' (first | (with_reducible exact grownRefl _ _) | (with_reducible assumption) | (with_reducible refine gAlloc ?_ _) | (with_reducible refine grownDrew ?_) | (with_reducible refine gDrewN ?_ _) | (with_reducible refine gSet ?_ ?_ _) | (left; with_reducible rfl) | (right; first | omega | (simp; done) | (simp; omega)) | (with_reducible refine gBel ?_ (by with_reducible assumption)))) g4
  replace own := ownGrown (own.alloc _) g4 (ownNo (fun q hq => by have := (own.lt q hq).1; have := z0; omega))
  have y4 := S4.inside
  clear g4
  go_wp2_with fail
  go_ret2
  exact ⟨_, L, [v4], rfl, rfl, (i64s_one i4), L12, HL, ownLower own (by omega), B0.trans (gBelow G4 hbw z0)⟩
end Go.Proofs.Ytkblmcpklpmobaa
