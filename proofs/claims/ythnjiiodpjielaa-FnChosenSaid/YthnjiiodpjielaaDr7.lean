/- A draw of a graduation, a scale and a length (layer 7). No condition. -/
import Derived.Test.YthnjiiodpjielaaDr4
namespace Go.Proofs.Ythnjiiodpjielaa
open Go.RowKit
set_option linter.unusedVariables false
set_option linter.unusedSimpArgs false

set_option maxRecDepth 100000 in
set_option maxHeartbeats 4000000 in
theorem DrawLeast_any (A : Option Addr) (n c : Nat) (l : List Int) (w : World) (hl : l.length = n) (hn : n ≤ 1048576) (h8 : U8s l) (hs : Sees w w.heap.size A (l.map (Value.int .u8))) :
    Calls Try.prog 15 #[.slice A n c] w fun e w' => ∃ v L a b, e = .returned (.tuple #[v, .int .i64 a, .int .i64 b]) ∧ L.length ≤ 12 ∧ I64s3 L ∧ w'.ownsRow w.heap.size 39 3 v L.length (cells3 L) ∧ Below w.heap.size w w' := by
  go_enter Try.func15, Try.ntmps15
  go_wp2_with fail
  refine (l01From_any A n c l _ hl hn h8 ?_).mono ?_
  · exact (hs.over (by repeat' (first | exact Below.refl _ _ | assumption | refine Below.alloc ?_ (by first | omega | (simp; done) | (simp; omega)) _ | refine Below.drew ?_ | refine Below.setCell ?_ (by first | omega | (simp; done) | (simp; omega)) _))).wider (by first | omega | (simp; done) | (simp; omega))
  rintro e w0 ⟨b, rfl, hb0, S0, B0⟩
  have hb : w.heap.size + 0 ≤ b := by first | omega | (simp at hb0; omega)
  have y0 := S0.inside
  replace B0 : Below w.heap.size w w0 := Below.trans (by repeat' (first | exact Below.refl _ _ | assumption | refine Below.alloc ?_ (by first | omega | (simp; done) | (simp; omega)) _ | refine Below.drew ?_ | refine Below.setCell ?_ (by first | omega | (simp; done) | (simp; omega)) _)) (B0.mono (by first | omega | (simp; done) | (simp; omega)))
  have z0 := B0.size
  have hbw : w.heap.size ≤ b := by omega
  clear hb0 hs
  go_wp2_with fail
  refine (l07Draw_any b A n c l _ hl hn h8 S0).mono ?_
  rintro e w1 ⟨v, L, rfl, _, L12, HL, own, S1, g1⟩
  obtain ⟨vA, vc, rfl⟩ := ownShape own
  have G1 : w0.grownBy w1 (some b) := grownTrans (by repeat' (first | (with_reducible exact grownRefl _ _) | (with_reducible assumption) | (with_reducible refine gAlloc ?_ _) | (with_reducible refine grownDrew ?_) | (with_reducible refine gDrewN ?_ _) | (with_reducible refine gSet ?_ ?_ _) | (left; with_reducible rfl) | (right; first | omega | (simp; done) | (simp; omega)) | (with_reducible refine gBel ?_ (by with_reducible assumption)))) g1
  have y1 := S1.inside
  clear g1
  go_wp2_with fail
  refine (l05DrawScale_any b A n c l _ hl hn h8 S1).mono ?_
  rintro e w2 ⟨v2, rfl, S2, g2⟩
  have G2 : w0.grownBy w2 (some b) := grownTrans (by repeat' (first | (with_reducible exact grownRefl _ _) | (with_reducible assumption) | (with_reducible refine gAlloc ?_ _) | (with_reducible refine grownDrew ?_) | (with_reducible refine gDrewN ?_ _) | (with_reducible refine gSet ?_ ?_ _) | (left; with_reducible rfl) | (right; first | omega | (simp; done) | (simp; omega)) | (with_reducible refine gBel ?_ (by with_reducible assumption)))) g2
  replace own := ownGrown (own) g2 (ownNo (fun q hq => by have := (own.lt q hq).1; have := z0; omega))
  have y2 := S2.inside
  clear g2
  go_wp2_with fail
  refine (l05DrawLength_any b A n c l _ hl hn h8 S2).mono ?_
  rintro e w3 ⟨v3, rfl, S3, g3⟩
  have G3 : w0.grownBy w3 (some b) := grownTrans (by repeat' (first | (with_reducible exact grownRefl _ _) | (with_reducible assumption) | (with_reducible refine gAlloc ?_ _) | (with_reducible refine grownDrew ?_) | (with_reducible refine gDrewN ?_ _) | (with_reducible refine gSet ?_ ?_ _) | (left; with_reducible rfl) | (right; first | omega | (simp; done) | (simp; omega)) | (with_reducible refine gBel ?_ (by with_reducible assumption)))) g3
  replace own := ownGrown (own) g3 (ownNo (fun q hq => by have := (own.lt q hq).1; have := z0; omega))
  have y3 := S3.inside
  clear g3
  go_wp2_with fail
  go_ret3
  exact ⟨_, L, v2, v3, rfl, L12, HL, ownLower own (by omega), B0.trans (gBelow G3 hbw z0)⟩
end Go.Proofs.Ythnjiiodpjielaa
