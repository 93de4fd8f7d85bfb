/- The law on RuleText (layer 11). No condition but the table. -/
import Derived.Test.YtibcbhphkafgjaaDoorTv2
import Derived.Deep.RegionWith
namespace Go.Proofs.YtibcbhphkafgjaaDoor
open Go.RowKit
set_option linter.unusedVariables false
set_option linter.unusedSimpArgs false

set_option maxHeartbeats 2000000 in
theorem fnExactRuleText_walk (a : Int) (As : Option Addr) (ns cs : Nat) (ls : List Int) (At : Option Addr) (nt ct : Nat) (lt : List Int) (w : World) (_ha : I64 a) (hls : ls.length = ns) (hcs : ns ≤ cs) (hms : cs ≤ maxLen) (hrs : Sees w w.heap.size As (ls.map (Value.int .i64))) (_hxs : I64s ls)
    (hlt : lt.length = nt) (hct : nt ≤ ct) (hmt : ct ≤ maxLen) (hrt : Sees w w.heap.size At (lt.map (Value.int .i64))) (_hxt : I64s lt) (hT : Lib.TabIs Tryd.prog w "internal/strconv.uint64pow10" .u64 Lib.pow10Tab) :
    Calls Tryd.prog 4 #[.agg #[.int .i64 a, .slice As ns cs, .slice At nt ct]] w fun e w' => e = .returned (.bool true) ∧ Below w.heap.size w w' := by
  have hT : TabT w := hT
  obtain ⟨⟨T, code⟩, HV⟩ : ∃ p, Hid (rRText a ls lt = p) := ⟨_, Lib.hid rfl⟩
  unfold maxLen at hms hmt
  have Hls := Lib.hid hls
  have Hlt := Lib.hid hlt
  clear hls hlt
  by_cases hsz : ns + nt ≤ 1048576
  · go_enter Tryd.func4, Tryd.ntmps4
    go_wp2_with fail
    refine (szRule_yes _ _ _ _ _ _ _ _ hsz).mono ?_
    rintro e w0 ⟨rfl, rfl⟩
    have B0 : Below w.heap.size w ((w.alloc (.cells #[.int .i64 a, .slice As ns cs, .slice At nt ct] 32)).alloc (.cells #[.int .i64 a, .slice As ns cs, .slice At nt ct] 32)) := ((Below.refl _ _).alloc (Nat.le_refl _) _).alloc (by simp) _
    have hns : ns ≤ 1048576 := by omega
    have hnt : nt ≤ 1048576 := by omega
    go_wp2_with fail
    refine (toRule_any _ _ _ _ ls _ _ _ lt _ Hls.out hns ((hrs.over B0).wider B0.size) Hlt.out hnt ((hrt.over B0).wider B0.size)).mono ?_
    rintro e w1 ⟨g1, h1, rfl, -, -, -, G1, H1, b1⟩
    have B1 : Below w.heap.size w w1 := B0.trans (b1.mono B0.size)
    have X1 := ((Full.made w 32 #[.int .i64 a, .slice As ns cs, .slice At nt ct]).block (.cells #[.int .i64 a, .slice As ns cs, .slice At nt ct] 32)).over b1 (by simp; omega)
    have x10 := X1.at_ 0
    have x11 := X1.at_ 1
    have x12 := X1.at_ 2
    simp only [List.getElem?_toArray, List.getElem?_cons_zero, List.getElem?_cons_succ] at x10 x11 x12
    clear b1
    go_wp2_with fail
    refine (sRuleText_any _ _ _ _ ls _ _ _ lt _ Hls.out (Nat.le_refl _) hns G1.sees Hlt.out (Nat.le_refl _) hnt H1.sees).mono ?_
    rintro e w2 ⟨rfl, b2⟩
    have B2 : Below w.heap.size w w2 := B1.trans (b2.mono B1.size)
    clear x10 x11 x12
    have X2 := X1.over b2 X1.inside
    have x20 := X2.at_ 0
    have x21 := X2.at_ 1
    have x22 := X2.at_ 2
    simp only [List.getElem?_toArray, List.getElem?_cons_zero, List.getElem?_cons_succ] at x20 x21 x22
    clear b2 G1 H1 X1
    go_wp2_with fail
    refine (toRule_any _ _ _ _ ls _ _ _ lt _ Hls.out hns ((hrs.over B2).wider B2.size) Hlt.out hnt ((hrt.over B2).wider B2.size)).mono ?_
    rintro e w3 ⟨g3, h3, rfl, -, -, -, G3, H3, b3⟩
    have B3 : Below w.heap.size w w3 := B2.trans (b3.mono B2.size)
    clear x20 x21 x22
    have X3 := X2.over b3 X2.inside
    have x30 := X3.at_ 0
    have x31 := X3.at_ 1
    have x32 := X3.at_ 2
    simp only [List.getElem?_toArray, List.getElem?_cons_zero, List.getElem?_cons_succ] at x30 x31 x32
    have hin3 := X3.inside
    clear b3 X2
    have Y3 := Full.made w3 35 #[.int .i64 a, .slice (some ⟨g3, 0, none⟩) ns ns, .slice (some ⟨h3, 0, none⟩) nt nt]
    go_wp2_with fail
    have k1 := (G3.block (.cells #[.int .i64 a, .slice (some ⟨g3, 0, none⟩) ns ns, .slice (some ⟨h3, 0, none⟩) nt nt] 35))
    have k2 := (H3.block (.cells #[.int .i64 a, .slice (some ⟨g3, 0, none⟩) ns ns, .slice (some ⟨h3, 0, none⟩) nt nt] 35))
    have k3 := (X3.block (.cells #[.int .i64 a, .slice (some ⟨g3, 0, none⟩) ns ns, .slice (some ⟨h3, 0, none⟩) nt nt] 35))
    have k4 := B3.alloc B3.size (.cells #[.int .i64 a, .slice (some ⟨g3, 0, none⟩) ns ns, .slice (some ⟨h3, 0, none⟩) nt nt] 35)
    refine (iRuleText_any _ _ _ _ ls _ _ _ lt _ Hls.out (Nat.le_refl _) hns k1.sees Hlt.out (Nat.le_refl _) hnt k2.sees (hT.over k4)).mono ?_
    rintro e w4 ⟨rfl, b4⟩
    have B4 : Below w.heap.size w w4 := k4.trans (b4.mono k4.size)
    clear x30 x31 x32
    have X4 := k3.over b4 k3.inside
    have x40 := X4.at_ 0
    have x41 := X4.at_ 1
    have x42 := X4.at_ 2
    simp only [List.getElem?_toArray, List.getElem?_cons_zero, List.getElem?_cons_succ] at x40 x41 x42
    have G4 := k1.over b4 k1.inside
    have H4 := k2.over b4 k2.inside
    have Z4 := Y3.over b4 Y3.inside
    have Z4' := Z4
    have z0 := Z4.at_ 0
    have z1 := Z4.at_ 1
    have z2 := Z4.at_ 2
    simp only [List.getElem?_toArray, List.getElem?_cons_zero, List.getElem?_cons_succ] at z0 z1 z2
    clear b4 Y3 k1 k2 k3 k4 G3 H3 X3
    clear Z4
    go_wp2_with fail
    go_region_with ((first
      | (go_at_call 14; refine (toRule_any _ _ _ _ ls _ _ _ lt _ Hls.out hns ?_ Hlt.out hnt ?_).mono ?_; exact (hrs.over B4).wider B4.size; exact (hrt.over B4).wider B4.size; rintro e w5 ⟨g5, h5, rfl, -, -, -, G5, H5, b5⟩; replace b5 : Below w4.heap.size w4 w5 := ⟨b5.os, b5.tape, b5.output, b5.size, b5.block⟩; have Z5 := Full.over Z4' b5 Z4'.inside; have y0 := Z5.at_ 0; have y1 := Z5.at_ 1; have y2 := Z5.at_ 2; simp only [List.getElem?_toArray, List.getElem?_cons_zero, List.getElem?_cons_succ] at y0 y1 y2; clear Z5; have B5 : Below w.heap.size w w5 := B4.trans (b5.mono B4.size); have G6 := Full.over G4 b5 G4.inside; have H6 := Full.over H4 b5 H4.inside; clear b5)
      | (go_at_call 16; refine (eqRule_same _ _ _ _ _ _ _ _ _ _ _ ls lt _ Hls.out hns Hlt.out hnt G6.sees G5.sees H6.sees H5.sees).mono ?_; rintro e w6 ⟨rfl, b6⟩)))
    all_goals (go_wp2_with fail; go_ret; exact ⟨rfl, B5.trans (b6.mono B5.size)⟩)
  · go_enter Tryd.func4, Tryd.ntmps4
    go_wp2_with fail
    refine (szRule_no _ _ _ _ _ _ _ _ (by omega) (by omega) (by omega)).mono ?_
    rintro e w0 ⟨rfl, rfl⟩
    go_wp2_with fail
    go_ret
    exact ⟨rfl, ((Below.refl _ _).alloc (Nat.le_refl _) _).alloc (by simp) _⟩
end Go.Proofs.YtibcbhphkafgjaaDoor
