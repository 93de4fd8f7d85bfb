/- Rules (layer 11): copies and comparisons of rules; the laws on IsRule and HasScale. No condition. -/
import Derived.Test.YtibcbhphkafgjaaDoorRule2
import Derived.Outline
namespace Go.Proofs.YtibcbhphkafgjaaDoor
open Go.RowKit
set_option linter.unusedVariables false

set_option maxHeartbeats 1000000 in
theorem toRule_any (a : Int) (As : Option Addr) (ns cs : Nat) (ls : List Int) (At : Option Addr) (nt ct : Nat) (lt : List Int) (w : World) (hls : ls.length = ns) (hns : ns ≤ 1048576) (hrs : Sees w w.heap.size As (ls.map (Value.int .i64))) (hlt : lt.length = nt) (hnt : nt ≤ 1048576) (hrt : Sees w w.heap.size At (lt.map (Value.int .i64))) :
    Calls Tryd.prog 14 #[.agg #[.int .i64 a, .slice As ns cs, .slice At nt ct]] w fun e w' => ∃ g h, e = .returned (.agg #[.int .i64 a, .slice (some ⟨g, 0, none⟩) ns ns, .slice (some ⟨h, 0, none⟩) nt nt]) ∧ w.heap.size ≤ g ∧ w.heap.size ≤ h ∧ g ≠ h ∧
      Full w' g 2 (ls.map (Value.int .i64)).toArray ∧ Full w' h 2 (lt.map (Value.int .i64)).toArray ∧ Below w.heap.size w w' := by
  go_enter Tryd.func14, Tryd.ntmps14
  go_wp2_with fail
  refine (toInt64S_any _ _ _ ls _ w.heap.size (by first | (simp; done) | (simp; omega) | omega) hls hns (((hrs.block (Nat.le_refl _) _).block (by simp) _).block (by first | (simp; done) | (simp; omega) | omega) _)).mono ?_
  rintro e w1 ⟨rfl, F1, b1⟩
  have e1 : (((w.alloc (.cells #[.int .i64 a, .slice As ns cs, .slice At nt ct] 32)).alloc (.cells #[.int .i64 0, .slice none 0 0, .slice none 0 0] 35)).alloc (.cells #[.int .i64 a, .slice none 0 0, .slice none 0 0] 35)).heap.size = w.heap.size + 1 + 1 + 1 := by simp
  rw [e1] at F1
  have X0 : Full w1 w.heap.size 32 #[.int .i64 a, .slice As ns cs, .slice At nt ct] := (((Full.made w _ _).block (.cells #[.int .i64 0, .slice none 0 0, .slice none 0 0] 35)).block (.cells #[.int .i64 a, .slice none 0 0, .slice none 0 0] 35)).over b1 (by first | (simp; done) | (simp; omega) | omega)
  have X1 : Full w1 (w.heap.size + 1) 35 #[.int .i64 0, .slice none 0 0, .slice none 0 0] := by
    have h := (((Full.made (w.alloc (.cells #[.int .i64 a, .slice As ns cs, .slice At nt ct] 32)) 35 #[.int .i64 0, .slice none 0 0, .slice none 0 0])).block (.cells #[.int .i64 a, .slice none 0 0, .slice none 0 0] 35)).over b1 (by first | (simp; done) | (simp; omega) | omega)
    simpa using h
  have X2 : Full w1 (w.heap.size + 1 + 1) 35 #[.int .i64 a, .slice none 0 0, .slice none 0 0] := by
    have h := (Full.made ((w.alloc (.cells #[.int .i64 a, .slice As ns cs, .slice At nt ct] 32)).alloc (.cells #[.int .i64 0, .slice none 0 0, .slice none 0 0] 35)) 35 #[.int .i64 a, .slice none 0 0, .slice none 0 0]).over b1 (by simp)
    simpa using h
  have B1 : Below w.heap.size w w1 := ((((Below.refl _ _).alloc (Nat.le_refl _) (.cells #[.int .i64 a, .slice As ns cs, .slice At nt ct] 32)).alloc (by simp) (.cells #[.int .i64 0, .slice none 0 0, .slice none 0 0] 35)).alloc (by first | (simp; done) | (simp; omega) | omega) (.cells #[.int .i64 a, .slice none 0 0, .slice none 0 0] 35)).trans (b1.mono (by first | (simp; done) | (simp; omega) | omega))
  have x2 := X2.at_ 1
  have x3 := X0.at_ 2
  have f2 := X2.free 1
  simp only [List.getElem?_toArray, List.getElem?_cons_zero, List.getElem?_cons_succ] at x2 x3
  clear e1
  go_wp2_with fail
  have i1 := F1.inside
  refine (toInt64S_any _ _ _ lt _ w.heap.size (by have := B1.size; simp [World.setCell]; omega) hlt hnt ((hrt.over B1).store (by first | (simp; done) | (simp; omega) | omega) _)).mono ?_
  rintro e w2 ⟨rfl, F2, b2⟩
  have hsz : (w1.setCell ⟨w.heap.size + 1 + 1, 1, none⟩ (.slice (some ⟨w.heap.size + 1 + 1 + 1, 0, none⟩) ns ns)).heap.size = w1.heap.size := by simp [World.setCell]
  rw [hsz] at F2
  have Y1 := (X1.elsewhere (p := ⟨w.heap.size + 1 + 1, 1, none⟩) (by simp) (.slice (some ⟨w.heap.size + 1 + 1 + 1, 0, none⟩) ns ns)).over b2 (by rw [hsz]; omega)
  have Y2 := (X2.put 1 (.slice (some ⟨w.heap.size + 1 + 1 + 1, 0, none⟩) ns ns)).over b2 (by rw [hsz]; omega)
  have Y3 := (F1.elsewhere (p := ⟨w.heap.size + 1 + 1, 1, none⟩) (by simp) (.slice (some ⟨w.heap.size + 1 + 1 + 1, 0, none⟩) ns ns)).over b2 (by rw [hsz]; omega)
  have B2 : Below w.heap.size w w2 := (Below.setCell B1 (by first | (simp; done) | (simp; omega) | omega) _).trans (b2.mono (by rw [hsz]; omega))
  have i2 := F2.inside
  clear X0 X1 X2 x2 x3 f2 b1 b2 F1 hsz hrs hrt hls hlt B1
  have y0 := Y2.at_ 0
  have y1 := Y2.at_ 1
  have y2 := Y2.at_ 2
  have z0 := Y1.at_ 0
  have z1 := Y1.at_ 1
  have z2 := Y1.at_ 2
  have fy := Y2.free 2
  have fz0 := Y1.free 0
  have fz1 := Y1.free 1
  have fz2 := Y1.free 2
  simp at y0 y1 y2 z0 z1 z2
  go_wp2_with fail
  refine bodyPost_ret (v := .agg #[.int .i64 a, .slice (some ⟨w.heap.size + 1 + 1 + 1, 0, none⟩) ns ns, .slice (some ⟨w1.heap.size, 0, none⟩) nt nt]) ?_ rfl ⟨w.heap.size + 1 + 1 + 1, w1.heap.size, rfl, by omega, by omega, by omega, ?_, ?_, ?_⟩
  · have hZ := ((((Y1.elsewhere (p := ⟨w.heap.size + 1 + 1, 2, none⟩) (by simp) (.slice (some ⟨w1.heap.size, 0, none⟩) nt nt)).put 0 (.int .i64 a)).put 1 (.slice (some ⟨w.heap.size + 1 + 1 + 1, 0, none⟩) ns ns)).put 2 (.slice (some ⟨w1.heap.size, 0, none⟩) nt nt))
    have s0 := hZ.at_ 0
    have s1 := hZ.at_ 1
    have s2 := hZ.at_ 2
    simp at s0 s1 s2
    simp [results, Tryd.results14, go_sem, s0, s1, s2]
  · repeat' (first | exact Y3 | refine Full.elsewhere ?_ (by first | (simp; done) | (simp; omega) | omega) _)
  · repeat' (first | exact F2 | refine Full.elsewhere ?_ (by first | (simp; done) | (simp; omega) | omega) _)
  · repeat' (first | exact B2 | refine Below.setCell ?_ (by first | (simp; done) | (simp; omega) | omega) _)
set_option maxHeartbeats 400000 in
theorem szInt64S_yes (A : Option Addr) (n c : Nat) (m : Int) (w : World) (hn : (n : Int) ≤ m) (hm : m ≤ 1048576) :
    Calls Tryd.prog 31 #[.slice A n c, .int .i64 m] w fun e w' => e = .returned (.int .i64 (m - (n : Int))) ∧ w = w' := by
  go_enter Tryd.func31, Tryd.ntmps31
  go_wp2
  go_ret
  exact ⟨rfl, rfl⟩
set_option maxHeartbeats 400000 in
theorem szInt64S_no (A : Option Addr) (n c : Nat) (m : Int) (w : World) (hn : m < (n : Int)) (hm : n ≤ 9223372036854775807) (h0 : 0 ≤ m) :
    Calls Tryd.prog 31 #[.slice A n c, .int .i64 m] w fun e w' => e = .returned (.int .i64 (-1)) ∧ w = w' := by
  go_enter Tryd.func31, Tryd.ntmps31
  go_wp2
  go_ret
  exact ⟨rfl, rfl⟩
set_option maxHeartbeats 400000 in
theorem szRule_yes (a : Int) (As : Option Addr) (ns cs : Nat) (At : Option Addr) (nt ct : Nat) (w : World) (h : ns + nt ≤ 1048576) :
    Calls Tryd.prog 12 #[.agg #[.int .i64 a, .slice As ns cs, .slice At nt ct], .int .i64 1048576] w fun e w' => e = .returned (.int .i64 (1048576 - (ns : Int) - (nt : Int))) ∧ w.alloc (.cells #[.int .i64 a, .slice As ns cs, .slice At nt ct] 32) = w' := by
  go_enter Tryd.func12, Tryd.ntmps12
  go_wp2_with fail
  refine (szInt64S_yes _ _ _ _ _ (by omega) (by omega)).mono ?_
  rintro e w' ⟨rfl, rfl⟩
  go_wp2_with fail
  refine (szInt64S_yes _ _ _ _ _ (by omega) (by omega)).mono ?_
  rintro e w' ⟨rfl, rfl⟩
  go_wp2_with fail
  go_ret
  exact ⟨rfl, rfl⟩
set_option maxHeartbeats 400000 in
theorem szRule_no (a : Int) (As : Option Addr) (ns cs : Nat) (At : Option Addr) (nt ct : Nat) (w : World) (h : 1048576 < ns + nt) (hs : ns ≤ 9223372036854775807) (ht : nt ≤ 9223372036854775807) :
    Calls Tryd.prog 12 #[.agg #[.int .i64 a, .slice As ns cs, .slice At nt ct], .int .i64 1048576] w fun e w' => e = .returned (.int .i64 (-1)) ∧ w.alloc (.cells #[.int .i64 a, .slice As ns cs, .slice At nt ct] 32) = w' := by
  by_cases h1 : 1048576 < ns
  · go_enter Tryd.func12, Tryd.ntmps12
    go_wp2_with fail
    refine (szInt64S_no _ _ _ _ _ (by omega) hs (by omega)).mono ?_
    rintro e w' ⟨rfl, rfl⟩
    go_wp2_with fail
    go_ret
    exact ⟨rfl, rfl⟩
  · go_enter Tryd.func12, Tryd.ntmps12
    go_wp2_with fail
    refine (szInt64S_yes _ _ _ _ _ (by omega) (by omega)).mono ?_
    rintro e w' ⟨rfl, rfl⟩
    go_wp2_with fail
    refine (szInt64S_no _ _ _ _ _ (by omega) ht (by omega)).mono ?_
    rintro e w' ⟨rfl, rfl⟩
    go_wp2_with fail
    go_ret
    exact ⟨rfl, rfl⟩
set_option maxHeartbeats 1000000 in
theorem eqRule_same (a : Int) (A1 A2 B1 B2 : Option Addr) (ns nt c1 c2 d1 d2 : Nat) (ls lt : List Int) (w : World) (hls : ls.length = ns) (hns : ns ≤ 1048576) (hlt : lt.length = nt) (hnt : nt ≤ 1048576)
    (h1 : Sees w w.heap.size A1 (ls.map (Value.int .i64))) (h2 : Sees w w.heap.size A2 (ls.map (Value.int .i64))) (h3 : Sees w w.heap.size B1 (lt.map (Value.int .i64))) (h4 : Sees w w.heap.size B2 (lt.map (Value.int .i64))) :
    Calls Tryd.prog 16 #[.agg #[.int .i64 a, .slice A1 ns c1, .slice B1 nt d1], .agg #[.int .i64 a, .slice A2 ns c2, .slice B2 nt d2]] w fun e w' => e = .returned (.bool true) ∧ Below w.heap.size w w' := by
  have K : ∀ (A : Option Addr) (xs : List Value), Sees w w.heap.size A xs → ∀ o1 o2 : Obj, Sees ((w.alloc o1).alloc o2) w.heap.size A xs := fun A xs h o1 o2 => (h.block (Nat.le_refl _) o1).block (by simp) o2
  have k1 := K _ _ h1
  have k2 := K _ _ h2
  have k3 := K _ _ h3
  have k4 := K _ _ h4
  have Hls := Lib.hid hls
  have Hlt := Lib.hid hlt
  clear K h1 h2 h3 h4 hls hlt
  go_enter Tryd.func16, Tryd.ntmps16
  go_wp2_with fail
  refine (eqInt64S_same _ _ _ _ _ ls _ _ _ Hls.out (by omega) (k1 _ _) (k2 _ _)).mono ?_
  rintro e w' ⟨rfl, q1, rfl⟩
  go_wp2_with fail
  refine (eqInt64S_same _ _ _ _ _ lt _ _ _ Hlt.out (by omega) ((k3 _ _).draws _) ((k4 _ _).draws _)).mono ?_
  rintro e w' ⟨rfl, q2, rfl⟩
  go_wp2_with fail
  go_ret
  refine ⟨rfl, ?_⟩
  first
    | exact belowDraws (((Below.refl _ _).alloc (Nat.le_refl _) _).alloc (by simp) _) _
    | exact belowDraws (belowDraws (((Below.refl _ _).alloc (Nat.le_refl _) _).alloc (by simp) _) _) _
end Go.Proofs.YtibcbhphkafgjaaDoor
