/- Rules (layer 11): when a rule is one; the copies of a rule that a law makes. No condition. -/
import Derived.Test.YtibcbhphkafgjaaDoorRule
import Derived.Test.YtibcbhphkafgjaaDoorMk2
namespace Go.Proofs.YtibcbhphkafgjaaDoor
open Go.RowKit
set_option linter.unusedVariables false

/-- a quiet call inside a region that draws, behind draws or not -/
theorem quietAny {P : Program} {f : FuncId} {args : Array Value} {w : World} {a n : Nat} {v : Value}
    (h : Calls P f args (w.drewN (a + n)) fun e w' => e = .returned v ∧ w.drewN (a + n) = w') : Calls P f args (w.drewN (a + n)) fun e w'' => e = .returned v ∧ ∃ m, w'' = w.drewN (a + m) :=
  h.mono fun _ _ ⟨he, hm⟩ => ⟨he, n, hm.symm⟩
theorem inScale_iff {s : Int} : inB s 0 5 = true ↔ 0 ≤ s ∧ s ≤ 5 := inB_iff
theorem errScale_of {s : Int} (h : inB s 0 5 = true) (h5 : ¬ s = 5) : errScaleB s = true := by simp [errScaleB, h, h5]
theorem errScale_no {s : Int} (h : inB s 0 5 = false) : errScaleB s = false := by simp [errScaleB, h]
theorem errScale_5 {s : Int} (h5 : s = 5) : errScaleB s = false := by simp [errScaleB, h5]
set_option maxHeartbeats 1000000 in
theorem areScales_any (A : Option Addr) (n c : Nat) (l : List Int) (w : World) (hl : l.length = n) (hnc : n ≤ c) (hn : n ≤ 1048576) (hs : Sees w w.heap.size A (l.map (Value.int .i64))) :
    Calls Tryd.prog 57 #[.slice A n c] w fun e w' => e = .returned (.bool (scalesB l)) ∧ w = w' := by
  go_enter Tryd.func57, Tryd.ntmps57
  go_wp2_with fail
  go_loop [7] (fun i => ∃ k : Nat, k ≤ n ∧ i = .int .i64 k ∧ goodTo l k = true) (fun i => n - (intOf i).toNat)
  case atStart => exact ⟨0, Nat.zero_le _, rfl, rfl⟩
  case round =>
    obtain ⟨k, hk, rfl, hg⟩ := hrel
    have Hg := Lib.hid hg
    clear hg
    by_cases hlt : k < n
    · have HT := (hs.front k)
      rw [← List.map_take] at HT
      obtain ⟨b, off, x, rfl, hb, hx, c0⟩ := hs.cellOf (k := k) (by omega)
      have Hx := Lib.hid hx
      have HTL : (l.take k).length = k := by rw [List.length_take]; omega
      have HTl := Lib.hid HTL
      have Hl := Lib.hid hl
      clear hx hs HTL hl
      by_cases h1 : inB x 0 5 = true
      · by_cases h2 : x = 5
        · have t2 : (x == 5) = true := by simp [h2]
          have Hv := Lib.hid (scalesB_no (k := k + 1) (by rw [Hl.out]; exact hlt) (goodTo_bad1 Hx.out (errScale_5 h2)))
          clear h2
          go_wp2_with (go_at_call 72; refine (iIsScale_any _ _).mono ?_; rintro e w' ⟨rfl, rfl⟩)
          go_ret
          exact ⟨endBool Hv.out.symm, rfl⟩
        · have t2 : (x == 5) = false := by simp [h2]
          have hE := errScale_of h1 h2
          have HE := Lib.hid hE
          clear hE h2
          by_cases h3 : x ∈ l.take k
          · have Hv := Lib.hid (scalesB_no (k := k + 1) (by rw [Hl.out]; exact hlt) (goodTo_bad2 Hx.out h3))
            have D := Lib.hid (decide_eq_true h3)
            clear h3
            go_wp2_with (first
              | (go_at_call 72; refine (iIsScale_any _ _).mono ?_; rintro e w' ⟨rfl, rfl⟩)
              | (go_at_call 73; refine (contains_any _ _ _ (l.take k) _ _ _ HTl.out (by omega) HT).mono ?_; rintro e w' ⟨rfl, rfl⟩; rw [D.out]))
            go_ret
            exact ⟨endBool Hv.out.symm, rfl⟩
          · have Hok := Lib.hid (goodTo_ok Hx.out Hg.out HE.out h3)
            have D := Lib.hid (decide_eq_false h3)
            clear h3
            go_wp2_with (first
              | (go_at_call 72; refine (iIsScale_any _ _).mono ?_; rintro e w' ⟨rfl, rfl⟩)
              | (go_at_call 73; refine (contains_any _ _ _ (l.take k) _ _ _ HTl.out (by omega) HT).mono ?_; rintro e w' ⟨rfl, rfl⟩; rw [D.out]))
            go_round
            case rel => exact ⟨k + 1, by omega, by go_num, Hok.out⟩
            case measure => simp [intOf]; omega
      · have h1' : inB x 0 5 = false := by simpa using h1
        have Hv := Lib.hid (scalesB_no (k := k + 1) (by rw [Hl.out]; exact hlt) (goodTo_bad1 Hx.out (errScale_no h1')))
        go_wp2_with (go_at_call 72; refine (iIsScale_any _ _).mono ?_; rintro e w' ⟨rfl, rfl⟩)
        go_ret
        exact ⟨endBool Hv.out.symm, rfl⟩
    · obtain rfl : k = n := by omega
      have Hv := Lib.hid (show scalesB l = inB (k : Int) 1 6 by rw [scalesB, hl, Hg.out]; simp)
      clear hl hs
      go_wp2
      all_goals go_ret
      all_goals (refine ⟨endBool (Eq.trans ?_ Hv.out.symm), rfl⟩)
      all_goals (simp [inB]; try omega)
set_option maxHeartbeats 1000000 in
theorem l11Scales_any (A : Option Addr) (n c : Nat) (l : List Int) (w : World) (hl : l.length = n) (hnc : n ≤ c) (hn : n ≤ 1048576) (hs : Sees w w.heap.size A (l.map (Value.int .i64))) :
    Calls Tryd.prog 53 #[.slice A n c] w fun e w' => e = .returned (.bool (scalesB l)) ∧ ∃ q, w' = w.drewN q := by
  go_enter Tryd.func53, Tryd.ntmps53
  go_wp2_with fail
  go_loopw [3] (fun i wr => ∃ k q : Nat, k ≤ n ∧ i = .int .i64 k ∧ goodTo l k = true ∧ wr = w.drewN q) (fun i _ => n - (intOf i).toNat)
  case atStart => exact ⟨0, 0, Nat.zero_le _, rfl, rfl, rfl⟩
  case round =>
    obtain ⟨k, q, hk, rfl, hg, rfl⟩ := hrel
    have Hg := Lib.hid hg
    clear hg
    by_cases hlt : k < n
    · have HT : ∀ m, Sees (w.drewN m) w.heap.size A ((l.take k).map (Value.int .i64)) := fun m => by rw [List.map_take]; exact hs.front k
      have HT' := Lib.hid HT
      clear HT
      obtain ⟨b, off, x, rfl, hb, hx, c0⟩ := hs.cellOf (k := k) (by omega)
      have Hx := Lib.hid hx
      have HTl := Lib.hid (show (l.take k).length = k by rw [List.length_take]; omega)
      have Hl := Lib.hid hl
      have i0 : (k : Int) < (n : Int) := by omega
      clear hx hs hl
      by_cases h1 : errScaleB x = true
      · by_cases h3 : x ∈ l.take k
        · have Hv := Lib.hid (scalesB_no (k := k + 1) (by rw [Hl.out]; exact hlt) (goodTo_bad2 Hx.out h3))
          have D := Lib.hid (decide_eq_true h3)
          clear h3
          have CH := Lib.hid (fun m : Nat => (l01Has_any (some ⟨b, off, none⟩) k c (l.take k) x (w.drewN m) w.heap.size HTl.out (by omega) (HT'.out m)).mono (fun e w' h => (⟨h.1.trans (by rw [D.out]), h.2⟩ : e = .returned (.bool true) ∧ w.drewN m = w')))
          go_wp2_with fail
          go_quiet ((first | (go_at_call 68; exact quietAny (l10Scale_any _ _)) | (go_at_call 69; exact quietAny (CH.out _))))
          go_wp2
          go_ret
          exact ⟨endBool Hv.out.symm, q + nq, by first | rfl | rw [World.drewN_drewN]⟩
        · have Hok := Lib.hid (goodTo_ok Hx.out Hg.out h1 h3)
          have D := Lib.hid (decide_eq_false h3)
          clear h3
          have CH := Lib.hid (fun m : Nat => (l01Has_any (some ⟨b, off, none⟩) k c (l.take k) x (w.drewN m) w.heap.size HTl.out (by omega) (HT'.out m)).mono (fun e w' h => (⟨h.1.trans (by rw [D.out]), h.2⟩ : e = .returned (.bool false) ∧ w.drewN m = w')))
          go_wp2_with fail
          go_quiet ((first | (go_at_call 68; exact quietAny (l10Scale_any _ _)) | (go_at_call 69; exact quietAny (CH.out _))))
          go_wp2
          go_roundw
          case rel => exact ⟨k + 1, q + nq, by omega, by go_num, Hok.out, by first | rfl | rw [World.drewN_drewN]⟩
          case measure => simp [intOf]; omega
      · have h1' : errScaleB x = false := by simpa using h1
        have Hv := Lib.hid (scalesB_no (k := k + 1) (by rw [Hl.out]; exact hlt) (goodTo_bad1 Hx.out h1'))
        go_wp2_with fail
        go_quiet ((go_at_call 68; exact quietAny (l10Scale_any _ _)))
        go_wp2
        go_ret
        exact ⟨endBool Hv.out.symm, q + nq, by first | rfl | rw [World.drewN_drewN]⟩
    · obtain rfl : k = n := by omega
      have Hv := Lib.hid (show scalesB l = inB (k : Int) 1 6 by rw [scalesB, hl, Hg.out]; simp)
      clear hl hs
      go_wp2_with (go_at_call 48; refine (l01In_any _ _ _ _).mono ?_; rintro e w' ⟨rfl, rfl⟩)
      go_ret
      exact ⟨endBool Hv.out.symm, q, rfl⟩

def ruleB (a : Int) (ls lt : List Int) : Bool := inB a 1 100000 && (scalesB ls && scalesB lt)
set_option maxHeartbeats 1000000 in
theorem iIsRule_any (a : Int) (As : Option Addr) (ns cs : Nat) (ls : List Int) (At : Option Addr) (nt ct : Nat) (lt : List Int) (w : World) (hls : ls.length = ns) (hcs : ns ≤ cs) (hns : ns ≤ 1048576) (hrs : Sees w w.heap.size As (ls.map (Value.int .i64))) (hlt : lt.length = nt) (hct : nt ≤ ct) (hnt : nt ≤ 1048576) (hrt : Sees w w.heap.size At (lt.map (Value.int .i64))) :
    Calls Tryd.prog 35 #[.agg #[.int .i64 a, .slice As ns cs, .slice At nt ct]] w fun e w' => e = .returned (.bool (ruleB a ls lt)) ∧ Below w.heap.size w w' := by
  have Hls := Lib.hid hls
  have Hlt := Lib.hid hlt
  clear hls hlt
  by_cases h1 : inB a 1 100000 = true
  · go_enter Tryd.func35, Tryd.ntmps35
    go_wp2_with (go_at_call 56; refine (isLength_any _ _).mono ?_; rintro e w' ⟨rfl, rfl⟩)
    refine (areScales_any _ _ _ ls _ Hls.out hcs hns ((hrs.block (Nat.le_refl _) _).wider (by simp))).mono ?_
    rintro e w' ⟨rfl, rfl⟩
    by_cases h2 : scalesB ls = true
    · rw [h2]
      go_wp2_with fail
      refine (areScales_any _ _ _ lt _ Hlt.out hct hnt ((hrt.block (Nat.le_refl _) _).wider (by simp))).mono ?_
      rintro e w' ⟨rfl, rfl⟩
      by_cases h3 : scalesB lt = true
      · have Hv := Lib.hid (show ruleB a ls lt = true by simp [ruleB, h1, h2, h3])
        rw [h3]
        go_wp2_with fail
        go_ret
        exact ⟨endBool Hv.out.symm, (Below.refl _ _).alloc (Nat.le_refl _) _⟩
      · have h3' : scalesB lt = false := by simpa using h3
        have Hv := Lib.hid (show ruleB a ls lt = false by simp [ruleB, h3'])
        rw [h3']
        go_wp2_with fail
        go_ret
        exact ⟨endBool Hv.out.symm, (Below.refl _ _).alloc (Nat.le_refl _) _⟩
    · have h2' : scalesB ls = false := by simpa using h2
      have Hv := Lib.hid (show ruleB a ls lt = false by simp [ruleB, h2'])
      rw [h2']
      go_wp2_with fail
      go_ret
      exact ⟨endBool Hv.out.symm, (Below.refl _ _).alloc (Nat.le_refl _) _⟩
  · have h1' : inB a 1 100000 = false := by simpa using h1
    have Hv := Lib.hid (show ruleB a ls lt = false by simp [ruleB, h1'])
    go_enter Tryd.func35, Tryd.ntmps35
    go_wp2_with (go_at_call 56; refine (isLength_any _ _).mono ?_; rintro e w' ⟨rfl, rfl⟩)
    go_ret
    exact ⟨endBool Hv.out.symm, (Below.refl _ _).alloc (Nat.le_refl _) _⟩
set_option maxHeartbeats 1000000 in
theorem sIsRule_any (a : Int) (As : Option Addr) (ns cs : Nat) (ls : List Int) (At : Option Addr) (nt ct : Nat) (lt : List Int) (w : World) (hls : ls.length = ns) (hcs : ns ≤ cs) (hns : ns ≤ 1048576) (hrs : Sees w w.heap.size As (ls.map (Value.int .i64))) (hlt : lt.length = nt) (hct : nt ≤ ct) (hnt : nt ≤ 1048576) (hrt : Sees w w.heap.size At (lt.map (Value.int .i64))) :
    Calls Tryd.prog 32 #[.agg #[.int .i64 a, .slice As ns cs, .slice At nt ct]] w fun e w' => e = .returned (.bool (ruleB a ls lt)) ∧ Below w.heap.size w w' := by
  have Hls := Lib.hid hls
  have Hlt := Lib.hid hlt
  clear hls hlt
  by_cases h1 : inB a 1 100000 = true
  · go_enter Tryd.func32, Tryd.ntmps32
    go_wp2_with (go_at_call 52; refine (l05Length_any _ _).mono ?_; rintro e w' ⟨rfl, rfl⟩)
    refine (l11Scales_any _ _ _ ls _ Hls.out hcs hns ((hrs.block (Nat.le_refl _) _).wider (by simp))).mono ?_
    rintro e w' ⟨rfl, q1, rfl⟩
    by_cases h2 : scalesB ls = true
    · rw [h2]
      go_wp2_with fail
      refine (l11Scales_any _ _ _ lt _ Hlt.out hct hnt ((((hrt.block (Nat.le_refl _) _).wider (by simp))).draws _)).mono ?_
      rintro e w' ⟨rfl, q2, rfl⟩
      by_cases h3 : scalesB lt = true
      · have Hv := Lib.hid (show ruleB a ls lt = true by simp [ruleB, h1, h2, h3])
        rw [h3]
        go_wp2_with fail
        go_ret
        exact ⟨endBool Hv.out.symm, by first | exact belowDraws (belowDraws ((Below.refl _ _).alloc (Nat.le_refl _) _) _) _ | exact belowDraws ((Below.refl _ _).alloc (Nat.le_refl _) _) _⟩
      · have h3' : scalesB lt = false := by simpa using h3
        have Hv := Lib.hid (show ruleB a ls lt = false by simp [ruleB, h3'])
        rw [h3']
        go_wp2_with fail
        go_ret
        exact ⟨endBool Hv.out.symm, by first | exact belowDraws (belowDraws ((Below.refl _ _).alloc (Nat.le_refl _) _) _) _ | exact belowDraws ((Below.refl _ _).alloc (Nat.le_refl _) _) _⟩
    · have h2' : scalesB ls = false := by simpa using h2
      have Hv := Lib.hid (show ruleB a ls lt = false by simp [ruleB, h2'])
      rw [h2']
      go_wp2_with fail
      go_ret
      exact ⟨endBool Hv.out.symm, belowDraws ((Below.refl _ _).alloc (Nat.le_refl _) _) _⟩
  · have h1' : inB a 1 100000 = false := by simpa using h1
    have Hv := Lib.hid (show ruleB a ls lt = false by simp [ruleB, h1'])
    go_enter Tryd.func32, Tryd.ntmps32
    go_wp2_with (go_at_call 52; refine (l05Length_any _ _).mono ?_; rintro e w' ⟨rfl, rfl⟩)
    go_ret
    exact ⟨endBool Hv.out.symm, (Below.refl _ _).alloc (Nat.le_refl _) _⟩
end Go.Proofs.YtibcbhphkafgjaaDoor
