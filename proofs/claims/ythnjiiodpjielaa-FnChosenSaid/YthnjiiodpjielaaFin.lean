/- FinestStep (layer 7). No condition. -/
import Derived.Test.YthnjiiodpjielaaLd2
namespace Go.Proofs.Ythnjiiodpjielaa
open Go.RowKit
set_option linter.unusedVariables false
set_option linter.unusedSimpArgs false

def steps : List Int := [1, 2, 5, 10, 20, 50, 100, 200, 500]
theorem steps_at {k : Nat} (h : k < 9) : ∃ y, steps[k]? = some y ∧ (#[.int .i64 1, .int .i64 2, .int .i64 5, .int .i64 10, .int .i64 20, .int .i64 50, .int .i64 100, .int .i64 200, .int .i64 500] : Array Value)[k]? = some (.int .i64 y) ∧ 1 ≤ y ∧ y ≤ 500 := by
  match k, h with
  | 0, _ => exact ⟨1, rfl, rfl, by omega, by omega⟩
  | 1, _ => exact ⟨2, rfl, rfl, by omega, by omega⟩
  | 2, _ => exact ⟨5, rfl, rfl, by omega, by omega⟩
  | 3, _ => exact ⟨10, rfl, rfl, by omega, by omega⟩
  | 4, _ => exact ⟨20, rfl, rfl, by omega, by omega⟩
  | 5, _ => exact ⟨50, rfl, rfl, by omega, by omega⟩
  | 6, _ => exact ⟨100, rfl, rfl, by omega, by omega⟩
  | 7, _ => exact ⟨200, rfl, rfl, by omega, by omega⟩
  | 8, _ => exact ⟨500, rfl, rfl, by omega, by omega⟩
/-- a step that serves for a part -/
def fineB (s len fr to lim y : Int) : Bool := decide ((to - fr) % y = 0) && (decide (leastOf s len (upTo to y fr) < 0) || decide (lim ≤ leastOf s len (upTo to y fr)))
def finestL (s len fr to lim : Int) : List Int → Int
  | [] => 0
  | y :: r => if fineB s len fr to lim y = true then y else finestL s len fr to lim r
def finest (s len fr to lim : Int) : Int := finestL s len fr to lim steps
theorem finestL_yes {s len fr to lim y : Int} {k : Nat} (hy : steps[k]? = some y) (h : fineB s len fr to lim y = true) : finestL s len fr to lim (steps.drop k) = y := by
  obtain ⟨hk', e⟩ := List.getElem?_eq_some_iff.1 hy
  rw [List.drop_eq_getElem_cons hk', e, finestL, if_pos h]
theorem finestL_no {s len fr to lim y : Int} {k : Nat} (hy : steps[k]? = some y) (h : ¬ fineB s len fr to lim y = true) : finestL s len fr to lim (steps.drop k) = finestL s len fr to lim (steps.drop (k + 1)) := by
  obtain ⟨hk', e⟩ := List.getElem?_eq_some_iff.1 hy
  rw [List.drop_eq_getElem_cons hk', e, finestL, if_neg h]
theorem finestL_bd {s len fr to lim : Int} : ∀ l : List Int, (∀ y ∈ l, 0 ≤ y ∧ y ≤ 500) → 0 ≤ finestL s len fr to lim l ∧ finestL s len fr to lim l ≤ 500
  | [], _ => by simp [finestL]
  | y :: r, h => by
    rw [finestL]
    split
    · exact h y (List.mem_cons_self ..)
    · exact finestL_bd r (fun z hz => h z (List.mem_cons_of_mem _ hz))
theorem finest_bd {s len fr to lim : Int} : 0 ≤ finest s len fr to lim ∧ finest s len fr to lim ≤ 500 := finestL_bd steps (by decide)
theorem seesOne (W : World) (a b c : Int) (T : TypeId) : Sees (W.alloc (.cells #[.int .i64 a, .int .i64 b, .int .i64 c] T)) (W.alloc (.cells #[.int .i64 a, .int .i64 b, .int .i64 c] T)).heap.size (some ⟨W.heap.size, 0, none⟩) (cells3 [(a, b, c)]) :=
  Full.sees (xs := cells3 [(a, b, c)]) (Full.made W T _)
theorem marks_one (a b c : Int) : marks [(a, b, c)] = upTo b c a := by simp [marks, marksP]
theorem endIntB {a b : Int} {p q : Bool} (h : a = b) (h2 : p = q) : Ending.returned (.tuple #[.int .i64 a, .bool p]) = .returned (.tuple #[.int .i64 b, .bool q]) := by subst h h2; rfl
set_option maxRecDepth 100000 in
set_option maxHeartbeats 4000000 in
theorem finestStep_any (s len fr to lim : Int) (w : World) (h1 : 1 ≤ len) (h2 : len ≤ 100000) (f1 : 1000 ≤ fr) (f2 : fr < to) (f3 : to ≤ 10000) (l1 : 0 ≤ lim) (l2 : lim ≤ 100000) :
    Calls Try.prog 67 #[.int .i64 s, .int .i64 len, .int .i64 fr, .int .i64 to, .int .i64 lim] w fun e w' => e = .returned (.tuple #[.int .i64 (finest s len fr to lim), .bool (decide (0 < finest s len fr to lim))]) ∧ Below w.heap.size w w' := by
  go_enter Try.func67, Try.ntmps67
  go_wp2_with fail
  go_loopw [18] (fun i wr => ∃ k : Nat, k ≤ 9 ∧ i = .int .i64 k ∧ finest s len fr to lim = finestL s len fr to lim (steps.drop k) ∧ Full wr w.heap.size 2 #[.int .i64 1, .int .i64 2, .int .i64 5, .int .i64 10, .int .i64 20, .int .i64 50, .int .i64 100, .int .i64 200, .int .i64 500] ∧ Below w.heap.size w wr) (fun i _ => 9 - (intOf i).toNat)
  case atStart => exact ⟨0, by omega, rfl, rfl, Full.made _ _ _, by repeat' (first | exact Below.refl _ _ | assumption | refine Below.alloc ?_ (by first | omega | (simp; done) | (simp; omega)) _ | refine Below.drew ?_ | refine Below.setCell ?_ (by first | omega | (simp; done) | (simp; omega)) _)⟩
  case round =>
    obtain ⟨k, hk, rfl, hf, hF, hB⟩ := hrel
    have Hf := Lib.hid hf
    clear hf
    by_cases hlt : k < 9
    · obtain ⟨y, hy, hv, y1, y2⟩ := steps_at hlt
      have c0 := (hF.at_ k).trans hv
      have hin := hF.inside
      have Hy := Lib.hid hy
      clear hy hv
      have i0 : (0 : Int) ≤ (k : Int) := by omega
      have i1 : (k : Int) < 9 := by omega
      by_cases hdv : (to - fr) % y = 0
      · have hd : ((to - fr) % y != 0) = false := by simp [hdv]
        have hpar : partsIn [(fr, to, y)] := by
          intro p hp
          obtain rfl := List.mem_singleton.1 hp
          exact ⟨f1, f2, f3, y1, hdv⟩
        have hml := marks_length hpar
        have hma := upTo_all (to := to) (step := y) (x := fr) f1 f3 y1
        have hmn : (upTo to y fr).length ≤ 1000000 := by rw [marks_one] at hml; simp at hml; omega
        have hm1 : 1 ≤ (upTo to y fr).length := by rw [upTo_step y1 f2]; simp
        have HB := Lib.hid (show fineB s len fr to lim y = (decide (leastOf s len (upTo to y fr) < 0) || decide (lim ≤ leastOf s len (upTo to y fr))) by rw [fineB, hdv]; rfl)
        clear hdv hml
        go_wp2_with fail
        refine (marksOf_any _ 1 1 [(fr, to, y)] _ rfl (by omega) (seesOne _ _ _ _ _) hpar).mono ?_
        rintro e w1 ⟨v, rfl, hown, b1⟩
        rw [marks_one] at hown
        obtain ⟨A', c', rfl⟩ := ownShape hown
        have B1 : Below w.heap.size w w1 := Below.trans (by repeat' (first | exact Below.refl _ _ | assumption | refine Below.alloc ?_ (by first | omega | (simp; done) | (simp; omega)) _ | refine Below.drew ?_ | refine Below.setCell ?_ (by first | omega | (simp; done) | (simp; omega)) _)) (b1.mono (by first | omega | (simp; done) | (simp; omega)))
        have hF1 : Full w1 w.heap.size 2 #[.int .i64 1, .int .i64 2, .int .i64 5, .int .i64 10, .int .i64 20, .int .i64 50, .int .i64 100, .int .i64 200, .int .i64 500] := (hF.block _).over b1 (by have := hB.size; have := hF.inside; simp; omega)
        have hz1 := B1.size
        have S1 := Sees.ofOwn hown
        clear hown b1
        generalize upTo to y fr = m at *
        go_wp2_with fail
        refine (leastDistance_any A' _ c' m s len w1 rfl hm1 hmn S1 hma h1 h2).mono ?_
        rintro e w2 ⟨rfl, b2⟩
        have B2 := B1.trans (b2.mono hz1)
        have hF2 := hF1.over b2 hF1.inside
        have hz2 := B2.size
        clear S1 hma
        by_cases h0 : 0 ≤ leastOf s len m
        · have hd0 : decide (0 ≤ leastOf s len m) = true := by simpa using h0
          by_cases h3 : lim ≤ leastOf s len m
          · have HV := Lib.hid (Hf.out.trans (finestL_yes Hy.out (by rw [HB.out]; simp [h3])))
            generalize leastOf s len m = d at *
            go_wp2_with fail
            go_ret2
            exact ⟨endIntB HV.out.symm (by rw [HV.out]; simp; omega), B2⟩
          · have HV := Lib.hid (Hf.out.trans (finestL_no Hy.out (by rw [HB.out]; simp [h3, h0])))
            generalize leastOf s len m = d at *
            go_wp2_with fail
            go_roundw
            case rel => exact ⟨k + 1, by omega, by go_num, HV.out, hF2, B2⟩
            case measure => simp [intOf]; omega
        · have hd0 : decide (0 ≤ leastOf s len m) = false := by simpa using h0
          have HV := Lib.hid (Hf.out.trans (finestL_yes Hy.out (by rw [HB.out]; simp; omega)))
          generalize leastOf s len m = d at *
          go_wp2_with fail
          go_ret2
          exact ⟨endIntB HV.out.symm (by rw [HV.out]; simp; omega), B2⟩
      · have hd : ((to - fr) % y != 0) = true := by simp [hdv]
        have HV := Lib.hid (Hf.out.trans (finestL_no Hy.out (by rw [fineB]; simp [hdv])))
        clear hdv
        go_wp2_with fail
        go_roundw
        case rel => exact ⟨k + 1, by omega, by go_num, HV.out, hF, hB⟩
        case measure => simp [intOf]; omega
    · obtain rfl : k = 9 := by omega
      have HV := Lib.hid (show finest s len fr to lim = 0 from Hf.out)
      go_wp2_with fail
      go_ret2
      exact ⟨endIntB HV.out.symm (by rw [HV.out]; rfl), hB⟩
set_option maxHeartbeats 400000 in
theorem l07Steps_any (w : World) :
    Calls Try.prog 131 #[] w fun e w' => e = .returned (.slice (some ⟨w.heap.size, 0, none⟩) 9 9) ∧ w.alloc (.cells #[.int .i64 1, .int .i64 2, .int .i64 5, .int .i64 10, .int .i64 20, .int .i64 50, .int .i64 100, .int .i64 200, .int .i64 500] 2) = w' := by
  go_enter Try.func131, Try.ntmps131
  go_wp2
  go_ret
  exact ⟨rfl, rfl⟩
set_option maxRecDepth 100000 in
set_option maxHeartbeats 4000000 in
theorem l07Finest_any (s len fr to lim : Int) (w : World) (h1 : 1 ≤ len) (h2 : len ≤ 100000) (f1 : 1000 ≤ fr) (f2 : fr < to) (f3 : to ≤ 10000) (l1 : 0 ≤ lim) (l2 : lim ≤ 100000) :
    Calls Try.prog 71 #[.int .i64 s, .int .i64 len, .int .i64 fr, .int .i64 to, .int .i64 lim] w fun e w' => e = .returned (.int .i64 (finest s len fr to lim)) ∧ Below w.heap.size w w' := by
  obtain ⟨i0, hi, hz0, hz1, hz2⟩ := info_parts infoI64
  go_enter Try.func71, Try.ntmps71
  go_wp2_with (go_at_call 131; refine (l07Steps_any _).mono ?_; rintro e w' ⟨rfl, rfl⟩)
  go_loopw [12] (fun i wr => ∃ k : Nat, k ≤ 9 ∧ i = .int .i64 k ∧ finest s len fr to lim = finestL s len fr to lim (steps.drop k) ∧ Full wr w.heap.size 2 #[.int .i64 1, .int .i64 2, .int .i64 5, .int .i64 10, .int .i64 20, .int .i64 50, .int .i64 100, .int .i64 200, .int .i64 500] ∧ Below w.heap.size w wr) (fun i _ => 9 - (intOf i).toNat)
  case atStart => exact ⟨0, by omega, rfl, rfl, Full.made _ _ _, by repeat' (first | exact Below.refl _ _ | assumption | refine Below.alloc ?_ (by first | omega | (simp; done) | (simp; omega)) _ | refine Below.drew ?_ | refine Below.setCell ?_ (by first | omega | (simp; done) | (simp; omega)) _)⟩
  case round =>
    obtain ⟨k, hk, rfl, hf, hF, hB⟩ := hrel
    have Hf := Lib.hid hf
    clear hf
    by_cases hlt : k < 9
    · obtain ⟨y, hy, hv, y1, y2⟩ := steps_at hlt
      have c0 := (hF.at_ k).trans hv
      have hin := hF.inside
      have Hy := Lib.hid hy
      clear hy hv
      have i0' : (0 : Int) ≤ (k : Int) := by omega
      have i1' : (k : Int) < 9 := by omega
      by_cases hdv : (to - fr) % y = 0
      · have hd : ((to - fr) % y != 0) = false := by simp [hdv]
        have hma := upTo_all (to := to) (step := y) (x := fr) f1 f3 y1
        have hmn : (upTo to y fr).length ≤ 9000 := by unfold upTo; have := climb_length to y (to - fr).toNat fr; omega
        have HB := Lib.hid (show fineB s len fr to lim y = (decide (leastOf s len (upTo to y fr) < 0) || decide (lim ≤ leastOf s len (upTo to y fr))) by rw [fineB, hdv]; rfl)
        clear hdv
        obtain ⟨wo, rfl⟩ : ∃ wo : World, wo = wr := ⟨_, rfl⟩
        go_wp2_with fail
        go_loopw [13, 14] (fun v x wi => ∃ (nn : Int) (L : List Int), x = .int .i64 nn ∧ fr ≤ nn ∧ nn ≤ 20000 ∧ wi.ownsRow wo.heap.size 2 1 v L.length (L.map (Value.int .i64)) ∧ L ++ upTo to y nn = upTo to y fr ∧ Below wo.heap.size wo wi) (fun _ x _ => (to - intOf x).toNat)
        case atStart => exact ⟨fr, [], rfl, by omega, by omega, World.ownsRow_made wo #[] 0 (Nat.le_refl _) (Nat.zero_le _) rfl, rfl, (Below.refl _ _).alloc (Nat.le_refl _) _⟩
        case round =>
          obtain ⟨nn, L, rfl, hn1, hn2, hown2, hL2, hB2⟩ := hrel
          have HL2 := Lib.hid hL2
          have hlen : L.length ≤ 9000 := by
            have := congrArg List.length hL2
            simp only [List.length_append] at this
            omega
          clear hL2
          have hz2' := hB2.size
          have c0' := (hB2.cell (p := ⟨w.heap.size, k, none⟩) hin).trans c0
          by_cases hlt2 : nn < to
          · have Hs := Lib.hid (upTo_step y1 hlt2)
            go_wp2_with (first | (at_builtin; refine wpList_append_own _ rfl _ _ 77 rfl wo.heap.size 2 i0 (.int .i64 0) 1 8 Try.underlying77 hi hz0 hz1 hz2 rfl (by decide) _ _ _ rfl (hown2.alloc _) ⟨wr.heap.size, 0, none⟩ 1 1 [.int .i64 nn] rfl rfl ?_ ?_ ?_ ?_ ?_ ?_; exact cell_one_new _ _ _; (intro u hu; simp at hu; subst hu; rfl); (unfold maxLen; omega); omega; (simp; omega); intro v' w1 hown1 hgr1 _; have hB1 := (hB2.alloc hz2' (.cells #[.int .i64 nn] 2)).grown hgr1 (by simp; omega) (fun k hk => (hown2.lt k hk).1); have d2 := (hB1.cell (p := ⟨w.heap.size, k, none⟩) hin).trans c0))
            go_roundw
            case rel =>
              refine ⟨nn + y, L ++ [nn], rfl, by omega, by omega, by simpa using hown1, ?_, hB1⟩
              rw [← HL2.out, Hs.out]
              simp
            case measure => simp [intOf]; omega
          · have He := Lib.hid (upTo_end (step := y) (show to ≤ nn by omega))
            obtain rfl : L = upTo to y fr := by rw [← HL2.out, He.out]; simp
            obtain ⟨A', c', rfl⟩ := ownShape hown2
            have S2 := Sees.ofOwn hown2
            have BW := hB.trans (hB2.mono hB.size)
            have hFi := hF.over hB2 hin
            have hmn' : (upTo to y fr).length ≤ 1000000 := by omega
            clear hown2 HL2 He
            generalize upTo to y fr = m at *
            go_wp2_with fail
            refine (l07Least_any A' _ c' m s len wr rfl hmn' S2 hma h1 h2).mono ?_
            rintro e w2 ⟨rfl, b2⟩
            have B2 := BW.trans (b2.mono BW.size)
            have hF2 := hFi.over b2 hFi.inside
            have c2 := (b2.cell (p := ⟨w.heap.size, k, none⟩) (by simp; omega)).trans c0'
            clear S2 hma
            by_cases h0 : leastOf s len m < 0
            · have HV := Lib.hid (Hf.out.trans (finestL_yes Hy.out (by rw [HB.out]; simp [h0])))
              generalize leastOf s len m = d at *
              go_wp2_with fail
              go_ret
              exact ⟨endInt HV.out.symm, B2⟩
            · by_cases h3 : lim ≤ leastOf s len m
              · have HV := Lib.hid (Hf.out.trans (finestL_yes Hy.out (by rw [HB.out]; simp [h3])))
                generalize leastOf s len m = d at *
                go_wp2_with fail
                go_ret
                exact ⟨endInt HV.out.symm, B2⟩
              · have HV := Lib.hid (Hf.out.trans (finestL_no Hy.out (by rw [HB.out]; simp [h3, h0])))
                generalize leastOf s len m = d at *
                go_wp2_with fail
                go_roundw
                case rel => exact ⟨k + 1, by omega, by go_num, HV.out, hF2, B2⟩
                case measure => simp [intOf]; omega
      · have hd : ((to - fr) % y != 0) = true := by simp [hdv]
        have HV := Lib.hid (Hf.out.trans (finestL_no Hy.out (by rw [fineB]; simp [hdv])))
        clear hdv
        go_wp2_with fail
        go_roundw
        case rel => exact ⟨k + 1, by omega, by go_num, HV.out, hF, hB⟩
        case measure => simp [intOf]; omega
    · obtain rfl : k = 9 := by omega
      have HV := Lib.hid (show finest s len fr to lim = 0 from Hf.out)
      go_wp2_with fail
      go_ret
      exact ⟨endInt HV.out.symm, hB⟩
def finB (s len fr to lim : Int) : Bool := inB s 0 5 && inB len 1 100000 && inB fr 1000 10000 && inB to 1000 10000 && decide (fr < to) && inB lim 0 100000
def rFinest (s len fr to lim : Int) : Int × Int := if finB s len fr to lim = true then (if 0 < finest s len fr to lim then (finest s len fr to lim, 0) else (0, 4)) else (0, 2)
set_option maxHeartbeats 2000000 in
theorem iFinestStep_any (s len fr to lim : Int) (w : World) :
    Calls Try.prog 13 #[.int .i64 s, .int .i64 len, .int .i64 fr, .int .i64 to, .int .i64 lim] w fun e w' => e = .returned (.tuple #[.int .i64 (rFinest s len fr to lim).1, .int .i64 (rFinest s len fr to lim).2]) ∧ Below w.heap.size w w' := by
  by_cases g1 : inB s 0 5 = true
  · skip
    by_cases g2 : inB len 1 100000 = true
    · skip
      by_cases g4 : inB to 1000 10000 = true
      · skip
        by_cases g3 : inB fr 1000 10000 = true
        · skip
          by_cases g6 : inB lim 0 100000 = true
          · skip
            by_cases g5 : fr < to
            · skip
              have Hw := Lib.hid (show rFinest s len fr to lim = _ by rw [rFinest, if_pos (by simp [finB, *])])
              obtain ⟨h1, h2⟩ := inB_iff.1 g2
              obtain ⟨f1, _⟩ := inB_iff.1 g3
              obtain ⟨_, f3⟩ := inB_iff.1 g4
              obtain ⟨l1, l2⟩ := inB_iff.1 g6
              have f2 := g5
              have f0 := inB_iff.1 g4
              have fb := @finest_bd s len fr to lim
              by_cases h0 : 0 < finest s len fr to lim
              · have HV := Lib.hid (show rFinest s len fr to lim = (finest s len fr to lim, 0) by rw [Hw.out, if_pos h0])
                have hd : decide (0 < finest s len fr to lim) = true := by simpa using h0
                go_enter Try.func13, Try.ntmps13
                go_wp2_with (first
                  | (go_at_call 64; refine (iIsScale_any _ _).mono ?_; rintro e w' ⟨rfl, rfl⟩)
                  | (go_at_call 65; refine (isLength_any _ _).mono ?_; rintro e w' ⟨rfl, rfl⟩)
                  | (go_at_call 66; refine (within_any _ _ _ _).mono ?_; rintro e w' ⟨rfl, rfl⟩)
                  | (go_at_call 67; refine (finestStep_any s len fr to lim _ h1 h2 f1 f2 f3 l1 l2).mono ?_; rintro e w' ⟨rfl, hb⟩))
                go_ret2
                exact ⟨endTwo HV.out, hb⟩
              · have HV := Lib.hid (show rFinest s len fr to lim = (0, 4) by rw [Hw.out, if_neg h0])
                have hd : decide (0 < finest s len fr to lim) = false := by simpa using h0
                go_enter Try.func13, Try.ntmps13
                go_wp2_with (first
                  | (go_at_call 64; refine (iIsScale_any _ _).mono ?_; rintro e w' ⟨rfl, rfl⟩)
                  | (go_at_call 65; refine (isLength_any _ _).mono ?_; rintro e w' ⟨rfl, rfl⟩)
                  | (go_at_call 66; refine (within_any _ _ _ _).mono ?_; rintro e w' ⟨rfl, rfl⟩)
                  | (go_at_call 67; refine (finestStep_any s len fr to lim _ h1 h2 f1 f2 f3 l1 l2).mono ?_; rintro e w' ⟨rfl, hb⟩))
                go_ret2
                exact ⟨endTwo HV.out, hb⟩
            · have g5' : decide (fr < to) = false := by simpa using g5
              have g8 : decide (to ≤ fr) = true := by simp; omega
              have HV := Lib.hid (show rFinest s len fr to lim = (0, 2) by rw [rFinest, if_neg (by simp [finB, *])])
              go_enter Try.func13, Try.ntmps13
              go_wp2_with (first
                | (go_at_call 64; refine (iIsScale_any _ _).mono ?_; rintro e w' ⟨rfl, rfl⟩)
                | (go_at_call 65; refine (isLength_any _ _).mono ?_; rintro e w' ⟨rfl, rfl⟩)
                | (go_at_call 66; refine (within_any _ _ _ _).mono ?_; rintro e w' ⟨rfl, rfl⟩))
              all_goals go_ret2
              all_goals exact ⟨endTwo HV.out, Below.refl _ _⟩
          · have g6' : inB lim 0 100000 = false := by simpa using g6
            have HV := Lib.hid (show rFinest s len fr to lim = (0, 2) by rw [rFinest, if_neg (by simp [finB, *])])
            go_enter Try.func13, Try.ntmps13
            go_wp2_with (first
              | (go_at_call 64; refine (iIsScale_any _ _).mono ?_; rintro e w' ⟨rfl, rfl⟩)
              | (go_at_call 65; refine (isLength_any _ _).mono ?_; rintro e w' ⟨rfl, rfl⟩)
              | (go_at_call 66; refine (within_any _ _ _ _).mono ?_; rintro e w' ⟨rfl, rfl⟩))
            all_goals go_ret2
            all_goals exact ⟨endTwo HV.out, Below.refl _ _⟩
        · have g3' : inB fr 1000 10000 = false := by simpa using g3
          have HV := Lib.hid (show rFinest s len fr to lim = (0, 2) by rw [rFinest, if_neg (by simp [finB, *])])
          go_enter Try.func13, Try.ntmps13
          go_wp2_with (first
            | (go_at_call 64; refine (iIsScale_any _ _).mono ?_; rintro e w' ⟨rfl, rfl⟩)
            | (go_at_call 65; refine (isLength_any _ _).mono ?_; rintro e w' ⟨rfl, rfl⟩)
            | (go_at_call 66; refine (within_any _ _ _ _).mono ?_; rintro e w' ⟨rfl, rfl⟩))
          all_goals go_ret2
          all_goals exact ⟨endTwo HV.out, Below.refl _ _⟩
      · have g4' : inB to 1000 10000 = false := by simpa using g4
        have HV := Lib.hid (show rFinest s len fr to lim = (0, 2) by rw [rFinest, if_neg (by simp [finB, *])])
        go_enter Try.func13, Try.ntmps13
        go_wp2_with (first
          | (go_at_call 64; refine (iIsScale_any _ _).mono ?_; rintro e w' ⟨rfl, rfl⟩)
          | (go_at_call 65; refine (isLength_any _ _).mono ?_; rintro e w' ⟨rfl, rfl⟩)
          | (go_at_call 66; refine (within_any _ _ _ _).mono ?_; rintro e w' ⟨rfl, rfl⟩))
        all_goals go_ret2
        all_goals exact ⟨endTwo HV.out, Below.refl _ _⟩
    · have g2' : inB len 1 100000 = false := by simpa using g2
      have HV := Lib.hid (show rFinest s len fr to lim = (0, 2) by rw [rFinest, if_neg (by simp [finB, *])])
      go_enter Try.func13, Try.ntmps13
      go_wp2_with (first
        | (go_at_call 64; refine (iIsScale_any _ _).mono ?_; rintro e w' ⟨rfl, rfl⟩)
        | (go_at_call 65; refine (isLength_any _ _).mono ?_; rintro e w' ⟨rfl, rfl⟩)
        | (go_at_call 66; refine (within_any _ _ _ _).mono ?_; rintro e w' ⟨rfl, rfl⟩))
      all_goals go_ret2
      all_goals exact ⟨endTwo HV.out, Below.refl _ _⟩
  · have g1' : inB s 0 5 = false := by simpa using g1
    have HV := Lib.hid (show rFinest s len fr to lim = (0, 2) by rw [rFinest, if_neg (by simp [finB, *])])
    go_enter Try.func13, Try.ntmps13
    go_wp2_with (first
      | (go_at_call 64; refine (iIsScale_any _ _).mono ?_; rintro e w' ⟨rfl, rfl⟩)
      | (go_at_call 65; refine (isLength_any _ _).mono ?_; rintro e w' ⟨rfl, rfl⟩)
      | (go_at_call 66; refine (within_any _ _ _ _).mono ?_; rintro e w' ⟨rfl, rfl⟩))
    all_goals go_ret2
    all_goals exact ⟨endTwo HV.out, Below.refl _ _⟩
set_option maxHeartbeats 2000000 in
theorem sFinestStep_any (s len fr to lim : Int) (w : World) :
    Calls Try.prog 14 #[.int .i64 s, .int .i64 len, .int .i64 fr, .int .i64 to, .int .i64 lim] w fun e w' => e = .returned (.tuple #[.int .i64 (rFinest s len fr to lim).1, .int .i64 (rFinest s len fr to lim).2]) ∧ Below w.heap.size w w' := by
  by_cases g1 : inB s 0 5 = true
  · skip
    by_cases g2 : inB len 1 100000 = true
    · skip
      by_cases g4 : inB to 1000 10000 = true
      · skip
        by_cases g3 : inB fr 1000 10000 = true
        · skip
          by_cases g6 : inB lim 0 100000 = true
          · skip
            by_cases g5 : fr < to
            · skip
              have Hw := Lib.hid (show rFinest s len fr to lim = _ by rw [rFinest, if_pos (by simp [finB, *])])
              obtain ⟨h1, h2⟩ := inB_iff.1 g2
              obtain ⟨f1, _⟩ := inB_iff.1 g3
              obtain ⟨_, f3⟩ := inB_iff.1 g4
              obtain ⟨l1, l2⟩ := inB_iff.1 g6
              have f2 := g5
              have f0 := inB_iff.1 g4
              have fb := @finest_bd s len fr to lim
              have g7 : inB fr 1000 (to - 1) = true := inB_iff.2 ⟨f1, by omega⟩
              by_cases h0 : 0 < finest s len fr to lim
              · have HV := Lib.hid (show rFinest s len fr to lim = (finest s len fr to lim, 0) by rw [Hw.out, if_pos h0])
                have hd : (finest s len fr to lim == 0) = false := by simp; omega
                go_enter Try.func14, Try.ntmps14
                go_wp2_with (first
                  | (go_at_call 68; refine (sIsScale_any _ _).mono ?_; rintro e w' ⟨rfl, rfl⟩)
                  | (go_at_call 69; refine (l05Length_any _ _).mono ?_; rintro e w' ⟨rfl, rfl⟩)
                  | (go_at_call 70; refine (l01In_any _ _ _ _).mono ?_; rintro e w' ⟨rfl, rfl⟩)
                  | (go_at_call 71; refine (l07Finest_any s len fr to lim _ h1 h2 f1 f2 f3 l1 l2).mono ?_; rintro e w' ⟨rfl, hb⟩))
                go_ret2
                exact ⟨endTwo HV.out, hb⟩
              · have HV := Lib.hid (show rFinest s len fr to lim = (0, 4) by rw [Hw.out, if_neg h0])
                have hd : (finest s len fr to lim == 0) = true := by simp; omega
                go_enter Try.func14, Try.ntmps14
                go_wp2_with (first
                  | (go_at_call 68; refine (sIsScale_any _ _).mono ?_; rintro e w' ⟨rfl, rfl⟩)
                  | (go_at_call 69; refine (l05Length_any _ _).mono ?_; rintro e w' ⟨rfl, rfl⟩)
                  | (go_at_call 70; refine (l01In_any _ _ _ _).mono ?_; rintro e w' ⟨rfl, rfl⟩)
                  | (go_at_call 71; refine (l07Finest_any s len fr to lim _ h1 h2 f1 f2 f3 l1 l2).mono ?_; rintro e w' ⟨rfl, hb⟩))
                go_ret2
                exact ⟨endTwo HV.out, hb⟩
            · have g5' : decide (fr < to) = false := by simpa using g5
              have g8 : decide (to ≤ fr) = true := by simp; omega
              have f0 := inB_iff.1 g4
              have g7 : inB fr 1000 (to - 1) = false := inB_false.2 (by omega)
              have HV := Lib.hid (show rFinest s len fr to lim = (0, 2) by rw [rFinest, if_neg (by simp [finB, *])])
              go_enter Try.func14, Try.ntmps14
              go_wp2_with (first
                | (go_at_call 68; refine (sIsScale_any _ _).mono ?_; rintro e w' ⟨rfl, rfl⟩)
                | (go_at_call 69; refine (l05Length_any _ _).mono ?_; rintro e w' ⟨rfl, rfl⟩)
                | (go_at_call 70; refine (l01In_any _ _ _ _).mono ?_; rintro e w' ⟨rfl, rfl⟩))
              all_goals go_ret2
              all_goals exact ⟨endTwo HV.out, Below.refl _ _⟩
          · have g6' : inB lim 0 100000 = false := by simpa using g6
            have f0 := inB_iff.1 g4
            have HV := Lib.hid (show rFinest s len fr to lim = (0, 2) by rw [rFinest, if_neg (by simp [finB, *])])
            go_enter Try.func14, Try.ntmps14
            go_wp2_with (first
              | (go_at_call 68; refine (sIsScale_any _ _).mono ?_; rintro e w' ⟨rfl, rfl⟩)
              | (go_at_call 69; refine (l05Length_any _ _).mono ?_; rintro e w' ⟨rfl, rfl⟩)
              | (go_at_call 70; refine (l01In_any _ _ _ _).mono ?_; rintro e w' ⟨rfl, rfl⟩))
            all_goals go_ret2
            all_goals exact ⟨endTwo HV.out, Below.refl _ _⟩
        · have g3' : inB fr 1000 10000 = false := by simpa using g3
          have f0 := inB_iff.1 g4
          by_cases g7 : inB fr 1000 (to - 1) = true
          · exact absurd (inB_iff.2 ⟨(inB_iff.1 g7).1, by have := (inB_iff.1 g7).2; omega⟩) g3
          have g7' : inB fr 1000 (to - 1) = false := by simpa using g7
          have HV := Lib.hid (show rFinest s len fr to lim = (0, 2) by rw [rFinest, if_neg (by simp [finB, *])])
          go_enter Try.func14, Try.ntmps14
          go_wp2_with (first
            | (go_at_call 68; refine (sIsScale_any _ _).mono ?_; rintro e w' ⟨rfl, rfl⟩)
            | (go_at_call 69; refine (l05Length_any _ _).mono ?_; rintro e w' ⟨rfl, rfl⟩)
            | (go_at_call 70; refine (l01In_any _ _ _ _).mono ?_; rintro e w' ⟨rfl, rfl⟩))
          all_goals go_ret2
          all_goals exact ⟨endTwo HV.out, Below.refl _ _⟩
      · have g4' : inB to 1000 10000 = false := by simpa using g4
        have HV := Lib.hid (show rFinest s len fr to lim = (0, 2) by rw [rFinest, if_neg (by simp [finB, *])])
        go_enter Try.func14, Try.ntmps14
        go_wp2_with (first
          | (go_at_call 68; refine (sIsScale_any _ _).mono ?_; rintro e w' ⟨rfl, rfl⟩)
          | (go_at_call 69; refine (l05Length_any _ _).mono ?_; rintro e w' ⟨rfl, rfl⟩)
          | (go_at_call 70; refine (l01In_any _ _ _ _).mono ?_; rintro e w' ⟨rfl, rfl⟩))
        all_goals go_ret2
        all_goals exact ⟨endTwo HV.out, Below.refl _ _⟩
    · have g2' : inB len 1 100000 = false := by simpa using g2
      have HV := Lib.hid (show rFinest s len fr to lim = (0, 2) by rw [rFinest, if_neg (by simp [finB, *])])
      go_enter Try.func14, Try.ntmps14
      go_wp2_with (first
        | (go_at_call 68; refine (sIsScale_any _ _).mono ?_; rintro e w' ⟨rfl, rfl⟩)
        | (go_at_call 69; refine (l05Length_any _ _).mono ?_; rintro e w' ⟨rfl, rfl⟩)
        | (go_at_call 70; refine (l01In_any _ _ _ _).mono ?_; rintro e w' ⟨rfl, rfl⟩))
      all_goals go_ret2
      all_goals exact ⟨endTwo HV.out, Below.refl _ _⟩
  · have g1' : inB s 0 5 = false := by simpa using g1
    have HV := Lib.hid (show rFinest s len fr to lim = (0, 2) by rw [rFinest, if_neg (by simp [finB, *])])
    go_enter Try.func14, Try.ntmps14
    go_wp2_with (first
      | (go_at_call 68; refine (sIsScale_any _ _).mono ?_; rintro e w' ⟨rfl, rfl⟩)
      | (go_at_call 69; refine (l05Length_any _ _).mono ?_; rintro e w' ⟨rfl, rfl⟩)
      | (go_at_call 70; refine (l01In_any _ _ _ _).mono ?_; rintro e w' ⟨rfl, rfl⟩))
    all_goals go_ret2
    all_goals exact ⟨endTwo HV.out, Below.refl _ _⟩
end Go.Proofs.Ythnjiiodpjielaa
