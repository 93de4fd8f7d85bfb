/- ChooseGraduation (layer 7). No condition. -/
import Derived.Test.YthnjiiodpjielaaFin
import Derived.Test.YthnjiiodpjielaaOwn
import Derived.Deep.AppendLies
namespace Go.Proofs.Ythnjiiodpjielaa
open Go.RowKit
set_option linter.unusedVariables false
set_option linter.unusedSimpArgs false

def choose3 (s len lim : Int) : List (Int × Int × Int) := [(1000, 2000, finest s len 1000 2000 lim), (2000, 5000, finest s len 2000 5000 lim), (5000, 10000, finest s len 5000 10000 lim)]
def chgB (s len lim : Int) : Bool := inB s 0 5 && inB len 1 100000 && inB lim 0 100000
def rChoose (s len lim : Int) : List (Int × Int × Int) × Int := if chgB s len lim = true then (if 0 < finest s len 1000 2000 lim ∧ 0 < finest s len 2000 5000 lim ∧ 0 < finest s len 5000 10000 lim then (choose3 s len lim, 0) else ([], 4)) else ([], 2)
theorem rChoose_len (s len lim : Int) : (rChoose s len lim).1.length ≤ 1048576 := by
  unfold rChoose
  split
  · split
    · simp [choose3]
    · simp
  · simp
def chGood (s len lim : Int) : Nat → Prop
  | 0 => True
  | 1 => 0 < finest s len 1000 2000 lim
  | 2 => 0 < finest s len 1000 2000 lim ∧ 0 < finest s len 2000 5000 lim
  | _ => 0 < finest s len 1000 2000 lim ∧ 0 < finest s len 2000 5000 lim ∧ 0 < finest s len 5000 10000 lim
theorem Full.madeAt {cs : Array Value} {t : TypeId} (w : World) (g : Nat) (hg : w.heap.size = g) : Full (w.alloc (.cells cs t)) g t cs := by subst hg; exact Full.made w t cs
theorem infoPartC : (Try.prog.info? 39).map (fun i => (i.zero, i.size, i.bytes)) = some (some (.agg #[.int .i64 0, .int .i64 0, .int .i64 0]), 3, 24) := by kernel_rfl
theorem newsAtC (w : World) (g : Nat) (hg : w.heap.size = g) (a b c : Int) (T : TypeId) : ∀ j u, [Value.int .i64 a, .int .i64 b, .int .i64 c][j]? = some u → (w.alloc (.cells #[.int .i64 a, .int .i64 b, .int .i64 c] T)).cell? ((⟨g, 0, none⟩ : Addr).add j) = some u := newsAt w g hg #[.int .i64 a, .int .i64 b, .int .i64 c] T
set_option maxRecDepth 100000 in
set_option maxHeartbeats 4000000 in
theorem iChooseGraduation_any (s len lim : Int) (w : World) :
    Calls Try.prog 10 #[.int .i64 s, .int .i64 len, .int .i64 lim] w (GivesS 39 3 (rChoose s len lim).1.length (cells3 (rChoose s len lim).1) (rChoose s len lim).2 w) := by
  by_cases g1 : inB s 0 5 = true
  · by_cases g2 : inB len 1 100000 = true
    · by_cases g3 : inB lim 0 100000 = true
      · have HW := Lib.hid (show rChoose s len lim = _ by rw [rChoose, if_pos (by simp [chgB, *])])
        obtain ⟨h1, h2⟩ := inB_iff.1 g2
        obtain ⟨l1, l2⟩ := inB_iff.1 g3
        obtain ⟨i0, hi, hz0, hz1, hz2⟩ := info_parts infoPartC
        go_enter Try.func10, Try.ntmps10
        go_wp2_with (first
          | (go_at_call 64; refine (iIsScale_any _ _).mono ?_; rintro e w' ⟨rfl, rfl⟩)
          | (go_at_call 65; refine (isLength_any _ _).mono ?_; rintro e w' ⟨rfl, rfl⟩)
          | (go_at_call 66; refine (within_any _ _ _ _).mono ?_; rintro e w' ⟨rfl, rfl⟩))
        go_loopw [8, 32] (fun v i wr => ∃ k : Nat, k ≤ 3 ∧ i = .int .i64 k ∧ chGood s len lim k ∧ wr.ownsRow w.heap.size 39 3 v k (cells3 ((choose3 s len lim).take k)) ∧ some (w.heap.size + 1) ≠ v.ownBlock ∧ Full wr (w.heap.size + 1) 39 #[.int .i64 1000, .int .i64 2000, .int .i64 0, .int .i64 2000, .int .i64 5000, .int .i64 0, .int .i64 5000, .int .i64 10000, .int .i64 0] ∧ Below w.heap.size w wr) (fun _ i _ => 3 - (intOf i).toNat)
        case atStart => exact ⟨0, by omega, rfl, trivial, (World.ownsRow_made w #[] 0 (Nat.le_refl _) (Nat.zero_le _) rfl).alloc _, by simp [Value.ownBlock], Full.madeAt _ _ (by simp), by repeat' (first | exact Below.refl _ _ | assumption | refine Below.alloc ?_ (by first | omega | (simp; done) | (simp; omega)) _ | refine Below.drew ?_ | refine Below.setCell ?_ (by first | omega | (simp; done) | (simp; omega)) _)⟩
        case round =>
          obtain ⟨k, hk, rfl, hgt, hown, hne, hF, hB⟩ := hrel
          have hz := hB.size
          have hin := hF.inside
          have hgt' := Lib.hid hgt
          clear hgt
          match k, hk with
          | 0, _ =>
            have e0 : wr.cell? ⟨w.heap.size + 1, 0, none⟩ = some (.int .i64 1000) := hF.at_ 0
            have e1 : wr.cell? ⟨w.heap.size + 1, 1, none⟩ = some (.int .i64 2000) := hF.at_ 1
            have e2 : wr.cell? ⟨w.heap.size + 1, 2, none⟩ = some (.int .i64 0) := hF.at_ 2
            have FS := fun W => finestStep_any s len 1000 2000 lim W h1 h2 (by omega) (by omega) (by omega) l1 l2
            have HT := Lib.hid (show (choose3 s len lim).take 1 = (choose3 s len lim).take 0 ++ [(1000, 2000, finest s len 1000 2000 lim)] from rfl)
            have HG := Lib.hid (fun (h : 0 < finest s len 1000 2000 lim) => (show chGood s len lim 1 from by have := hgt'.out; simp only [chGood] at *; omega))
            have HNo := Lib.hid (fun (h : ¬ 0 < finest s len 1000 2000 lim) => HW.out.trans (if_neg (fun hh => h hh.1)))
            generalize finest s len 1000 2000 lim = st at *
            by_cases hst : 0 < st
            · have hd : decide (0 < st) = true := by simpa using hst
              have HGo := Lib.hid (HG.out hst)
              clear HG HNo
              go_wp2_with (first
                | (go_at_call 67; refine (FS _).mono ?_; rintro e w2 ⟨rfl, hb2⟩; have hB2 : Below wr.heap.size wr w2 := Below.trans (by repeat' (first | exact Below.refl _ _ | assumption | refine Below.alloc ?_ (by first | omega | (simp; done) | (simp; omega)) _ | refine Below.drew ?_ | refine Below.setCell ?_ (by first | omega | (simp; done) | (simp; omega)) _)) (hb2.mono (by simp)); have hy2 := hB2.size; have hl2 : wr.heap.size < w2.heap.size := Nat.lt_of_lt_of_le (by simp) hb2.size; have q0 : w2.cell? ⟨wr.heap.size, 0, none⟩ = some (.int .i64 1000) := (by rw [hb2.cell (by simp)]; simp [go_sem]); have q1 : w2.cell? ⟨wr.heap.size, 1, none⟩ = some (.int .i64 2000) := (by rw [hb2.cell (by simp)]; simp [go_sem]); have q2 : w2.cell? ⟨wr.heap.size, 2, none⟩ = some (.int .i64 0) := (by rw [hb2.cell (by simp)]; simp [go_sem]); have r2 : w2.frozen? ⟨wr.heap.size, 2, none⟩ = false := (by rw [hb2.frozen (by simp)]; simp [go_sem]); have hB2w := hB.trans (hB2.mono hB.size); have hown2 := ownGrown (ownOver hown hB2) (grownPut (i := 2) (u := .int .i64 st) (grownRefl w2 (some wr.heap.size))) (ownNo (fun j hj => by have := (hown.lt j hj).2; omega)); have hF2 := (hF.over hB2 hin).elsewhere (p := ⟨wr.heap.size, 2, none⟩) (by simp; omega) (.int .i64 st); clear hb2)
                | (at_builtin; refine wpList_append_own_at _ rfl _ _ 26 rfl w.heap.size 39 i0 (.agg #[.int .i64 0, .int .i64 0, .int .i64 0]) 3 24 Try.underlying26 hi hz0 hz1 hz2 rfl (by decide) _ _ _ rfl (hown2.alloc _) ⟨w2.heap.size, 0, none⟩ 1 1 [.int .i64 1000, .int .i64 2000, .int .i64 st] rfl rfl ?_ ?_ ?_ ?_ ?_ ?_; exact newsAtC _ _ (by simp) _ _ _ _; (intro u hu; simp at hu; rcases hu with rfl | rfl | rfl <;> rfl); (unfold maxLen; omega); omega; (simp; omega); intro v' w4 hown1 hgr1 _ hat1; have hB4 := ((hB2w.setCell (p := ⟨wr.heap.size, 2, none⟩) (by simp; omega) (.int .i64 st)).alloc (by simp; omega) _).grown hgr1 (by simp; omega) (fun k hk => (hown2.lt k hk).1); have hF4 := (hF2.block _).grow hgr1 hne; have hne4 : some (w.heap.size + 1) ≠ v'.ownBlock := (by rcases hat1 with e | e; (rw [e]; exact hne); (rw [e]; simp; omega)); clear hgr1 hat1))
              go_roundw
              case rel =>
                refine ⟨1, by omega, by go_num, HGo.out, ?_, hne4, hF4, hB4⟩
                rw [HT.out, cells3_append]
                exact hown1
              case measure => simp [intOf]
            · have hd : decide (0 < st) = false := by simpa using hst
              have HV := Lib.hid (HNo.out hst)
              clear HG HNo
              go_wp2_with (go_at_call 67; refine (FS _).mono ?_; rintro e w2 ⟨rfl, hb2⟩; have hB2 : Below w.heap.size w w2 := Below.trans (by repeat' (first | exact Below.refl _ _ | assumption | refine Below.alloc ?_ (by first | omega | (simp; done) | (simp; omega)) _ | refine Below.drew ?_ | refine Below.setCell ?_ (by first | omega | (simp; done) | (simp; omega)) _)) (hb2.mono (by simp; omega)); clear hb2)
              go_ret2
              rw [HV.out]
              exact ⟨_, rfl, World.ownsRow_nil _ _ _ _, hB2⟩
          | 1, _ =>
            have e0 : wr.cell? ⟨w.heap.size + 1, 3, none⟩ = some (.int .i64 2000) := hF.at_ 3
            have e1 : wr.cell? ⟨w.heap.size + 1, 4, none⟩ = some (.int .i64 5000) := hF.at_ 4
            have e2 : wr.cell? ⟨w.heap.size + 1, 5, none⟩ = some (.int .i64 0) := hF.at_ 5
            have FS := fun W => finestStep_any s len 2000 5000 lim W h1 h2 (by omega) (by omega) (by omega) l1 l2
            have HT := Lib.hid (show (choose3 s len lim).take 2 = (choose3 s len lim).take 1 ++ [(2000, 5000, finest s len 2000 5000 lim)] from rfl)
            have HG := Lib.hid (fun (h : 0 < finest s len 2000 5000 lim) => (show chGood s len lim 2 from by have := hgt'.out; simp only [chGood] at *; omega))
            have HNo := Lib.hid (fun (h : ¬ 0 < finest s len 2000 5000 lim) => HW.out.trans (if_neg (fun hh => h hh.2.1)))
            generalize finest s len 2000 5000 lim = st at *
            by_cases hst : 0 < st
            · have hd : decide (0 < st) = true := by simpa using hst
              have HGo := Lib.hid (HG.out hst)
              clear HG HNo
              go_wp2_with (first
                | (go_at_call 67; refine (FS _).mono ?_; rintro e w2 ⟨rfl, hb2⟩; have hB2 : Below wr.heap.size wr w2 := Below.trans (by repeat' (first | exact Below.refl _ _ | assumption | refine Below.alloc ?_ (by first | omega | (simp; done) | (simp; omega)) _ | refine Below.drew ?_ | refine Below.setCell ?_ (by first | omega | (simp; done) | (simp; omega)) _)) (hb2.mono (by simp)); have hy2 := hB2.size; have hl2 : wr.heap.size < w2.heap.size := Nat.lt_of_lt_of_le (by simp) hb2.size; have q0 : w2.cell? ⟨wr.heap.size, 0, none⟩ = some (.int .i64 2000) := (by rw [hb2.cell (by simp)]; simp [go_sem]); have q1 : w2.cell? ⟨wr.heap.size, 1, none⟩ = some (.int .i64 5000) := (by rw [hb2.cell (by simp)]; simp [go_sem]); have q2 : w2.cell? ⟨wr.heap.size, 2, none⟩ = some (.int .i64 0) := (by rw [hb2.cell (by simp)]; simp [go_sem]); have r2 : w2.frozen? ⟨wr.heap.size, 2, none⟩ = false := (by rw [hb2.frozen (by simp)]; simp [go_sem]); have hB2w := hB.trans (hB2.mono hB.size); have hown2 := ownGrown (ownOver hown hB2) (grownPut (i := 2) (u := .int .i64 st) (grownRefl w2 (some wr.heap.size))) (ownNo (fun j hj => by have := (hown.lt j hj).2; omega)); have hF2 := (hF.over hB2 hin).elsewhere (p := ⟨wr.heap.size, 2, none⟩) (by simp; omega) (.int .i64 st); clear hb2)
                | (at_builtin; refine wpList_append_own_at _ rfl _ _ 26 rfl w.heap.size 39 i0 (.agg #[.int .i64 0, .int .i64 0, .int .i64 0]) 3 24 Try.underlying26 hi hz0 hz1 hz2 rfl (by decide) _ _ _ rfl (hown2.alloc _) ⟨w2.heap.size, 0, none⟩ 1 1 [.int .i64 2000, .int .i64 5000, .int .i64 st] rfl rfl ?_ ?_ ?_ ?_ ?_ ?_; exact newsAtC _ _ (by simp) _ _ _ _; (intro u hu; simp at hu; rcases hu with rfl | rfl | rfl <;> rfl); (unfold maxLen; omega); omega; (simp; omega); intro v' w4 hown1 hgr1 _ hat1; have hB4 := ((hB2w.setCell (p := ⟨wr.heap.size, 2, none⟩) (by simp; omega) (.int .i64 st)).alloc (by simp; omega) _).grown hgr1 (by simp; omega) (fun k hk => (hown2.lt k hk).1); have hF4 := (hF2.block _).grow hgr1 hne; have hne4 : some (w.heap.size + 1) ≠ v'.ownBlock := (by rcases hat1 with e | e; (rw [e]; exact hne); (rw [e]; simp; omega)); clear hgr1 hat1))
              go_roundw
              case rel =>
                refine ⟨2, by omega, by go_num, HGo.out, ?_, hne4, hF4, hB4⟩
                rw [HT.out, cells3_append]
                exact hown1
              case measure => simp [intOf]
            · have hd : decide (0 < st) = false := by simpa using hst
              have HV := Lib.hid (HNo.out hst)
              clear HG HNo
              go_wp2_with (go_at_call 67; refine (FS _).mono ?_; rintro e w2 ⟨rfl, hb2⟩; have hB2 : Below w.heap.size w w2 := Below.trans (by repeat' (first | exact Below.refl _ _ | assumption | refine Below.alloc ?_ (by first | omega | (simp; done) | (simp; omega)) _ | refine Below.drew ?_ | refine Below.setCell ?_ (by first | omega | (simp; done) | (simp; omega)) _)) (hb2.mono (by simp; omega)); clear hb2)
              go_ret2
              rw [HV.out]
              exact ⟨_, rfl, World.ownsRow_nil _ _ _ _, hB2⟩
          | 2, _ =>
            have e0 : wr.cell? ⟨w.heap.size + 1, 6, none⟩ = some (.int .i64 5000) := hF.at_ 6
            have e1 : wr.cell? ⟨w.heap.size + 1, 7, none⟩ = some (.int .i64 10000) := hF.at_ 7
            have e2 : wr.cell? ⟨w.heap.size + 1, 8, none⟩ = some (.int .i64 0) := hF.at_ 8
            have FS := fun W => finestStep_any s len 5000 10000 lim W h1 h2 (by omega) (by omega) (by omega) l1 l2
            have HT := Lib.hid (show (choose3 s len lim).take 3 = (choose3 s len lim).take 2 ++ [(5000, 10000, finest s len 5000 10000 lim)] from rfl)
            have HG := Lib.hid (fun (h : 0 < finest s len 5000 10000 lim) => (show chGood s len lim 3 from by have := hgt'.out; simp only [chGood] at *; omega))
            have HNo := Lib.hid (fun (h : ¬ 0 < finest s len 5000 10000 lim) => HW.out.trans (if_neg (fun hh => h hh.2.2)))
            generalize finest s len 5000 10000 lim = st at *
            by_cases hst : 0 < st
            · have hd : decide (0 < st) = true := by simpa using hst
              have HGo := Lib.hid (HG.out hst)
              clear HG HNo
              go_wp2_with (first
                | (go_at_call 67; refine (FS _).mono ?_; rintro e w2 ⟨rfl, hb2⟩; have hB2 : Below wr.heap.size wr w2 := Below.trans (by repeat' (first | exact Below.refl _ _ | assumption | refine Below.alloc ?_ (by first | omega | (simp; done) | (simp; omega)) _ | refine Below.drew ?_ | refine Below.setCell ?_ (by first | omega | (simp; done) | (simp; omega)) _)) (hb2.mono (by simp)); have hy2 := hB2.size; have hl2 : wr.heap.size < w2.heap.size := Nat.lt_of_lt_of_le (by simp) hb2.size; have q0 : w2.cell? ⟨wr.heap.size, 0, none⟩ = some (.int .i64 5000) := (by rw [hb2.cell (by simp)]; simp [go_sem]); have q1 : w2.cell? ⟨wr.heap.size, 1, none⟩ = some (.int .i64 10000) := (by rw [hb2.cell (by simp)]; simp [go_sem]); have q2 : w2.cell? ⟨wr.heap.size, 2, none⟩ = some (.int .i64 0) := (by rw [hb2.cell (by simp)]; simp [go_sem]); have r2 : w2.frozen? ⟨wr.heap.size, 2, none⟩ = false := (by rw [hb2.frozen (by simp)]; simp [go_sem]); have hB2w := hB.trans (hB2.mono hB.size); have hown2 := ownGrown (ownOver hown hB2) (grownPut (i := 2) (u := .int .i64 st) (grownRefl w2 (some wr.heap.size))) (ownNo (fun j hj => by have := (hown.lt j hj).2; omega)); have hF2 := (hF.over hB2 hin).elsewhere (p := ⟨wr.heap.size, 2, none⟩) (by simp; omega) (.int .i64 st); clear hb2)
                | (at_builtin; refine wpList_append_own_at _ rfl _ _ 26 rfl w.heap.size 39 i0 (.agg #[.int .i64 0, .int .i64 0, .int .i64 0]) 3 24 Try.underlying26 hi hz0 hz1 hz2 rfl (by decide) _ _ _ rfl (hown2.alloc _) ⟨w2.heap.size, 0, none⟩ 1 1 [.int .i64 5000, .int .i64 10000, .int .i64 st] rfl rfl ?_ ?_ ?_ ?_ ?_ ?_; exact newsAtC _ _ (by simp) _ _ _ _; (intro u hu; simp at hu; rcases hu with rfl | rfl | rfl <;> rfl); (unfold maxLen; omega); omega; (simp; omega); intro v' w4 hown1 hgr1 _ hat1; have hB4 := ((hB2w.setCell (p := ⟨wr.heap.size, 2, none⟩) (by simp; omega) (.int .i64 st)).alloc (by simp; omega) _).grown hgr1 (by simp; omega) (fun k hk => (hown2.lt k hk).1); have hF4 := (hF2.block _).grow hgr1 hne; have hne4 : some (w.heap.size + 1) ≠ v'.ownBlock := (by rcases hat1 with e | e; (rw [e]; exact hne); (rw [e]; simp; omega)); clear hgr1 hat1))
              go_roundw
              case rel =>
                refine ⟨3, by omega, by go_num, HGo.out, ?_, hne4, hF4, hB4⟩
                rw [HT.out, cells3_append]
                exact hown1
              case measure => simp [intOf]
            · have hd : decide (0 < st) = false := by simpa using hst
              have HV := Lib.hid (HNo.out hst)
              clear HG HNo
              go_wp2_with (go_at_call 67; refine (FS _).mono ?_; rintro e w2 ⟨rfl, hb2⟩; have hB2 : Below w.heap.size w w2 := Below.trans (by repeat' (first | exact Below.refl _ _ | assumption | refine Below.alloc ?_ (by first | omega | (simp; done) | (simp; omega)) _ | refine Below.drew ?_ | refine Below.setCell ?_ (by first | omega | (simp; done) | (simp; omega)) _)) (hb2.mono (by simp; omega)); clear hb2)
              go_ret2
              rw [HV.out]
              exact ⟨_, rfl, World.ownsRow_nil _ _ _ _, hB2⟩
          | 3, _ =>
            have HV := Lib.hid (HW.out.trans (if_pos hgt'.out))
            go_wp2_with fail
            go_ret2
            rw [HV.out]
            exact ⟨_, rfl, hown, hB⟩
      · have g3' : inB lim 0 100000 = false := by simpa using g3
        have HV := Lib.hid (show rChoose s len lim = ([], 2) by rw [rChoose, if_neg (by simp [chgB, *])])
        go_enter Try.func10, Try.ntmps10
        go_wp2_with (first
          | (go_at_call 64; refine (iIsScale_any _ _).mono ?_; rintro e w' ⟨rfl, rfl⟩)
          | (go_at_call 65; refine (isLength_any _ _).mono ?_; rintro e w' ⟨rfl, rfl⟩)
          | (go_at_call 66; refine (within_any _ _ _ _).mono ?_; rintro e w' ⟨rfl, rfl⟩))
        all_goals go_ret2
        all_goals rw [HV.out]
        all_goals exact ⟨_, rfl, World.ownsRow_nil _ _ _ _, Below.refl _ _⟩
    · have g2' : inB len 1 100000 = false := by simpa using g2
      have HV := Lib.hid (show rChoose s len lim = ([], 2) by rw [rChoose, if_neg (by simp [chgB, *])])
      go_enter Try.func10, Try.ntmps10
      go_wp2_with (first
        | (go_at_call 64; refine (iIsScale_any _ _).mono ?_; rintro e w' ⟨rfl, rfl⟩)
        | (go_at_call 65; refine (isLength_any _ _).mono ?_; rintro e w' ⟨rfl, rfl⟩)
        | (go_at_call 66; refine (within_any _ _ _ _).mono ?_; rintro e w' ⟨rfl, rfl⟩))
      all_goals go_ret2
      all_goals rw [HV.out]
      all_goals exact ⟨_, rfl, World.ownsRow_nil _ _ _ _, Below.refl _ _⟩
  · have g1' : inB s 0 5 = false := by simpa using g1
    have HV := Lib.hid (show rChoose s len lim = ([], 2) by rw [rChoose, if_neg (by simp [chgB, *])])
    go_enter Try.func10, Try.ntmps10
    go_wp2_with (first
      | (go_at_call 64; refine (iIsScale_any _ _).mono ?_; rintro e w' ⟨rfl, rfl⟩)
      | (go_at_call 65; refine (isLength_any _ _).mono ?_; rintro e w' ⟨rfl, rfl⟩)
      | (go_at_call 66; refine (within_any _ _ _ _).mono ?_; rintro e w' ⟨rfl, rfl⟩))
    all_goals go_ret2
    all_goals rw [HV.out]
    all_goals exact ⟨_, rfl, World.ownsRow_nil _ _ _ _, Below.refl _ _⟩
set_option maxRecDepth 100000 in
set_option maxHeartbeats 4000000 in
theorem sChooseGraduation_any (s len lim : Int) (w : World) :
    Calls Try.prog 11 #[.int .i64 s, .int .i64 len, .int .i64 lim] w (GivesS 39 3 (rChoose s len lim).1.length (cells3 (rChoose s len lim).1) (rChoose s len lim).2 w) := by
  by_cases g1 : inB s 0 5 = true
  · by_cases g2 : inB len 1 100000 = true
    · by_cases g3 : inB lim 0 100000 = true
      · have HW := Lib.hid (show rChoose s len lim = _ by rw [rChoose, if_pos (by simp [chgB, *])])
        obtain ⟨h1, h2⟩ := inB_iff.1 g2
        obtain ⟨l1, l2⟩ := inB_iff.1 g3
        obtain ⟨i0, hi, hz0, hz1, hz2⟩ := info_parts infoPartC
        go_enter Try.func11, Try.ntmps11
        go_wp2_with (first
          | (go_at_call 68; refine (sIsScale_any _ _).mono ?_; rintro e w' ⟨rfl, rfl⟩)
          | (go_at_call 69; refine (l05Length_any _ _).mono ?_; rintro e w' ⟨rfl, rfl⟩)
          | (go_at_call 70; refine (l01In_any _ _ _ _).mono ?_; rintro e w' ⟨rfl, rfl⟩))
        go_loopw [9, 10] (fun v i wr => ∃ k : Nat, k ≤ 3 ∧ i = .int .i64 ((k : Int) + 1) ∧ chGood s len lim k ∧ wr.ownsRow (w.heap.size + 1) 39 3 v k (cells3 ((choose3 s len lim).take k)) ∧ Full wr w.heap.size 2 #[.int .i64 1000, .int .i64 2000, .int .i64 5000, .int .i64 10000] ∧ w.heap.size + 1 < wr.heap.size ∧ Below w.heap.size w wr) (fun _ i _ => 4 - (intOf i).toNat)
        case atStart => exact ⟨0, by omega, rfl, trivial, (by have := World.ownsRow_made (base := w.heap.size + 1) (e := 39) (size := 3) (w.alloc (.cells #[.int .i64 1000, .int .i64 2000, .int .i64 5000, .int .i64 10000] 2)) #[] 0 (by simp) (Nat.zero_le _) rfl; rw [World.size_alloc] at this; exact this), (Full.made w _ _).block _, by simp, by repeat' (first | exact Below.refl _ _ | assumption | refine Below.alloc ?_ (by first | omega | (simp; done) | (simp; omega)) _ | refine Below.drew ?_ | refine Below.setCell ?_ (by first | omega | (simp; done) | (simp; omega)) _)⟩
        case round =>
          obtain ⟨k, hk, rfl, hgt, hown, hF, hzz, hB⟩ := hrel
          have hz := hB.size
          have hin := hF.inside
          have hgt' := Lib.hid hgt
          clear hgt
          match k, hk with
          | 0, _ =>
            have e0 : wr.cell? ⟨w.heap.size, 0, none⟩ = some (.int .i64 1000) := hF.at_ 0
            have e1 : wr.cell? ⟨w.heap.size, 1, none⟩ = some (.int .i64 2000) := hF.at_ 1
            have z0 : IntKind.i64.wrap 0 = 0 := by decide
            have z1 : IntKind.i64.wrap 1 = 1 := by decide
            have FS := fun W => l07Finest_any s len 1000 2000 lim W h1 h2 (by omega) (by omega) (by omega) l1 l2
            have HT := Lib.hid (show (choose3 s len lim).take 1 = (choose3 s len lim).take 0 ++ [(1000, 2000, finest s len 1000 2000 lim)] from rfl)
            have HG := Lib.hid (fun (h : 0 < finest s len 1000 2000 lim) => (show chGood s len lim 1 from by have := hgt'.out; simp only [chGood] at *; omega))
            have HNo := Lib.hid (fun (h : ¬ 0 < finest s len 1000 2000 lim) => HW.out.trans (if_neg (fun hh => h hh.1)))
            have hst0 := (finest_bd (s := s) (len := len) (fr := 1000) (to := 2000) (lim := lim)).1
            generalize finest s len 1000 2000 lim = st at *
            by_cases hst : 0 < st
            · have hd : (st == 0) = false := by simp; omega
              have HGo := Lib.hid (HG.out hst)
              clear HG HNo
              go_wp2_with fail
              go_region_held3 (fun w' => w'.cell? ⟨w.heap.size, 0, none⟩ = some (.int .i64 1000) ∧ w'.cell? ⟨w.heap.size, 1, none⟩ = some (.int .i64 2000)) (go_keep) (first
                | (go_at_call 71; refine (FS _).mono ?_; rintro e w2 ⟨rfl, hb2⟩; have hB2 : Below wr.heap.size wr w2 := Below.trans (by repeat' (first | exact Below.refl _ _ | assumption | refine Below.alloc ?_ (by first | omega | (simp; done) | (simp; omega)) _ | refine Below.drew ?_ | refine Below.setCell ?_ (by first | omega | (simp; done) | (simp; omega)) _)) (hb2.mono (by simp)); have hy2 := hB2.size; have q0 : w2.cell? ⟨w.heap.size, 0, none⟩ = some (.int .i64 1000) := (hB2.cell (p := ⟨w.heap.size, 0, none⟩) hin).trans e0; have q1 : w2.cell? ⟨w.heap.size, 1, none⟩ = some (.int .i64 2000) := (hB2.cell (p := ⟨w.heap.size, 1, none⟩) hin).trans e1; have hB2w := hB.trans (hB2.mono hB.size); have hown2 := ownOver hown hB2; have hF2 := hF.over hB2 hin; have hin2 := hF2.inside; clear hb2))
              go_wp2_with fail
              have hfar := fun (g : Nat) (hg : g ≤ w.heap.size) e => show False by have := (hown.lt g (Eq.symm e)).1; omega
              go_region_held3 (fun w' => w'.cell? ⟨w.heap.size, 0, none⟩ = some (.int .i64 1000) ∧ w'.cell? ⟨w.heap.size, 1, none⟩ = some (.int .i64 2000)) (first | go_keep | (go_split_ands; refine ⟨?_, ?_⟩ <;> (rw [hgrow.cell_far _ (by simp; omega) (hfar _ (Nat.le_refl _))]; assumption)))
                ((refine step_append_lies _ (by rfl) _ _ _ (by rfl) (w.heap.size + 1) 39 i0 _ 3 24 Try.underlying26 hi hz0 hz1 hz2 rfl (by omega) _ _ _ (by rfl) ((hown2.alloc _).drew) ⟨w2.heap.size, 0, none⟩ 1 1 [.int .i64 1000, .int .i64 2000, .int .i64 st] (by rfl) (by rfl) (World.news_of_block (cs := #[.int .i64 1000, .int .i64 2000, .int .i64 st]) (t := 39) (fr := (0, 0)) (heap_alloc_new w2 _)) (by simp [Value.oneCell']) (by omega) (by unfold maxLen; omega) (by omega) (by simp; omega) (w2.heap.size + 1) (by simp) ?_; intro gg cap w4 hown1 hgrow hat hlt4))
              have hB4 := (Below.drew (hB2w.alloc (by omega) (.cells #[.int .i64 1000, .int .i64 2000, .int .i64 st] 39))).grown hgrow (by simp; omega) (fun k hk => by have := (hown2.lt k hk).1; omega)
              have hF4 := Full.grow (w := (w2.alloc (.cells #[.int .i64 1000, .int .i64 2000, .int .i64 st] 39)).drew) (hF2.block _) hgrow (hfar _ (Nat.le_refl _))
              have hz4 := hgrow.size
              clear hgrow hat
              go_wp2
              go_roundw
              case rel =>
                refine ⟨1, by omega, by go_num, HGo.out, ?_, hF4, by simp at hz4; omega, hB4⟩
                rw [HT.out, cells3_append]
                exact hown1
              case measure => simp [intOf]
            · have hd : (st == 0) = true := by simp; omega
              have HV := Lib.hid (HNo.out hst)
              clear HG HNo
              go_wp2_with fail
              go_region_held3 (fun w' => w'.cell? ⟨w.heap.size, 0, none⟩ = some (.int .i64 1000) ∧ w'.cell? ⟨w.heap.size, 1, none⟩ = some (.int .i64 2000)) (go_keep) (first
                | (go_at_call 71; refine (FS _).mono ?_; rintro e w2 ⟨rfl, hb2⟩; have hB2 : Below wr.heap.size wr w2 := Below.trans (by repeat' (first | exact Below.refl _ _ | assumption | refine Below.alloc ?_ (by first | omega | (simp; done) | (simp; omega)) _ | refine Below.drew ?_ | refine Below.setCell ?_ (by first | omega | (simp; done) | (simp; omega)) _)) (hb2.mono (by simp)); have q0 : w2.cell? ⟨w.heap.size, 0, none⟩ = some (.int .i64 1000) := (hB2.cell (p := ⟨w.heap.size, 0, none⟩) hin).trans e0; have q1 : w2.cell? ⟨w.heap.size, 1, none⟩ = some (.int .i64 2000) := (hB2.cell (p := ⟨w.heap.size, 1, none⟩) hin).trans e1; have hB2w := hB.trans (hB2.mono hB.size); clear hb2))
              go_wp2_with fail
              go_ret2
              rw [HV.out]
              exact ⟨_, rfl, World.ownsRow_nil _ _ _ _, hB2w⟩
          | 1, _ =>
            have e0 : wr.cell? ⟨w.heap.size, 1, none⟩ = some (.int .i64 2000) := hF.at_ 1
            have e1 : wr.cell? ⟨w.heap.size, 2, none⟩ = some (.int .i64 5000) := hF.at_ 2
            have z0 : IntKind.i64.wrap 1 = 1 := by decide
            have z1 : IntKind.i64.wrap 2 = 2 := by decide
            have FS := fun W => l07Finest_any s len 2000 5000 lim W h1 h2 (by omega) (by omega) (by omega) l1 l2
            have HT := Lib.hid (show (choose3 s len lim).take 2 = (choose3 s len lim).take 1 ++ [(2000, 5000, finest s len 2000 5000 lim)] from rfl)
            have HG := Lib.hid (fun (h : 0 < finest s len 2000 5000 lim) => (show chGood s len lim 2 from by have := hgt'.out; simp only [chGood] at *; omega))
            have HNo := Lib.hid (fun (h : ¬ 0 < finest s len 2000 5000 lim) => HW.out.trans (if_neg (fun hh => h hh.2.1)))
            have hst0 := (finest_bd (s := s) (len := len) (fr := 2000) (to := 5000) (lim := lim)).1
            generalize finest s len 2000 5000 lim = st at *
            by_cases hst : 0 < st
            · have hd : (st == 0) = false := by simp; omega
              have HGo := Lib.hid (HG.out hst)
              clear HG HNo
              go_wp2_with fail
              go_region_held3 (fun w' => w'.cell? ⟨w.heap.size, 1, none⟩ = some (.int .i64 2000) ∧ w'.cell? ⟨w.heap.size, 2, none⟩ = some (.int .i64 5000)) (go_keep) (first
                | (go_at_call 71; refine (FS _).mono ?_; rintro e w2 ⟨rfl, hb2⟩; have hB2 : Below wr.heap.size wr w2 := Below.trans (by repeat' (first | exact Below.refl _ _ | assumption | refine Below.alloc ?_ (by first | omega | (simp; done) | (simp; omega)) _ | refine Below.drew ?_ | refine Below.setCell ?_ (by first | omega | (simp; done) | (simp; omega)) _)) (hb2.mono (by simp)); have hy2 := hB2.size; have q0 : w2.cell? ⟨w.heap.size, 1, none⟩ = some (.int .i64 2000) := (hB2.cell (p := ⟨w.heap.size, 1, none⟩) hin).trans e0; have q1 : w2.cell? ⟨w.heap.size, 2, none⟩ = some (.int .i64 5000) := (hB2.cell (p := ⟨w.heap.size, 2, none⟩) hin).trans e1; have hB2w := hB.trans (hB2.mono hB.size); have hown2 := ownOver hown hB2; have hF2 := hF.over hB2 hin; have hin2 := hF2.inside; clear hb2))
              go_wp2_with fail
              have hfar := fun (g : Nat) (hg : g ≤ w.heap.size) e => show False by have := (hown.lt g (Eq.symm e)).1; omega
              go_region_held3 (fun w' => w'.cell? ⟨w.heap.size, 1, none⟩ = some (.int .i64 2000) ∧ w'.cell? ⟨w.heap.size, 2, none⟩ = some (.int .i64 5000)) (first | go_keep | (go_split_ands; refine ⟨?_, ?_⟩ <;> (rw [hgrow.cell_far _ (by simp; omega) (hfar _ (Nat.le_refl _))]; assumption)))
                ((refine step_append_lies _ (by rfl) _ _ _ (by rfl) (w.heap.size + 1) 39 i0 _ 3 24 Try.underlying26 hi hz0 hz1 hz2 rfl (by omega) _ _ _ (by rfl) ((hown2.alloc _).drew) ⟨w2.heap.size, 0, none⟩ 1 1 [.int .i64 2000, .int .i64 5000, .int .i64 st] (by rfl) (by rfl) (World.news_of_block (cs := #[.int .i64 2000, .int .i64 5000, .int .i64 st]) (t := 39) (fr := (0, 0)) (heap_alloc_new w2 _)) (by simp [Value.oneCell']) (by omega) (by unfold maxLen; omega) (by omega) (by simp; omega) (w2.heap.size + 1) (by simp) ?_; intro gg cap w4 hown1 hgrow hat hlt4))
              have hB4 := (Below.drew (hB2w.alloc (by omega) (.cells #[.int .i64 2000, .int .i64 5000, .int .i64 st] 39))).grown hgrow (by simp; omega) (fun k hk => by have := (hown2.lt k hk).1; omega)
              have hF4 := Full.grow (w := (w2.alloc (.cells #[.int .i64 2000, .int .i64 5000, .int .i64 st] 39)).drew) (hF2.block _) hgrow (hfar _ (Nat.le_refl _))
              have hz4 := hgrow.size
              clear hgrow hat
              go_wp2
              go_roundw
              case rel =>
                refine ⟨2, by omega, by go_num, HGo.out, ?_, hF4, by simp at hz4; omega, hB4⟩
                rw [HT.out, cells3_append]
                exact hown1
              case measure => simp [intOf]
            · have hd : (st == 0) = true := by simp; omega
              have HV := Lib.hid (HNo.out hst)
              clear HG HNo
              go_wp2_with fail
              go_region_held3 (fun w' => w'.cell? ⟨w.heap.size, 1, none⟩ = some (.int .i64 2000) ∧ w'.cell? ⟨w.heap.size, 2, none⟩ = some (.int .i64 5000)) (go_keep) (first
                | (go_at_call 71; refine (FS _).mono ?_; rintro e w2 ⟨rfl, hb2⟩; have hB2 : Below wr.heap.size wr w2 := Below.trans (by repeat' (first | exact Below.refl _ _ | assumption | refine Below.alloc ?_ (by first | omega | (simp; done) | (simp; omega)) _ | refine Below.drew ?_ | refine Below.setCell ?_ (by first | omega | (simp; done) | (simp; omega)) _)) (hb2.mono (by simp)); have q0 : w2.cell? ⟨w.heap.size, 1, none⟩ = some (.int .i64 2000) := (hB2.cell (p := ⟨w.heap.size, 1, none⟩) hin).trans e0; have q1 : w2.cell? ⟨w.heap.size, 2, none⟩ = some (.int .i64 5000) := (hB2.cell (p := ⟨w.heap.size, 2, none⟩) hin).trans e1; have hB2w := hB.trans (hB2.mono hB.size); clear hb2))
              go_wp2_with fail
              go_ret2
              rw [HV.out]
              exact ⟨_, rfl, World.ownsRow_nil _ _ _ _, hB2w⟩
          | 2, _ =>
            have e0 : wr.cell? ⟨w.heap.size, 2, none⟩ = some (.int .i64 5000) := hF.at_ 2
            have e1 : wr.cell? ⟨w.heap.size, 3, none⟩ = some (.int .i64 10000) := hF.at_ 3
            have z0 : IntKind.i64.wrap 2 = 2 := by decide
            have z1 : IntKind.i64.wrap 3 = 3 := by decide
            have FS := fun W => l07Finest_any s len 5000 10000 lim W h1 h2 (by omega) (by omega) (by omega) l1 l2
            have HT := Lib.hid (show (choose3 s len lim).take 3 = (choose3 s len lim).take 2 ++ [(5000, 10000, finest s len 5000 10000 lim)] from rfl)
            have HG := Lib.hid (fun (h : 0 < finest s len 5000 10000 lim) => (show chGood s len lim 3 from by have := hgt'.out; simp only [chGood] at *; omega))
            have HNo := Lib.hid (fun (h : ¬ 0 < finest s len 5000 10000 lim) => HW.out.trans (if_neg (fun hh => h hh.2.2)))
            have hst0 := (finest_bd (s := s) (len := len) (fr := 5000) (to := 10000) (lim := lim)).1
            generalize finest s len 5000 10000 lim = st at *
            by_cases hst : 0 < st
            · have hd : (st == 0) = false := by simp; omega
              have HGo := Lib.hid (HG.out hst)
              clear HG HNo
              go_wp2_with fail
              go_region_held3 (fun w' => w'.cell? ⟨w.heap.size, 2, none⟩ = some (.int .i64 5000) ∧ w'.cell? ⟨w.heap.size, 3, none⟩ = some (.int .i64 10000)) (go_keep) (first
                | (go_at_call 71; refine (FS _).mono ?_; rintro e w2 ⟨rfl, hb2⟩; have hB2 : Below wr.heap.size wr w2 := Below.trans (by repeat' (first | exact Below.refl _ _ | assumption | refine Below.alloc ?_ (by first | omega | (simp; done) | (simp; omega)) _ | refine Below.drew ?_ | refine Below.setCell ?_ (by first | omega | (simp; done) | (simp; omega)) _)) (hb2.mono (by simp)); have hy2 := hB2.size; have q0 : w2.cell? ⟨w.heap.size, 2, none⟩ = some (.int .i64 5000) := (hB2.cell (p := ⟨w.heap.size, 2, none⟩) hin).trans e0; have q1 : w2.cell? ⟨w.heap.size, 3, none⟩ = some (.int .i64 10000) := (hB2.cell (p := ⟨w.heap.size, 3, none⟩) hin).trans e1; have hB2w := hB.trans (hB2.mono hB.size); have hown2 := ownOver hown hB2; have hF2 := hF.over hB2 hin; have hin2 := hF2.inside; clear hb2))
              go_wp2_with fail
              have hfar := fun (g : Nat) (hg : g ≤ w.heap.size) e => show False by have := (hown.lt g (Eq.symm e)).1; omega
              go_region_held3 (fun w' => w'.cell? ⟨w.heap.size, 2, none⟩ = some (.int .i64 5000) ∧ w'.cell? ⟨w.heap.size, 3, none⟩ = some (.int .i64 10000)) (first | go_keep | (go_split_ands; refine ⟨?_, ?_⟩ <;> (rw [hgrow.cell_far _ (by simp; omega) (hfar _ (Nat.le_refl _))]; assumption)))
                ((refine step_append_lies _ (by rfl) _ _ _ (by rfl) (w.heap.size + 1) 39 i0 _ 3 24 Try.underlying26 hi hz0 hz1 hz2 rfl (by omega) _ _ _ (by rfl) ((hown2.alloc _).drew) ⟨w2.heap.size, 0, none⟩ 1 1 [.int .i64 5000, .int .i64 10000, .int .i64 st] (by rfl) (by rfl) (World.news_of_block (cs := #[.int .i64 5000, .int .i64 10000, .int .i64 st]) (t := 39) (fr := (0, 0)) (heap_alloc_new w2 _)) (by simp [Value.oneCell']) (by omega) (by unfold maxLen; omega) (by omega) (by simp; omega) (w2.heap.size + 1) (by simp) ?_; intro gg cap w4 hown1 hgrow hat hlt4))
              have hB4 := (Below.drew (hB2w.alloc (by omega) (.cells #[.int .i64 5000, .int .i64 10000, .int .i64 st] 39))).grown hgrow (by simp; omega) (fun k hk => by have := (hown2.lt k hk).1; omega)
              have hF4 := Full.grow (w := (w2.alloc (.cells #[.int .i64 5000, .int .i64 10000, .int .i64 st] 39)).drew) (hF2.block _) hgrow (hfar _ (Nat.le_refl _))
              have hz4 := hgrow.size
              clear hgrow hat
              go_wp2
              go_roundw
              case rel =>
                refine ⟨3, by omega, by go_num, HGo.out, ?_, hF4, by simp at hz4; omega, hB4⟩
                rw [HT.out, cells3_append]
                exact hown1
              case measure => simp [intOf]
            · have hd : (st == 0) = true := by simp; omega
              have HV := Lib.hid (HNo.out hst)
              clear HG HNo
              go_wp2_with fail
              go_region_held3 (fun w' => w'.cell? ⟨w.heap.size, 2, none⟩ = some (.int .i64 5000) ∧ w'.cell? ⟨w.heap.size, 3, none⟩ = some (.int .i64 10000)) (go_keep) (first
                | (go_at_call 71; refine (FS _).mono ?_; rintro e w2 ⟨rfl, hb2⟩; have hB2 : Below wr.heap.size wr w2 := Below.trans (by repeat' (first | exact Below.refl _ _ | assumption | refine Below.alloc ?_ (by first | omega | (simp; done) | (simp; omega)) _ | refine Below.drew ?_ | refine Below.setCell ?_ (by first | omega | (simp; done) | (simp; omega)) _)) (hb2.mono (by simp)); have q0 : w2.cell? ⟨w.heap.size, 2, none⟩ = some (.int .i64 5000) := (hB2.cell (p := ⟨w.heap.size, 2, none⟩) hin).trans e0; have q1 : w2.cell? ⟨w.heap.size, 3, none⟩ = some (.int .i64 10000) := (hB2.cell (p := ⟨w.heap.size, 3, none⟩) hin).trans e1; have hB2w := hB.trans (hB2.mono hB.size); clear hb2))
              go_wp2_with fail
              go_ret2
              rw [HV.out]
              exact ⟨_, rfl, World.ownsRow_nil _ _ _ _, hB2w⟩
          | 3, _ =>
            have HV := Lib.hid (HW.out.trans (if_pos hgt'.out))
            go_wp2_with fail
            go_ret2
            rw [HV.out]
            exact ⟨_, rfl, ownLower hown (by omega), hB⟩
      · have g3' : inB lim 0 100000 = false := by simpa using g3
        have HV := Lib.hid (show rChoose s len lim = ([], 2) by rw [rChoose, if_neg (by simp [chgB, *])])
        go_enter Try.func11, Try.ntmps11
        go_wp2_with (first
          | (go_at_call 68; refine (sIsScale_any _ _).mono ?_; rintro e w' ⟨rfl, rfl⟩)
          | (go_at_call 69; refine (l05Length_any _ _).mono ?_; rintro e w' ⟨rfl, rfl⟩)
          | (go_at_call 70; refine (l01In_any _ _ _ _).mono ?_; rintro e w' ⟨rfl, rfl⟩))
        all_goals go_ret2
        all_goals rw [HV.out]
        all_goals exact ⟨_, rfl, World.ownsRow_nil _ _ _ _, Below.refl _ _⟩
    · have g2' : inB len 1 100000 = false := by simpa using g2
      have HV := Lib.hid (show rChoose s len lim = ([], 2) by rw [rChoose, if_neg (by simp [chgB, *])])
      go_enter Try.func11, Try.ntmps11
      go_wp2_with (first
        | (go_at_call 68; refine (sIsScale_any _ _).mono ?_; rintro e w' ⟨rfl, rfl⟩)
        | (go_at_call 69; refine (l05Length_any _ _).mono ?_; rintro e w' ⟨rfl, rfl⟩)
        | (go_at_call 70; refine (l01In_any _ _ _ _).mono ?_; rintro e w' ⟨rfl, rfl⟩))
      all_goals go_ret2
      all_goals rw [HV.out]
      all_goals exact ⟨_, rfl, World.ownsRow_nil _ _ _ _, Below.refl _ _⟩
  · have g1' : inB s 0 5 = false := by simpa using g1
    have HV := Lib.hid (show rChoose s len lim = ([], 2) by rw [rChoose, if_neg (by simp [chgB, *])])
    go_enter Try.func11, Try.ntmps11
    go_wp2_with (first
      | (go_at_call 68; refine (sIsScale_any _ _).mono ?_; rintro e w' ⟨rfl, rfl⟩)
      | (go_at_call 69; refine (l05Length_any _ _).mono ?_; rintro e w' ⟨rfl, rfl⟩)
      | (go_at_call 70; refine (l01In_any _ _ _ _).mono ?_; rintro e w' ⟨rfl, rfl⟩))
    all_goals go_ret2
    all_goals rw [HV.out]
    all_goals exact ⟨_, rfl, World.ownsRow_nil _ _ _ _, Below.refl _ _⟩
end Go.Proofs.Ythnjiiodpjielaa
