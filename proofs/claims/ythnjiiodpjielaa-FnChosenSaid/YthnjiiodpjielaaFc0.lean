/- The law FnChosen (layer 7) and the draws of its arguments. No condition. -/
import Derived.Test.YthnjiiodpjielaaDr7
import Derived.Test.YthnjiiodpjielaaChg
import Derived.Test.YthnjiiodpjielaaLike
namespace Go.Proofs.Ythnjiiodpjielaa
open Go.RowKit
set_option linter.unusedVariables false
set_option linter.unusedSimpArgs false

theorem finestL_mem {s len fr up lim : Int} : ∀ l : List Int, 0 < finestL s len fr up lim l → finestL s len fr up lim l ∈ l ∧ fineB s len fr up lim (finestL s len fr up lim l) = true
  | [], h => by simp [finestL] at h
  | y :: r, h => by
    rw [finestL] at h ⊢
    split
    · rename_i hy
      exact ⟨List.mem_cons_self .., hy⟩
    · rename_i hy
      rw [if_neg hy] at h
      obtain ⟨h1, h2⟩ := finestL_mem r h
      exact ⟨List.mem_cons_of_mem _ h1, h2⟩
theorem fineB_less {s len fr up lim lim' y : Int} (hl : lim' ≤ lim) (h : fineB s len fr up lim y = true) : fineB s len fr up lim' y = true := by
  simp only [fineB, Bool.and_eq_true, Bool.or_eq_true, decide_eq_true_eq] at h ⊢
  refine ⟨h.1, ?_⟩
  rcases h.2 with h2 | h2
  · exact .inl h2
  · exact .inr (by omega)
theorem finestL_mono {s len fr up lim lim' : Int} (hl : lim' ≤ lim) : ∀ l : List Int, l.Pairwise (· < ·) → (∀ y ∈ l, 0 < y) → 0 < finestL s len fr up lim l → 0 < finestL s len fr up lim' l ∧ finestL s len fr up lim' l ≤ finestL s len fr up lim l
  | [], _, _, h => by simp [finestL] at h
  | y :: r, hp, h0, h => by
    rw [List.pairwise_cons] at hp
    have hy0 := h0 y (List.mem_cons_self ..)
    by_cases hy : fineB s len fr up lim y = true
    · rw [finestL, finestL, if_pos hy, if_pos (fineB_less hl hy)]
      exact ⟨hy0, Int.le_refl _⟩
    · rw [finestL, if_neg hy] at h
      by_cases hy2 : fineB s len fr up lim' y = true
      · rw [finestL, finestL, if_neg hy, if_pos hy2]
        have := hp.1 _ (finestL_mem r h).1
        exact ⟨hy0, by omega⟩
      · rw [finestL, finestL, if_neg hy, if_neg hy2]
        exact finestL_mono hl r hp.2 (fun z hz => h0 z (List.mem_cons_of_mem _ hz)) h
theorem finest_less {s len fr up lim lim' : Int} (hl : lim' ≤ lim) (h : 0 < finest s len fr up lim) : 0 < finest s len fr up lim' ∧ finest s len fr up lim' ≤ finest s len fr up lim :=
  finestL_mono hl steps (by decide) (by decide) h
theorem finest_div {s len fr up lim : Int} (h : 0 < finest s len fr up lim) : (up - fr) % finest s len fr up lim = 0 := by
  have := (finestL_mem steps h).2
  simp only [fineB, Bool.and_eq_true, decide_eq_true_eq] at this
  exact this.1
theorem finest_ok {a b fr up lim m : Int} (h : rFinest a b fr up lim = (m, 0)) : 1 ≤ m ∧ m ≤ 500 ∧ (up - fr) % m = 0 ∧ (1000 ≤ fr ∧ fr < up ∧ up ≤ 10000) := by
  rw [rFinest] at h
  split at h
  · rename_i hb
    split at h
    · rename_i h0
      simp only [Prod.mk.injEq, and_true] at h
      subst h
      simp only [finB, Bool.and_eq_true, decide_eq_true_eq] at hb
      have i1 := inB_iff.1 hb.1.1.1.2
      have i2 := inB_iff.1 hb.1.1.2
      have := @finest_bd a b fr up lim
      exact ⟨by omega, by omega, finest_div h0, by omega⟩
    · simp at h
  · simp at h
theorem choose_ok {s len lim : Int} {T : List (Int × Int × Int)} (h : rChoose s len lim = (T, 0)) : gradB T = true ∧ T.length = 3 ∧ I64s3 T ∧ (0 ≤ lim ∧ lim ≤ 100000) ∧ ∀ p ∈ T, rFinest s len p.1 p.2.1 lim = (p.2.2, 0) ∧ ∃ q, rFinest s len p.1 p.2.1 (lim / 2) = (q, 0) ∧ q ≤ p.2.2 := by
  rw [rChoose] at h
  split at h
  · rename_i hb
    split at h
    · rename_i h0
      simp only [Prod.mk.injEq, and_true] at h
      subst h
      simp only [chgB, Bool.and_eq_true] at hb
      obtain ⟨⟨b1, b2⟩, b3⟩ := hb
      have l := inB_iff.1 b3
      have d1 := finest_div h0.1
      have d2 := finest_div h0.2.1
      have d3 := finest_div h0.2.2
      have e1 := @finest_bd s len 1000 2000 lim
      have e2 := @finest_bd s len 2000 5000 lim
      have e3 := @finest_bd s len 5000 10000 lim
      have one : ∀ fr up : Int, 1000 ≤ fr → fr < up → up ≤ 10000 → 0 < finest s len fr up lim → rFinest s len fr up lim = (finest s len fr up lim, 0) ∧ ∃ q, rFinest s len fr up (lim / 2) = (q, 0) ∧ q ≤ finest s len fr up lim := by
        intro fr up f1 f2 f3 hp
        have hh := finest_less (lim' := lim / 2) (by omega) hp
        refine ⟨?_, finest s len fr up (lim / 2), ?_, hh.2⟩
        · rw [rFinest, if_pos (by rw [finB, b1, b2, b3, inB_iff.2 (⟨by omega, by omega⟩ : (1000:Int) ≤ fr ∧ fr ≤ 10000), inB_iff.2 (⟨by omega, by omega⟩ : (1000:Int) ≤ up ∧ up ≤ 10000), decide_eq_true f2]; rfl), if_pos hp]
        · rw [rFinest, if_pos (by rw [finB, b1, b2, inB_iff.2 (⟨by omega, by omega⟩ : (0:Int) ≤ lim / 2 ∧ lim / 2 ≤ 100000), inB_iff.2 (⟨by omega, by omega⟩ : (1000:Int) ≤ fr ∧ fr ≤ 10000), inB_iff.2 (⟨by omega, by omega⟩ : (1000:Int) ≤ up ∧ up ≤ 10000), decide_eq_true f2]; rfl), if_pos hh.1]
      refine ⟨?_, rfl, ?_, l, ?_⟩
      · have gp : ∀ a b m : Int, a < b → b ≤ 10000 → 1 ≤ m → (b - a) % m = 0 → partOk a (a, b, m) := fun a b m k1 k2 k3 k4 => ⟨rfl, k1, k2, k3, k4⟩
        have g1 := gp 1000 2000 _ (by omega) (by omega) (by omega) d1
        have g2 := gp 2000 5000 _ (by omega) (by omega) (by omega) d2
        have g3 := gp 5000 10000 _ (by omega) (by omega) (by omega) d3
        rw [gradB, choose3, gradRun, if_pos g1, gradRun, if_pos g2, gradRun, if_pos g3, gradRun]
        simp
      · intro p hp
        simp only [choose3, List.mem_cons, List.not_mem_nil, or_false] at hp
        rcases hp with rfl | rfl | rfl <;> (unfold I64; simp only; omega)
      · intro p hp
        simp only [choose3, List.mem_cons, List.not_mem_nil, or_false] at hp
        rcases hp with rfl | rfl | rfl
        · have oo := one 1000 2000 (by omega) (by omega) (by omega) h0.1; simp only; exact oo
        · have oo := one 2000 5000 (by omega) (by omega) (by omega) h0.2.1; simp only; exact oo
        · have oo := one 5000 10000 (by omega) (by omega) (by omega) h0.2.2; simp only; exact oo
    · simp at h
  · simp at h
theorem least_ok {l : List (Int × Int × Int)} {s len d : Int} (h : rLeast l s len = (d, 0)) : 0 ≤ d := by
  rw [rLeast] at h
  split at h
  · split at h
    · split at h
      · simp only [Prod.mk.injEq, and_true] at h; omega
      · simp at h
    · simp at h
  · simp at h
set_option maxRecDepth 100000 in
set_option maxHeartbeats 2000000 in
theorem l07DrawLimit_any (b : Nat) (A : Option Addr) (n c : Nat) (l : List Int) (w : World) (hl : l.length = n) (hn : n ≤ 1048576) (h8 : U8s l) (hS : Src w b A n c l) :
    Calls Try.prog 63 #[.pointer (some ⟨b, 0, none⟩)] w fun e w' => ∃ v : Int, e = .returned (.int .i64 v) ∧ Src w' b A n c l ∧ w.grownBy w' (some b) := by
  have y0 := hS.inside
  have tok1 : True := trivial
  have tok2 : True := trivial
  go_enter Try.func63, Try.ntmps63
  go_wp2_with (first
    | (go_at_call 72; have _t1 := tok1; (with_reducible refine (l01Next_any _ b A n c l _ hl hn h8 ?_).mono ?_); (focus (repeat' (first | (with_reducible assumption) | (with_reducible refine Src.alloc ?_ _) | (with_reducible refine Src.drew ?_) | (with_reducible refine Src.drewN ?_ _) | (with_reducible refine Src.set ?_ ?_ _) | omega | (simp; done) | (simp; omega)))); rintro e w1 ⟨v1, rfl, lo1, hi1, S1, g1⟩; have G1 : w.grownBy w1 (some b) := grownTrans (by repeat' (first | (with_reducible exact grownRefl _ _) | (with_reducible assumption) | (with_reducible refine gAlloc ?_ _) | (with_reducible refine grownDrew ?_) | (with_reducible refine gDrewN ?_ _) | (with_reducible refine gSet ?_ ?_ _) | (left; with_reducible rfl) | (right; first | omega | (simp; done) | (simp; omega)) | (with_reducible refine gBel ?_ (by with_reducible assumption)))) g1; have z1 := G1.size; have y1 := S1.inside; clear g1; clear tok1 _t1)
    | (go_at_call 73; have _t1 := tok1; (with_reducible refine (l01Pick_any _ _ _ _ b A n c l _ hl hn h8 ?_ (Full.made _ _ _) ?_ ?_ ?_ ?_).mono ?_); (focus (repeat' (first | (with_reducible assumption) | (with_reducible refine Src.alloc ?_ _) | (with_reducible refine Src.drew ?_) | (with_reducible refine Src.drewN ?_ _) | (with_reducible refine Src.set ?_ ?_ _) | omega | (simp; done) | (simp; omega)))); (focus (first | exact nums_3 _ _ _ | exact nums_4 _ _ _ _ | exact nums_5 _ _ _ _ _ | exact nums_6 _ _ _ _ _ _ | exact nums_7 _ _ _ _ _ _ _ | exact nums_8 _ _ _ _ _ _ _ _)); (focus (first | omega | (simp; omega))); (focus (omega)); (focus (omega)); rintro e w1 ⟨v1, rfl, mem1, S1, g1⟩; have G1 : w.grownBy w1 (some b) := grownTrans (by repeat' (first | (with_reducible exact grownRefl _ _) | (with_reducible assumption) | (with_reducible refine gAlloc ?_ _) | (with_reducible refine grownDrew ?_) | (with_reducible refine gDrewN ?_ _) | (with_reducible refine gSet ?_ ?_ _) | (left; with_reducible rfl) | (right; first | omega | (simp; done) | (simp; omega)) | (with_reducible refine gBel ?_ (by with_reducible assumption)))) g1; have z1 := G1.size; have y1 := S1.inside; clear g1; clear tok1 _t1)
    | (go_at_call 72; have _t2 := tok2; (with_reducible refine (l01Next_any _ b A n c l _ hl hn h8 ?_).mono ?_); (focus (repeat' (first | (with_reducible assumption) | (with_reducible refine Src.alloc ?_ _) | (with_reducible refine Src.drew ?_) | (with_reducible refine Src.drewN ?_ _) | (with_reducible refine Src.set ?_ ?_ _) | omega | (simp; done) | (simp; omega)))); rintro e w2 ⟨v2, rfl, lo2, hi2, S2, g2⟩; have G2 : w.grownBy w2 (some b) := grownTrans (by repeat' (first | (with_reducible exact grownRefl _ _) | (with_reducible assumption) | (with_reducible refine gAlloc ?_ _) | (with_reducible refine grownDrew ?_) | (with_reducible refine gDrewN ?_ _) | (with_reducible refine gSet ?_ ?_ _) | (left; with_reducible rfl) | (right; first | omega | (simp; done) | (simp; omega)) | (with_reducible refine gBel ?_ (by with_reducible assumption)))) g2; have z2 := G2.size; have y2 := S2.inside; clear g2; clear tok2 _t2)
    | (go_at_call 73; have _t2 := tok2; (with_reducible refine (l01Pick_any _ _ _ _ b A n c l _ hl hn h8 ?_ (Full.made _ _ _) ?_ ?_ ?_ ?_).mono ?_); (focus (repeat' (first | (with_reducible assumption) | (with_reducible refine Src.alloc ?_ _) | (with_reducible refine Src.drew ?_) | (with_reducible refine Src.drewN ?_ _) | (with_reducible refine Src.set ?_ ?_ _) | omega | (simp; done) | (simp; omega)))); (focus (first | exact nums_3 _ _ _ | exact nums_4 _ _ _ _ | exact nums_5 _ _ _ _ _ | exact nums_6 _ _ _ _ _ _ | exact nums_7 _ _ _ _ _ _ _ | exact nums_8 _ _ _ _ _ _ _ _)); (focus (first | omega | (simp; omega))); (focus (omega)); (focus (omega)); rintro e w2 ⟨v2, rfl, mem2, S2, g2⟩; have G2 : w.grownBy w2 (some b) := grownTrans (by repeat' (first | (with_reducible exact grownRefl _ _) | (with_reducible assumption) | (with_reducible refine gAlloc ?_ _) | (with_reducible refine grownDrew ?_) | (with_reducible refine gDrewN ?_ _) | (with_reducible refine gSet ?_ ?_ _) | (left; with_reducible rfl) | (right; first | omega | (simp; done) | (simp; omega)) | (with_reducible refine gBel ?_ (by with_reducible assumption)))) g2; have z2 := G2.size; have y2 := S2.inside; clear g2; clear tok2 _t2))
  all_goals go_ret
  all_goals exact ⟨_, rfl, by repeat' (first | (with_reducible assumption) | (with_reducible refine Src.alloc ?_ _) | (with_reducible refine Src.drew ?_) | (with_reducible refine Src.drewN ?_ _) | (with_reducible refine Src.set ?_ ?_ _) | omega | (simp; done) | (simp; omega)), by repeat' (first | (with_reducible exact grownRefl _ _) | (with_reducible assumption) | (with_reducible refine gAlloc ?_ _) | (with_reducible refine grownDrew ?_) | (with_reducible refine gDrewN ?_ _) | (with_reducible refine gSet ?_ ?_ _) | (left; with_reducible rfl) | (right; first | omega | (simp; done) | (simp; omega)) | (with_reducible refine gBel ?_ (by with_reducible assumption)))⟩
set_option maxRecDepth 100000 in
set_option maxHeartbeats 4000000 in
theorem DrawChooseGraduation_any (A : Option Addr) (n c : Nat) (l : List Int) (w : World) (hl : l.length = n) (hn : n ≤ 1048576) (h8 : U8s l) (hs : Sees w w.heap.size A (l.map (Value.int .u8))) :
    Calls Try.prog 9 #[.slice A n c] w fun e w' => ∃ a b x : Int, e = .returned (.tuple #[.int .i64 a, .int .i64 b, .int .i64 x]) ∧ Below w.heap.size w w' := by
  go_enter Try.func9, Try.ntmps9
  go_wp2_with fail
  refine (l01From_any A n c l _ hl hn h8 ?_).mono ?_
  · exact (hs.over (by repeat' (first | exact Below.refl _ _ | assumption | refine Below.alloc ?_ (by first | omega | (simp; done) | (simp; omega)) _ | refine Below.drew ?_ | refine Below.setCell ?_ (by first | omega | (simp; done) | (simp; omega)) _))).wider (by first | omega | (simp; done) | (simp; omega))
  rintro e w0 ⟨b, rfl, hb0, S0, B0⟩
  have hb : w.heap.size + 0 ≤ b := by first | omega | (simp at hb0; omega)
  have y0 := S0.inside
  replace B0 : Below w.heap.size w w0 := Below.trans (by repeat' (first | exact Below.refl _ _ | assumption | refine Below.alloc ?_ (by first | omega | (simp; done) | (simp; omega)) _ | refine Below.drew ?_ | refine Below.setCell ?_ (by first | omega | (simp; done) | (simp; omega)) _)) (B0.mono (by first | omega | (simp; done) | (simp; omega)))
  have z0 := B0.size
  have hbw : w.heap.size ≤ b := by omega
  clear hb0 hs
  go_wp2_with fail
  refine (l05DrawScale_any b A n c l _ hl hn h8 S0).mono ?_
  rintro e w1 ⟨v1, rfl, S1, g1⟩
  have G1 : w0.grownBy w1 (some b) := grownTrans (by repeat' (first | (with_reducible exact grownRefl _ _) | (with_reducible assumption) | (with_reducible refine gAlloc ?_ _) | (with_reducible refine grownDrew ?_) | (with_reducible refine gDrewN ?_ _) | (with_reducible refine gSet ?_ ?_ _) | (left; with_reducible rfl) | (right; first | omega | (simp; done) | (simp; omega)) | (with_reducible refine gBel ?_ (by with_reducible assumption)))) g1
  have y1 := S1.inside
  clear g1
  go_wp2_with fail
  refine (l05DrawLength_any b A n c l _ hl hn h8 S1).mono ?_
  rintro e w2 ⟨v2, rfl, S2, g2⟩
  have G2 : w0.grownBy w2 (some b) := grownTrans (by repeat' (first | (with_reducible exact grownRefl _ _) | (with_reducible assumption) | (with_reducible refine gAlloc ?_ _) | (with_reducible refine grownDrew ?_) | (with_reducible refine gDrewN ?_ _) | (with_reducible refine gSet ?_ ?_ _) | (left; with_reducible rfl) | (right; first | omega | (simp; done) | (simp; omega)) | (with_reducible refine gBel ?_ (by with_reducible assumption)))) g2
  have y2 := S2.inside
  clear g2
  go_wp2_with fail
  refine (l07DrawLimit_any b A n c l _ hl hn h8 S2).mono ?_
  rintro e w3 ⟨v3, rfl, S3, g3⟩
  have G3 : w0.grownBy w3 (some b) := grownTrans (by repeat' (first | (with_reducible exact grownRefl _ _) | (with_reducible assumption) | (with_reducible refine gAlloc ?_ _) | (with_reducible refine grownDrew ?_) | (with_reducible refine gDrewN ?_ _) | (with_reducible refine gSet ?_ ?_ _) | (left; with_reducible rfl) | (right; first | omega | (simp; done) | (simp; omega)) | (with_reducible refine gBel ?_ (by with_reducible assumption)))) g3
  have y3 := S3.inside
  clear g3
  go_wp2_with fail
  go_ret3
  exact ⟨v1, v2, v3, rfl, B0.trans (gBelow G3 hbw z0)⟩
set_option maxRecDepth 100000 in
set_option maxHeartbeats 8000000 in
theorem DrawFinestStep_any (A : Option Addr) (n c : Nat) (l : List Int) (w : World) (hl : l.length = n) (hn : n ≤ 1048576) (h8 : U8s l) (hs : Sees w w.heap.size A (l.map (Value.int .u8))) :
    Calls Try.prog 12 #[.slice A n c] w fun e w' => ∃ a b x y z : Int, e = .returned (.tuple #[.int .i64 a, .int .i64 b, .int .i64 x, .int .i64 y, .int .i64 z]) ∧ Below w.heap.size w w' := by
  go_enter Try.func12, Try.ntmps12
  go_wp2_with fail
  refine (l01From_any A n c l _ hl hn h8 ?_).mono ?_
  · exact (hs.over (by repeat' (first | exact Below.refl _ _ | assumption | refine Below.alloc ?_ (by first | omega | (simp; done) | (simp; omega)) _ | refine Below.drew ?_ | refine Below.setCell ?_ (by first | omega | (simp; done) | (simp; omega)) _))).wider (by first | omega | (simp; done) | (simp; omega))
  rintro e w0 ⟨b, rfl, hb0, S0, B0⟩
  have hb : w.heap.size + 0 ≤ b := by first | omega | (simp at hb0; omega)
  have y0 := S0.inside
  replace B0 : Below w.heap.size w w0 := Below.trans (by repeat' (first | exact Below.refl _ _ | assumption | refine Below.alloc ?_ (by first | omega | (simp; done) | (simp; omega)) _ | refine Below.drew ?_ | refine Below.setCell ?_ (by first | omega | (simp; done) | (simp; omega)) _)) (B0.mono (by first | omega | (simp; done) | (simp; omega)))
  have z0 := B0.size
  have hbw : w.heap.size ≤ b := by omega
  clear hb0 hs
  go_wp2_with fail
  refine (l05DrawScale_any b A n c l _ hl hn h8 S0).mono ?_
  rintro e w1 ⟨v1, rfl, S1, g1⟩
  have G1 : w0.grownBy w1 (some b) := grownTrans (by repeat' (first | (with_reducible exact grownRefl _ _) | (with_reducible assumption) | (with_reducible refine gAlloc ?_ _) | (with_reducible refine grownDrew ?_) | (with_reducible refine gDrewN ?_ _) | (with_reducible refine gSet ?_ ?_ _) | (left; with_reducible rfl) | (right; first | omega | (simp; done) | (simp; omega)) | (with_reducible refine gBel ?_ (by with_reducible assumption)))) g1
  have y1 := S1.inside
  clear g1
  go_wp2_with fail
  refine (l05DrawLength_any b A n c l _ hl hn h8 S1).mono ?_
  rintro e w2 ⟨v2, rfl, S2, g2⟩
  have G2 : w0.grownBy w2 (some b) := grownTrans (by repeat' (first | (with_reducible exact grownRefl _ _) | (with_reducible assumption) | (with_reducible refine gAlloc ?_ _) | (with_reducible refine grownDrew ?_) | (with_reducible refine gDrewN ?_ _) | (with_reducible refine gSet ?_ ?_ _) | (left; with_reducible rfl) | (right; first | omega | (simp; done) | (simp; omega)) | (with_reducible refine gBel ?_ (by with_reducible assumption)))) g2
  have y2 := S2.inside
  clear g2
  go_wp2_with fail
  refine (l01Next_any _ b A n c l _ hl hn h8 S2).mono ?_
  rintro e w3 ⟨v3, rfl, lo3, hi3, S3, g3⟩
  have hv3 : v3 ≤ 84 := by omega
  clear hi3
  have G3 : w0.grownBy w3 (some b) := grownTrans (by repeat' (first | (with_reducible exact grownRefl _ _) | (with_reducible assumption) | (with_reducible refine gAlloc ?_ _) | (with_reducible refine grownDrew ?_) | (with_reducible refine gDrewN ?_ _) | (with_reducible refine gSet ?_ ?_ _) | (left; with_reducible rfl) | (right; first | omega | (simp; done) | (simp; omega)) | (with_reducible refine gBel ?_ (by with_reducible assumption)))) g3
  have y3 := S3.inside
  clear g3
  go_wp2_with fail
  refine (l01Pick_any _ _ _ _ b A n c l _ hl hn h8 (S3.alloc _) (Full.made _ _ _) ?_ ?_ ?_ ?_).mono ?_
  · first | exact nums_3 _ _ _ | exact nums_4 _ _ _ _ | exact nums_5 _ _ _ _ _ | exact nums_6 _ _ _ _ _ _ | exact nums_7 _ _ _ _ _ _ _ | exact nums_8 _ _ _ _ _ _ _ _
  · omega
  · omega
  · omega
  rintro e w4 ⟨v4, rfl, mem4, S4, g4⟩
  have i4 : I64 v4 := pickOf4 mem4 (by unfold I64; omega) (by unfold I64; omega) (by unfold I64; omega) (by unfold I64; omega)
  clear mem4
  have G4 : w0.grownBy w4 (some b) := grownTrans (by repeat' (first | (with_reducible exact grownRefl _ _) | (with_reducible assumption) | (with_reducible refine gAlloc ?_ _) | (with_reducible refine grownDrew ?_) | (with_reducible refine gDrewN ?_ _) | (with_reducible refine gSet ?_ ?_ _) | (left; with_reducible rfl) | (right; first | omega | (simp; done) | (simp; omega)) | (with_reducible refine gBel ?_ (by with_reducible assumption)))) g4
  have y4 := S4.inside
  clear g4
  go_wp2_with fail
  refine (l01Pick_any _ _ _ _ b A n c l _ hl hn h8 (S4.alloc _) (Full.made _ _ _) ?_ ?_ ?_ ?_).mono ?_
  · first | exact nums_3 _ _ _ | exact nums_4 _ _ _ _ | exact nums_5 _ _ _ _ _ | exact nums_6 _ _ _ _ _ _ | exact nums_7 _ _ _ _ _ _ _ | exact nums_8 _ _ _ _ _ _ _ _
  · omega
  · omega
  · omega
  rintro e w5 ⟨v5, rfl, mem5, S5, g5⟩
  have i5 : I64 v5 := pickOf5 mem5 (by unfold I64; omega) (by unfold I64; omega) (by unfold I64; omega) (by unfold I64; omega) (by unfold I64; omega)
  clear mem5
  have G5 : w0.grownBy w5 (some b) := grownTrans (by repeat' (first | (with_reducible exact grownRefl _ _) | (with_reducible assumption) | (with_reducible refine gAlloc ?_ _) | (with_reducible refine grownDrew ?_) | (with_reducible refine gDrewN ?_ _) | (with_reducible refine gSet ?_ ?_ _) | (left; with_reducible rfl) | (right; first | omega | (simp; done) | (simp; omega)) | (with_reducible refine gBel ?_ (by with_reducible assumption)))) g5
  have y5 := S5.inside
  clear g5
  go_wp2_with fail
  refine (l07DrawLimit_any b A n c l _ hl hn h8 S5).mono ?_
  rintro e w6 ⟨v6, rfl, S6, g6⟩
  have G6 : w0.grownBy w6 (some b) := grownTrans G5 g6
  go_wp2_with fail
  refine bodyPost_ret (v := .tuple #[.int .i64 v1, .int .i64 v2, .int .i64 v4, .int .i64 v5, .int .i64 v6]) ?_ rfl ?_
  · simp [results, Try.results12, go_sem, *]
  · exact ⟨v1, v2, v4, v5, v6, rfl, B0.trans (gBelow G6 hbw z0)⟩
end Go.Proofs.Ythnjiiodpjielaa
