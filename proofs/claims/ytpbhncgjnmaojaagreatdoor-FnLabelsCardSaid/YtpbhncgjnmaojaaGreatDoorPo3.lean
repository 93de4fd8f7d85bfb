/- The least proof of labels: the program's walk (layer 9). No condition but the table. -/
import Derived.Test.YtpbhncgjnmaojaaGreatDoorPo2
import Derived.Test.YtpbhncgjnmaojaaGreatDoorApp2
import Derived.Test.YtpbhncgjnmaojaaGreatDoorLw
namespace Go.Proofs.YtpbhncgjnmaojaaGreatDoor
open Go.RowKit
set_option linter.unusedVariables false
set_option linter.unusedSimpArgs false

theorem fullNewI {w : World} {g : Nat} {t : TypeId} {cs : Array Value} (h : w.heap.size = g) : Full (w.alloc (.cells cs t)) g t cs := by subst h; exact Full.made w t cs
theorem fullDrewI {w : World} {g : Nat} {t : TypeId} {cs : Array Value} (h : Full w g t cs) : Full w.drew g t cs := h
theorem ownDrewI {w : World} {base n size : Nat} {e : TypeId} {x : Value} {xs : List Value} (h : w.ownsRow base e size x n xs) : w.drew.ownsRow base e size x n xs := h
theorem ownAt {w : World} {base n size g cap : Nat} {e : TypeId} {xs : List Value} (h : w.ownsRow base e size (.slice (some ⟨g, 0, none⟩) n cap) n xs) : ∀ j u, xs[j]? = some u → w.cell? ⟨g, j, none⟩ = some u := fun j u hu => by
  have := h.cells (g := g) rfl j u hu
  rwa [Addr.add_lit, Nat.zero_add] at this
/-- a slice of its own -/
def GivesR (xs : List Int) (w : World) (e : Ending) (w' : World) : Prop := ∃ v, e = .returned v ∧ w'.ownsRow w.heap.size 2 1 v xs.length (xs.map (Value.int .i64)) ∧ Below w.heap.size w w'
theorem natV_ints (L : List Nat) : L.map natV = (L.map fun (i : Nat) => (i : Int)).map (Value.int .i64) := by rw [List.map_map]; rfl
theorem natV_ints2 {L : List Nat} {f : Nat → Nat} : (L.map fun i => natV (f i)) = (L.map fun (i : Nat) => ((f i : Nat) : Int)).map (Value.int .i64) := by rw [List.map_map]; rfl
theorem ints_at {L : List Nat} {j x : Nat} (h : L[j]? = some x) : (L.map fun (i : Nat) => (i : Int))[j]? = some (x : Int) := by rw [List.getElem?_map, h]; rfl
theorem ints_at2 {L : List Nat} {f : Nat → Nat} {j x : Nat} (h : L[j]? = some x) : (L.map fun (i : Nat) => ((f i : Nat) : Int))[j]? = some ((f x : Nat) : Int) := by rw [List.getElem?_map, h]; rfl
theorem WL_bd {l : List (Int × Int × Int)} {n : Nat} (hl : l.length = n) (hok : ∀ p ∈ l, okL p = true) (i : Nat) : 0 ≤ WL l i ∧ WL l i ≤ 41 := by
  unfold WL
  by_cases h : i < n
  · have := (tk_facts hl hok h).2
    omega
  · have : htA l i = 0 := by
      unfold htA tkA
      rw [List.getD_eq_getElem?_getD, List.getElem?_eq_none (by omega)]
      rfl
    omega
theorem dpL_bd {l : List (Int × Int × Int)} {n : Nat} (hl : l.length = n) (hn : n ≤ 40) (hok : ∀ p ∈ l, okL p = true) (k : Nat) (hk : k ≤ n) : 0 ≤ dpV (RL l) (LL l) (WL l) n k ∧ dpV (RL l) (LL l) (WL l) n k ≤ 1640 := by
  have := dpV_bd (n := n) (LL_RL l) (W := 41) (by omega) (WL_bd hl hok) k hk
  omega
set_option maxRecDepth 100000 in
set_option maxHeartbeats 16000000 in
theorem labelProof_any (A : Option Addr) (n c : Nat) (l : List (Int × Int × Int)) (w : World) (hl : l.length = n) (hn40 : n ≤ 40) (hok : ∀ p ∈ l, okL p = true) (hs : Sees w w.heap.size A (cells3 l)) (hT : Tab w) :
    Calls Tryz.prog 22 #[.slice A n c] w (GivesR (dpP (RL l) (LL l) (WL l) n n) w) := by
  have HL := Lib.hid hl
  have HOK := Lib.hid hok
  have PO := proofOrder_any A n c l w hl hn40 hok hs hT
  have DB := Lib.hid (dpL_bd hl hn40 hok)
  obtain ⟨i0, hi', hz0, hz1, hz2⟩ := info_parts infoI64
  clear hl hok
  go_enter Tryz.func22, Tryz.ntmps22
  go_wp2_with fail
  refine PO.mono ?_
  rintro e w1 ⟨v0, u0, rfl, ov, ou, B1⟩
  rw [natV_ints] at ov
  rw [natV_ints2] at ou
  obtain ⟨vA, vc, rfl⟩ := ownShape ov
  obtain ⟨uA, uc, rfl⟩ := ownShape ou
  have z1 := B1.size
  replace hs := (hs.over B1).wider z1
  clear PO
  go_wp2_with fail
  go_loopw [5, 16] (fun v a wr => ∃ k : Nat, k ≤ n ∧ a = .int .i64 (k : Int) ∧ wr.ownsRow w1.heap.size 2 1 v (k + 1) ((dpP (RL l) (LL l) (WL l) n k).map (Value.int .i64)) ∧ Below w1.heap.size w1 wr) (fun v a _ => n - (intOf a).toNat)
  case atStart => exact ⟨0, Nat.zero_le _, rfl, World.ownsRow_lit w1 #[.int .i64 0] 1 (Nat.le_refl _) (by unfold maxLen; omega) rfl, by repeat' (first | (with_reducible exact Below.refl _ _) | (with_reducible assumption) | (with_reducible refine Below.alloc ?_ ?_ _) | (with_reducible refine Below.drew ?_) | (with_reducible refine belowDraws ?_ _) | (with_reducible refine Below.setCell ?_ ?_ _) | omega | (simp; done) | (simp; omega))⟩
  case round =>
    obtain ⟨k, hk, rfl, hown, hB⟩ := hrel
    have zr := hB.size
    by_cases hlt : k < n
    · obtain ⟨o, ho, hon⟩ := ordP_at (R := RL l) (n := n) hlt
      obtain ⟨ob, ooff, rfl, hob, HO⟩ := intAll (Sees.ofOwn ov) (by rw [List.length_map, ordP_length]; omega)
      obtain ⟨ub, uoff, rfl, hub, HU⟩ := intAll (Sees.ofOwn ou) (by rw [List.length_map, ordP_length]; omega)
      obtain ⟨tb, tof, rfl, htb, HTK⟩ := tickAll hs HL.out HOK.out (by omega)
      have HO2 := Lib.hid ho
      have hfp := freeP_pos (LL_RL l) ho
      obtain ⟨_, r1, r2, r3, r4, r5, r6⟩ := tk_facts HL.out HOK.out hon
      have HDN := Lib.hid (dpP_next (Wt := WL l) (LL_RL l) ho)
      have HMX := dpV_next (Wt := WL l) (LL_RL l) ho
      have D1 := DB.out k hk
      have D2 := DB.out (freeP (RL l) (LL l) n o) (by omega)
      have D3 := DB.out (k + 1) hlt
      have e0 := HO.out wr hB k _ (ints_at ho)
      rcases ownRow hown with ⟨_, hn0, _⟩ | ⟨g, cap, cur, rfl, hbg, hFg, hkc, hcm, _, _⟩
      · omega
      have HOWN := Lib.hid hown
      have CE := Lib.hid (show ∀ W : World, (∀ j u, ((dpP (RL l) (LL l) (WL l) n k).map (Value.int .i64))[j]? = some u → W.cell? ⟨g, j, none⟩ = some u) → Below w1.heap.size w1 W → W.cell? ⟨g, k, none⟩ = some (.int .i64 (dpV (RL l) (LL l) (WL l) n k)) ∧ W.cell? ⟨g, freeP (RL l) (LL l) n o, none⟩ = some (.int .i64 (dpV (RL l) (LL l) (WL l) n (freeP (RL l) (LL l) n o))) ∧ W.cell? ⟨ub, uoff + k, none⟩ = some (.int .i64 (freeP (RL l) (LL l) n o : Int)) ∧ W.cell? ⟨tb, tof + o * 3, none⟩ = some (.int .i64 (mkA l o : Int)) ∧ W.cell? ⟨tb, tof + o * 3 + 1, none⟩ = some (.int .i64 (plA l o)) ∧ W.cell? ⟨tb, tof + o * 3 + 2, none⟩ = some (.int .i64 (htA l o)) from fun W hW hBW => by
        have c1 := hW k (.int .i64 (dpV (RL l) (LL l) (WL l) n k)) (by rw [List.getElem?_map, dpP_at (Nat.le_refl _)]; rfl)
        have c2 := hW (freeP (RL l) (LL l) n o) (.int .i64 (dpV (RL l) (LL l) (WL l) n (freeP (RL l) (LL l) n o))) (by rw [List.getElem?_map, dpP_at hfp]; rfl)
        exact ⟨c1, c2, HU.out W hBW k _ (ints_at2 ho), HTK.out W hBW o hon⟩)
      obtain ⟨c1, c2, c3, c4, c5, c6⟩ := CE.out wr (ownAt hown) hB
      have WO := fun W => worth_any (mkA l o : Int) (plA l o) (htA l o) W r5 r6
      have hgr := hFg.inside
      have HWL : WL l o = 1 + 10 * htA l o := rfl
      rw [HWL] at HMX
      obtain ⟨nv, hnv⟩ : ∃ nv, dpV (RL l) (LL l) (WL l) n (k + 1) = nv := ⟨_, rfl⟩
      rw [hnv] at HMX HDN D3
      generalize dpV (RL l) (LL l) (WL l) n k = dk at *
      generalize freeP (RL l) (LL l) n o = fo at *
      generalize dpV (RL l) (LL l) (WL l) n fo = df at *
      generalize (mkA l o : Int) = mo at *
      generalize plA l o = po at *
      generalize htA l o = ho' at *
      have HM : max dk (1 + 10 * ho' + df) = nv := by omega
      have k0 : (0 : Int) ≤ (k : Int) := by omega
      have k1 : (k : Int) < (n : Int) := by omega
      have k2 : (k : Int) < (k : Int) + 1 := by omega
      have o0 : (0 : Int) ≤ (o : Int) := by omega
      have o1 : (o : Int) < (n : Int) := by omega
      have f0 : (0 : Int) ≤ (fo : Int) := by omega
      have f1 : (fo : Int) < (k : Int) + 1 := by omega
      have e5 : IntKind.i64.wrap (1 + 10 * ho' + df) = 1 + 10 * ho' + df := IntWalk.i64_in _ (by omega)
      have lo : ob < wr.heap.size := by omega
      have lt : tb < wr.heap.size := by omega
      have lu : ub < wr.heap.size := by omega
      clear HMX hnv ho hown hFg hs ov ou D1 D2 D3 HWL r1 r2 r3 r4
      go_wp2_with fail
      go_region_held3 (fun w' => w'.cell? ⟨g, k, none⟩ = some (.int .i64 dk) ∧ w'.cell? ⟨g, fo, none⟩ = some (.int .i64 df) ∧ w'.cell? ⟨ub, uoff + k, none⟩ = some (.int .i64 (fo : Int)) ∧ w'.cell? ⟨tb, tof + o * 3, none⟩ = some (.int .i64 mo) ∧ w'.cell? ⟨tb, tof + o * 3 + 1, none⟩ = some (.int .i64 po) ∧ w'.cell? ⟨tb, tof + o * 3 + 2, none⟩ = some (.int .i64 ho')) (go_keep) (first
        | (go_at_call 34; (with_reducible refine (WO _).mono ?_); rintro e w2 ⟨rfl, hb2⟩; have hB2 : Below wr.heap.size wr w2 := Below.trans (by repeat' (first | exact Below.refl _ _ | assumption | refine Below.alloc ?_ (by first | omega | (simp; done) | (simp; omega)) _ | refine Below.drew ?_ | refine Below.setCell ?_ (by first | omega | (simp; done) | (simp; omega)) _)) (hb2.mono (by first | omega | (simp; done) | (simp; omega))); have hown2 := ownOver HOWN.out hB2; have hW2 := hB.trans (hB2.mono zr); have z2 := hW2.size; have y2 := hB2.size; have s1 := CE.out w2 (ownAt hown2) hW2; obtain ⟨s2, s3, s4, s5, s6, s7⟩ := s1; clear hb2)
        | (refine step_append_stays (by rfl) (.tmp 21) (.tmp 40) 26 (by rfl) (w1.heap.size) 2 i0 _ 1 8 Tryz.underlying26 hi' hz0 hz1 hz2 rfl (by omega) g (k + 1) cap ((dpP (RL l) (LL l) (WL l) n k).map (Value.int .i64)) (by rfl) (by repeat' (first | (with_reducible assumption) | (with_reducible refine World.ownsRow.alloc ?_ _) | (with_reducible refine ownDrewI ?_))) ⟨w2.heap.size, 0, none⟩ 1 _ [.int .i64 nv] (by rfl) (by rfl) (by (repeat (first | (with_reducible exact news_one rfl) | (with_reducible refine news_draw ?_)))) (by simp [Value.oneCell']) (by unfold maxLen; omega) (by omega) (by first | omega | (simp; done) | (simp; omega)) ?_; intro v3 w3 o3 hgr3 hst3; have B3 : Below w1.heap.size w1 w3 := Below.grown (by repeat' (first | (with_reducible exact Below.refl _ _) | (with_reducible assumption) | (with_reducible refine Below.alloc ?_ ?_ _) | (with_reducible refine Below.drew ?_) | (with_reducible refine belowDraws ?_ _) | (with_reducible refine Below.setCell ?_ ?_ _) | omega | (simp; done) | (simp; omega))) hgr3 (by first | omega | (simp; done) | (simp; omega)) (by intro q hq; injection hq with hq; omega); have s1' := CE.out w3 hst3 B3; obtain ⟨s2', s3', s4', s5', s6', s7'⟩ := s1'; have z3' := hgr3.size; have y3' : w2.heap.size < w3.heap.size := Nat.lt_of_lt_of_le (by first | omega | (simp; done) | (simp; omega)) z3'))
      all_goals go_wp2_with fail
      all_goals go_roundw
      all_goals first
        | (exact ⟨k + 1, by omega, by go_num, by rw [HDN.out, List.map_append]; exact o3, B3⟩)
        | (simp [intOf]; omega)
    · have hke : ¬ (k : Int) < (n : Int) := by omega
      have HKN := Lib.hid (show k = n by omega)
      clear hs ov ou
      go_wp2_with fail
      go_ret
      refine ⟨_, rfl, ?_, B1.trans (hB.mono z1)⟩
      rw [HKN.out] at hown
      rw [dpP_length]
      exact ownLower hown z1
end Go.Proofs.YtpbhncgjnmaojaaGreatDoor
