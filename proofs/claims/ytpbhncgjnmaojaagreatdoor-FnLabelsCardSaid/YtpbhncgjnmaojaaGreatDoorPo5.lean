/- The least proof of labels: the reference's walk, and LabelProof (layer 9). No condition but the table. -/
import Derived.Test.YtpbhncgjnmaojaaGreatDoorPo4
namespace Go.Proofs.YtpbhncgjnmaojaaGreatDoor
open Go.RowKit
set_option linter.unusedVariables false
set_option linter.unusedSimpArgs false

set_option maxRecDepth 100000 in
set_option maxHeartbeats 4000000 in
theorem l09Free_any (A : Option Addr) (n c : Nat) (l : List (Int × Int × Int)) (i : Nat) (w : World) (hl : l.length = n) (hn40 : n ≤ 40) (hok : ∀ p ∈ l, okL p = true) (hi : i < n) (hs : Sees w w.heap.size A (cells3 l)) :
    Calls Tryz.prog 27 #[.slice A n c, .agg #[.int .i64 (mkA l i : Int), .int .i64 (plA l i), .int .i64 (htA l i)]] w fun e w' => e = .returned (.int .i64 (freeP (RL l) (LL l) n i : Int)) ∧ Below w.heap.size w w' := by
  have HL := Lib.hid hl
  have HOK := Lib.hid hok
  obtain ⟨_, p1, p2, p3, p4, p5, p6⟩ := tk_facts hl hok hi
  have CI := fun W => l09Ends_any (mkA l i) (plA l i) (htA l i) W (by omega) p2 p3 p4
  rw [show endL (mkA l i) (plA l i) = LL l i from rfl, show endR (mkA l i) (plA l i) = RL l i from rfl] at CI
  obtain ⟨tb, tof, rfl, htb, HTK⟩ := tickAll hs hl hok (by omega)
  have HCN := Lib.hid (cntP_range (R := RL l) (Lf := LL l) (n := n) i)
  clear hl hok hs
  go_enter Tryz.func27, Tryz.ntmps27
  go_wp2_with fail
  refine (CI _).mono ?_
  rintro e w1 ⟨rfl, hb1⟩
  have B1 : Below w.heap.size w w1 := Below.trans (by repeat' (first | (with_reducible exact Below.refl _ _) | (with_reducible assumption) | (with_reducible refine Below.alloc ?_ ?_ _) | (with_reducible refine Below.drew ?_) | (with_reducible refine belowDraws ?_ _) | (with_reducible refine Below.setCell ?_ ?_ _) | omega | (simp; done) | (simp; omega))) (hb1.mono (by simp))
  clear hb1 CI
  go_wp2_with fail
  go_loopw [7, 8] (fun cv a wr => ∃ q : Nat, q ≤ n ∧ a = .int .i64 (q : Int) ∧ cv = .int .i64 (cntP (RL l) (LL l) (List.range n) i q : Int) ∧ Below w.heap.size w wr) (fun cv a _ => n - (intOf a).toNat)
  case atStart => exact ⟨0, Nat.zero_le _, rfl, rfl, B1⟩
  case round =>
    obtain ⟨q, hq, rfl, rfl, hB⟩ := hrel
    have zr := hB.size
    have hcn := cntP_le (R := RL l) (Lf := LL l) (List.range n) i q
    by_cases hlt : q < n
    · have HY := Lib.hid (List.getElem?_range hlt)
      obtain ⟨_, r1, r2, r3, r4, r5, r6⟩ := tk_facts HL.out HOK.out hlt
      have CO := fun W => l09Ends_any (mkA l q) (plA l q) (htA l q) W (by omega) r2 r3 r4
      rw [show endL (mkA l q) (plA l q) = LL l q from rfl, show endR (mkA l q) (plA l q) = RL l q from rfl] at CO
      obtain ⟨t0, t1, t2⟩ := HTK.out wr hB q hlt
      have q0 : (0 : Int) ≤ (q : Int) := by omega
      have q1 : (q : Int) < (n : Int) := by omega
      have lt : tb < wr.heap.size := by omega
      by_cases hle : RL l q ≤ LL l i
      · have HC := Lib.hid (cntP_yes (R := RL l) (Lf := LL l) HY.out hle)
        have tl : decide (RL l q ≤ LL l i) = true := decide_eq_true hle
        generalize cntP (RL l) (LL l) (List.range n) i q = cq at *
        generalize RL l q = ry at *
        generalize LL l i = lx at *
        clear hle
        go_wp2_with fail
        refine (CO _).mono ?_
        rintro e w8 ⟨rfl, hb8⟩
        go_wp2_with fail
        go_roundw
        case rel => exact ⟨q + 1, by omega, by go_num, by rw [HC.out]; go_num, hB.trans (hb8.mono zr)⟩
        case measure => simp [intOf]; omega
      · have HC := Lib.hid (cntP_no (R := RL l) (Lf := LL l) HY.out hle)
        have tl : decide (RL l q ≤ LL l i) = false := decide_eq_false hle
        generalize cntP (RL l) (LL l) (List.range n) i q = cq at *
        generalize RL l q = ry at *
        generalize LL l i = lx at *
        clear hle
        go_wp2_with fail
        refine (CO _).mono ?_
        rintro e w8 ⟨rfl, hb8⟩
        go_wp2_with fail
        go_roundw
        case rel => exact ⟨q + 1, by omega, by go_num, by rw [HC.out], hB.trans (hb8.mono zr)⟩
        case measure => simp [intOf]; omega
    · have HQ := Lib.hid (show cntP (RL l) (LL l) (List.range n) i q = freeP (RL l) (LL l) n i by rw [show q = n by omega, HCN.out])
      have hqe : ¬ (q : Int) < (n : Int) := by omega
      rw [HQ.out]
      go_wp2_with fail
      go_ret
      exact ⟨rfl, hB⟩
set_option maxRecDepth 100000 in
set_option maxHeartbeats 16000000 in
theorem l09Proof_any (A : Option Addr) (n c : Nat) (l : List (Int × Int × Int)) (w : World) (hl : l.length = n) (hn40 : n ≤ 40) (hok : ∀ p ∈ l, okL p = true) (hs : Sees w w.heap.size A (cells3 l)) :
    Calls Tryz.prog 26 #[.slice A n c] w (GivesR (dpP (RL l) (LL l) (WL l) n n) w) := by
  have HL := Lib.hid hl
  have HOK := Lib.hid hok
  have PO := l09Order_any A n c l w hl hn40 hok hs
  have DB := Lib.hid (dpL_bd hl hn40 hok)
  obtain ⟨i0, hi', hz0, hz1, hz2⟩ := info_parts infoI64
  clear hl hok
  go_enter Tryz.func26, Tryz.ntmps26
  go_wp2_with fail
  refine PO.mono ?_
  intro e w1 hgo
  obtain ⟨v0, rfl, ov, B1⟩ := hgo.use
  rw [natV_ints] at ov
  obtain ⟨vA, vc, rfl⟩ := ownShape ov
  have z1 := B1.size
  replace hs := (hs.over B1).wider z1
  clear PO hgo
  go_wp2_with fail
  go_loopw [4, 5] (fun v a wr => ∃ k : Nat, k ≤ n ∧ a = .int .i64 (k : Int) ∧ wr.ownsRow w1.heap.size 2 1 v (k + 1) ((dpP (RL l) (LL l) (WL l) n k).map (Value.int .i64)) ∧ Below w1.heap.size w1 wr) (fun v a _ => n - (intOf a).toNat)
  case atStart => exact ⟨0, Nat.zero_le _, rfl, World.ownsRow_lit w1 #[.int .i64 0] 1 (Nat.le_refl _) (by unfold maxLen; omega) rfl, by repeat' (first | (with_reducible exact Below.refl _ _) | (with_reducible assumption) | (with_reducible refine Below.alloc ?_ ?_ _) | (with_reducible refine Below.drew ?_) | (with_reducible refine belowDraws ?_ _) | (with_reducible refine Below.setCell ?_ ?_ _) | omega | (simp; done) | (simp; omega))⟩
  case round =>
    obtain ⟨k, hk, rfl, hown, hB⟩ := hrel
    have zr := hB.size
    by_cases hlt : k < n
    · obtain ⟨o, ho, hon⟩ := ordP_at (R := RL l) (n := n) hlt
      obtain ⟨ob, ooff, rfl, hob, HO⟩ := intAll (Sees.ofOwn ov) (by rw [List.length_map, ordP_length]; omega)
      have FO := fun W (hW : Below w1.heap.size w1 W) => l09Free_any A n c l o W HL.out hn40 HOK.out hon ((hs.over hW).wider hW.size)
      obtain ⟨tb, tof, rfl, htb, HTK⟩ := tickAll hs HL.out HOK.out (by omega)
      have hfp := freeP_pos (LL_RL l) ho
      obtain ⟨_, r1, r2, r3, r4, r5, r6⟩ := tk_facts HL.out HOK.out hon
      have HDN := Lib.hid (dpP_next (Wt := WL l) (LL_RL l) ho)
      have HMX := dpV_next (Wt := WL l) (LL_RL l) ho
      have D1 := DB.out k hk
      have D2 := DB.out (freeP (RL l) (LL l) n o) (by omega)
      have D3 := DB.out (k + 1) hlt
      have e0 := HO.out wr hB k _ (ints_at ho)
      obtain ⟨t0, t1, t2⟩ := HTK.out wr hB o hon
      rcases ownRow hown with ⟨_, hn0, _⟩ | ⟨g, cap, cur, rfl, hbg, hFg, hkc, hcm, _, _⟩
      · omega
      have hgr := hFg.inside
      have WO := fun W => l09Worth_any (mkA l o : Int) (plA l o) (htA l o) W r5 r6
      have HWL : WL l o = 1 + 10 * htA l o := rfl
      rw [HWL] at HMX
      obtain ⟨nv, hnv⟩ : ∃ nv, dpV (RL l) (LL l) (WL l) n (k + 1) = nv := ⟨_, rfl⟩
      rw [hnv] at HMX HDN D3
      have HDK := Lib.hid (show ((dpP (RL l) (LL l) (WL l) n k).map (Value.int .i64))[k]? = some (.int .i64 (dpV (RL l) (LL l) (WL l) n k)) by rw [List.getElem?_map, dpP_at (Nat.le_refl _)]; rfl)
      have HDF := Lib.hid (show ((dpP (RL l) (LL l) (WL l) n k).map (Value.int .i64))[freeP (RL l) (LL l) n o]? = some (.int .i64 (dpV (RL l) (LL l) (WL l) n (freeP (RL l) (LL l) n o))) by rw [List.getElem?_map, dpP_at hfp]; rfl)
      generalize dpV (RL l) (LL l) (WL l) n k = dk at *
      generalize freeP (RL l) (LL l) n o = fo at *
      generalize dpV (RL l) (LL l) (WL l) n fo = df at *
      generalize (mkA l o : Int) = mo at *
      generalize plA l o = po at *
      generalize htA l o = ho' at *
      have HM : max dk (1 + 10 * ho' + df) = nv := by omega
      have k0 : (0 : Int) ≤ (k : Int) := by omega
      have k1 : (k : Int) < (n : Int) := by omega
      have k2 : (k : Int) < (k : Int) + 1 := by omega
      have o0 : (0 : Int) ≤ (o : Int) := by omega
      have o1 : (o : Int) < (n : Int) := by omega
      have f0 : (0 : Int) ≤ (fo : Int) := by omega
      have f1 : (fo : Int) < (k : Int) + 1 := by omega
      have e5 : IntKind.i64.wrap (1 + 10 * ho' + df) = 1 + 10 * ho' + df := IntWalk.i64_in _ (by omega)
      have lo : ob < wr.heap.size := by omega
      have lt : tb < wr.heap.size := by omega
      clear HMX hnv ho hFg hs ov D1 D2 D3 HWL r1 r2 r3 r4
      go_wp2_with fail
      have OWT0 := hown.alloc (.cells #[.int .i64 mo, .int .i64 po, .int .i64 ho'] 49)
      have hBt : Below w1.heap.size w1 (wr.alloc (.cells #[.int .i64 mo, .int .i64 po, .int .i64 ho'] 49)) := hB.alloc zr _
      have x0 : (wr.alloc (.cells #[.int .i64 mo, .int .i64 po, .int .i64 ho'] 49)).cell? ⟨wr.heap.size, 0, none⟩ = some (.int .i64 mo) := by simp [go_sem]
      have x1 : (wr.alloc (.cells #[.int .i64 mo, .int .i64 po, .int .i64 ho'] 49)).cell? ⟨wr.heap.size, 1, none⟩ = some (.int .i64 po) := by simp [go_sem]
      have x2 : (wr.alloc (.cells #[.int .i64 mo, .int .i64 po, .int .i64 ho'] 49)).cell? ⟨wr.heap.size, 2, none⟩ = some (.int .i64 ho') := by simp [go_sem]
      have hbx : wr.heap.size < (wr.alloc (.cells #[.int .i64 mo, .int .i64 po, .int .i64 ho'] 49)).heap.size := by simp
      have hgx : g ≠ wr.heap.size := by omega
      generalize wr.alloc (.cells #[.int .i64 mo, .int .i64 po, .int .i64 ho'] 49) = wt at *
      obtain ⟨bx, hbxe⟩ : ∃ b, wr.heap.size = b := ⟨_, rfl⟩
      rw [hbxe] at x0 x1 x2 hbx hgx
      rw [hbxe]
      have zt := hBt.size
      have OWT := Lib.hid OWT0
      have CE := Lib.hid (show ∀ W : World, (∀ j u, ((dpP (RL l) (LL l) (WL l) n k).map (Value.int .i64))[j]? = some u → W.cell? ⟨g, j, none⟩ = some u) → (∀ o, W.cell? ⟨bx, o, none⟩ = wt.cell? ⟨bx, o, none⟩) → W.cell? ⟨g, k, none⟩ = some (.int .i64 dk) ∧ W.cell? ⟨g, fo, none⟩ = some (.int .i64 df) ∧ W.cell? ⟨bx, 0, none⟩ = some (.int .i64 mo) ∧ W.cell? ⟨bx, 1, none⟩ = some (.int .i64 po) ∧ W.cell? ⟨bx, 2, none⟩ = some (.int .i64 ho') from fun W h1 h2 => ⟨h1 _ _ HDK.out, h1 _ _ HDF.out, (h2 0).trans x0, (h2 1).trans x1, (h2 2).trans x2⟩)
      have s0 := CE.out wt (ownAt OWT0) (fun _ => rfl)
      obtain ⟨a0, b0, c0, d0, e0'⟩ := s0
      have hgt : g < wt.heap.size := World.block_lt_of_cell? wt _ a0
      clear x0 x1 x2 hown hbxe OWT0 t0 t1 t2 e0
      go_region_held3 (fun w' => w'.cell? ⟨g, k, none⟩ = some (.int .i64 dk) ∧ w'.cell? ⟨g, fo, none⟩ = some (.int .i64 df) ∧ w'.cell? ⟨bx, 0, none⟩ = some (.int .i64 mo) ∧ w'.cell? ⟨bx, 1, none⟩ = some (.int .i64 po) ∧ w'.cell? ⟨bx, 2, none⟩ = some (.int .i64 ho')) (go_keep) (first
        | (go_at_call 36; (with_reducible refine (WO _).mono ?_); rintro e w2 ⟨rfl, hb2⟩; have hB2 : Below wt.heap.size wt w2 := Below.trans (by repeat' (first | exact Below.refl _ _ | assumption | refine Below.alloc ?_ (by first | omega | (simp; done) | (simp; omega)) _ | refine Below.drew ?_ | refine Below.setCell ?_ (by first | omega | (simp; done) | (simp; omega)) _)) (hb2.mono (by first | omega | (simp; done) | (simp; omega))); have own2 := ownOver OWT.out hB2; have hW2 := hBt.trans (hB2.mono zt); have z2 := hW2.size; have y2 := hB2.size; have s2 := CE.out w2 (ownAt own2) (fun o => hB2.cell (p := ⟨bx, o, none⟩) hbx); obtain ⟨a2, b2, c2, d2, e2⟩ := s2; clear hb2)
        | (go_at_call 27; (with_reducible refine (FO _ ?_).mono ?_); (focus (with_reducible exact (by repeat' (first | exact Below.refl _ _ | assumption | refine Below.alloc ?_ (by first | omega | (simp; done) | (simp; omega)) _ | refine Below.drew ?_ | refine Below.setCell ?_ (by first | omega | (simp; done) | (simp; omega)) _)))); rintro e w5 ⟨rfl, hb5⟩; have hB5 : Below wt.heap.size wt w5 := Below.trans (by repeat' (first | exact Below.refl _ _ | assumption | refine Below.alloc ?_ (by first | omega | (simp; done) | (simp; omega)) _ | refine Below.drew ?_ | refine Below.setCell ?_ (by first | omega | (simp; done) | (simp; omega)) _)) (hb5.mono (by first | omega | (simp; done) | (simp; omega))); have own5 := ownOver OWT.out hB5; have hW5 := hBt.trans (hB5.mono zt); have z5 := hW5.size; have y5 := hB5.size; have s5 := CE.out w5 (ownAt own5) (fun o => hB5.cell (p := ⟨bx, o, none⟩) hbx); obtain ⟨a5, b5, c5, d5, e5⟩ := s5; clear hb5)
        | (refine step_append_stays (by rfl) (.tmp 23) (.tmp 38) 26 (by rfl) (w1.heap.size) 2 i0 _ 1 8 Tryz.underlying26 hi' hz0 hz1 hz2 rfl (by omega) g (k + 1) cap ((dpP (RL l) (LL l) (WL l) n k).map (Value.int .i64)) (by rfl) (by repeat' (first | (with_reducible assumption) | (with_reducible refine World.ownsRow.alloc ?_ _) | (with_reducible refine ownDrewI ?_))) _ 1 _ [.int .i64 nv] (by rfl) (by rfl) (by (repeat (first | (with_reducible exact news_one rfl) | (with_reducible refine news_draw ?_)))) (by simp [Value.oneCell']) (by unfold maxLen; omega) (by omega) (by first | omega | (simp; done) | (simp; omega)) ?_; intro v3 w3 o3 hgr3 hst3; have B3 : Below w1.heap.size w1 w3 := Below.grown (by repeat' (first | (with_reducible exact Below.refl _ _) | (with_reducible assumption) | (with_reducible refine Below.alloc ?_ ?_ _) | (with_reducible refine Below.drew ?_) | (with_reducible refine belowDraws ?_ _) | (with_reducible refine Below.setCell ?_ ?_ _) | omega | (simp; done) | (simp; omega))) hgr3 (by first | omega | (simp; done) | (simp; omega)) (by intro q hq; injection hq with hq; omega); have G3 : wt.grownBy w3 (some g) := grownTrans (by repeat' (first | (with_reducible exact grownRefl _ _) | (with_reducible assumption) | (with_reducible refine gAllocS ?_ _) | (with_reducible refine grownDrew ?_) | (with_reducible refine gDrewNS ?_ _) | (with_reducible exact belowGrown (by with_reducible assumption) _))) hgr3; have s1' := CE.out w3 hst3 (fun o => grownFar G3 hbx (fun e => by injection e with e; omega) o); obtain ⟨s2', s3', s4', s5', s6'⟩ := s1'; have z3' := hgr3.size))
      all_goals go_wp2_with fail
      all_goals go_roundw
      all_goals first
        | (exact ⟨k + 1, by omega, by go_num, by rw [HDN.out, List.map_append]; exact o3, B3⟩)
        | (simp [intOf]; omega)
    · have hke : ¬ (k : Int) < (n : Int) := by omega
      have HKN := Lib.hid (show k = n by omega)
      clear hs ov
      go_wp2_with fail
      go_ret
      refine ⟨_, rfl, ?_, B1.trans (hB.mono z1)⟩
      rw [HKN.out] at hown
      rw [dpP_length]
      exact ownLower hown z1
theorem rProof_len (l : List (Int × Int × Int)) : (rProof l).1.length ≤ 1048576 := by
  unfold rProof
  split
  · rename_i h
    have := (ckL_zero h).1
    rw [dpP_length]
    omega
  · simp
set_option maxHeartbeats 4000000 in
theorem iLabelProof_any (A : Option Addr) (n c : Nat) (l : List (Int × Int × Int)) (w : World) (hl : l.length = n) (hn : n ≤ 1048576) (hs : Sees w w.heap.size A (cells3 l)) (hT : Tab w) :
    Calls Tryz.prog 8 #[.slice A n c] w (GivesS 2 1 (rProof l).1.length ((rProof l).1.map (Value.int .i64)) (rProof l).2 w) := by
  have CK := checkLabels_any A n c l w hl hn hs
  by_cases h0 : ckL l = 0
  · obtain ⟨hn40, hok⟩ := ckL_zero h0
    have Hv := Lib.hid (show rProof l = (dpP (RL l) (LL l) (WL l) n n, 0) by rw [rProof, if_pos h0, hl])
    have PR := fun W (b1 : Below w.heap.size w W) => labelProof_any A n c l W hl (by omega) hok ((hs.over b1).wider b1.size) (hT.over b1)
    rw [h0] at CK
    clear h0 hl hok hs
    go_enter Tryz.func8, Tryz.ntmps8
    go_wp2_with fail
    refine CK.mono ?_
    rintro e w1 ⟨rfl, b1⟩
    go_wp2_with fail
    refine (PR _ b1).mono ?_
    rintro e w2 ⟨v, rfl, ov, b2⟩
    go_wp2_with fail
    go_ret2
    rw [Hv.out]
    exact ⟨_, rfl, ownLower ov b1.size, b1.trans (b2.mono b1.size)⟩
  · have Hv := Lib.hid (show rProof l = ([], ckL l) by rw [rProof, if_neg h0])
    generalize ckL l = ck at *
    have t1 : (ck != 0) = true := by simpa using h0
    clear hl hs h0
    go_enter Tryz.func8, Tryz.ntmps8
    go_wp2_with fail
    refine CK.mono ?_
    rintro e w1 ⟨rfl, b1⟩
    go_wp2_with fail
    go_ret2
    rw [Hv.out]
    exact ⟨_, rfl, World.ownsRow_nil _ _ _ _, b1⟩
set_option maxHeartbeats 4000000 in
theorem sLabelProof_any (A : Option Addr) (n c : Nat) (l : List (Int × Int × Int)) (w : World) (hl : l.length = n) (hn : n ≤ 1048576) (hs : Sees w w.heap.size A (cells3 l)) :
    Calls Tryz.prog 9 #[.slice A n c] w (GivesS 2 1 (rProof l).1.length ((rProof l).1.map (Value.int .i64)) (rProof l).2 w) := by
  have CK := l09Code_any A n c l w hl hn hs
  by_cases h0 : ckL l = 0
  · obtain ⟨hn40, hok⟩ := ckL_zero h0
    have Hv := Lib.hid (show rProof l = (dpP (RL l) (LL l) (WL l) n n, 0) by rw [rProof, if_pos h0, hl])
    have PR := fun W (b1 : Below w.heap.size w W) => l09Proof_any A n c l W hl (by omega) hok ((hs.over b1).wider b1.size)
    rw [h0] at CK
    clear h0 hl hok hs
    go_enter Tryz.func9, Tryz.ntmps9
    go_wp2_with fail
    refine CK.mono ?_
    rintro e w1 ⟨rfl, b1⟩
    go_wp2_with fail
    refine (PR _ b1).mono ?_
    rintro e w2 ⟨v, rfl, ov, b2⟩
    go_wp2_with fail
    go_ret2
    rw [Hv.out]
    exact ⟨_, rfl, ownLower ov b1.size, b1.trans (b2.mono b1.size)⟩
  · have Hv := Lib.hid (show rProof l = ([], ckL l) by rw [rProof, if_neg h0])
    generalize ckL l = ck at *
    have t1 : (ck != 0) = true := by simpa using h0
    clear hl hs h0
    go_enter Tryz.func9, Tryz.ntmps9
    go_wp2_with fail
    refine CK.mono ?_
    rintro e w1 ⟨rfl, b1⟩
    go_wp2_with fail
    go_ret2
    rw [Hv.out]
    exact ⟨_, rfl, World.ownsRow_nil _ _ _ _, b1⟩
end Go.Proofs.YtpbhncgjnmaojaaGreatDoor
