/- XDrM XPoL XDrP XFlb in one text (no condition). -/
import Derived.Test.YtpbhncgjnmaojaaGreatDoorDrL
import Derived.Test.YtpbhncgjnmaojaaGreatDoorPo5
import Derived.Test.YtpbhncgjnmaojaaGreatDoorPo7
import Derived.Test.YtpbhncgjnmaojaaGreatDoorGr
import Derived.Test.YtpbhncgjnmaojaaGreatDoorGr3
import Derived.Test.YtpbhncgjnmaojaaGreatDoorLike
import Derived.Test.YtpbhncgjnmaojaaGreatDoorLw
namespace Go.Proofs.YtpbhncgjnmaojaaGreatDoor
open Go.RowKit
set_option linter.unusedVariables false
set_option linter.unusedSimpArgs false

theorem infoTickM : (Tryz.prog.info? 49).map (fun i => (i.zero, i.size, i.bytes)) = some (some (.agg #[.int .i64 0, .int .i64 0, .int .i64 0]), 3, 24) := by kernel_rfl
theorem i64s3_more {L : List (Int × Int × Int)} {x y z : Int} (h : I64s3 L) (h1 : I64 x) (h2 : I64 y) (h3 : I64 z) : I64s3 (L ++ [(x, y, z)]) := fun q hq => by
  rcases List.mem_append.1 hq with hq | hq
  · exact h q hq
  · rw [List.mem_singleton] at hq; subst hq; exact ⟨h1, h2, h3⟩
/-- ticks drawn: in a block of their own -/
def GivesTkL (b : Nat) (A : Option Addr) (n c : Nat) (l : List Int) (w : World) (e : Ending) (w' : World) : Prop := ∃ v T, e = .returned v ∧ T.length ≤ 41 ∧ I64s3 T ∧ w'.ownsRow w.heap.size 49 3 v T.length (cells3 T) ∧ Src w' b A n c l ∧ w.grownBy w' (some b)
/-- one number of a row of its own is written -/
theorem ownSet {w : World} {base g n cap k : Nat} {V : List Int} {x : Int} (h : w.ownsRow base 2 1 (.slice (some ⟨g, 0, none⟩) n cap) n (V.map (Value.int .i64))) (hk : k < n) : (w.setCell ⟨g, k, none⟩ (.int .i64 x)).ownsRow base 2 1 (.slice (some ⟨g, 0, none⟩) n cap) n ((V.set k x).map (Value.int .i64)) := by
  have hlen := h.1
  rcases ownRow h with ⟨hv, _, _⟩ | ⟨g', cap', cur, hv, hb, F, h1, h2, h3, htk⟩
  · cases hv
  · injection hv with hA _ hc
    injection hA with hA
    injection hA with hA _
    subst hA hc
    rw [Nat.mul_one] at htk h3
    rw [List.length_map, Nat.mul_one] at hlen
    refine ownMake hb (F.put k _) h1 h2 (by rw [Array.size_setIfInBounds, h3, Nat.mul_one]) (by rw [List.length_map, List.length_set, hlen, Nat.mul_one]) (fun j hj => ?_)
    rw [Nat.mul_one] at hj
    rw [Array.getElem?_setIfInBounds, List.getElem?_map, List.getElem?_set]
    by_cases e : k = j
    · rw [if_pos e, if_pos (by omega), if_pos e, if_pos (by omega)]; rfl
    · rw [if_neg e, if_neg e, ← List.getElem?_map, ← htk, List.getElem?_take, if_pos hj]; simp
theorem ownFree {w : World} {base g n cap : Nat} {e : TypeId} {size : Nat} {xs : List Value} (h : w.ownsRow base e size (.slice (some ⟨g, 0, none⟩) n cap) n xs) (i : Nat) : w.frozen? ⟨g, i, none⟩ = false := by
  rcases ownRow h with ⟨hv, _, _⟩ | ⟨g', cap', cur, hv, hb, F, _⟩
  · cases hv
  · injection hv with hA _ hc
    injection hA with hA
    injection hA with hA _
    subst hA
    exact F.free i
theorem ownCut {w : World} {base g n cap k : Nat} {V : List Int} (h : w.ownsRow base 2 1 (.slice (some ⟨g, 0, none⟩) n cap) n (V.map (Value.int .i64))) (hk : k ≤ n) : w.ownsRow base 2 1 (.slice (some ⟨g, 0, none⟩) k cap) k ((V.take k).map (Value.int .i64)) := by
  have hlen := h.1
  rcases ownRow h with ⟨hv, _, _⟩ | ⟨g', cap', cur, hv, hb, F, h1, h2, h3, htk⟩
  · cases hv
  · injection hv with hA _ hc
    injection hA with hA
    injection hA with hA _
    subst hA hc
    rw [Nat.mul_one] at htk
    rw [List.length_map, Nat.mul_one] at hlen
    refine ownMake hb F (by omega) h2 h3 (by rw [List.length_map, List.length_take, hlen, Nat.mul_one]; omega) (fun j hj => ?_)
    rw [Nat.mul_one] at hj
    rw [List.getElem?_map, List.getElem?_take, if_pos hj, ← List.getElem?_map, ← htk, List.getElem?_take, if_pos (by omega)]
    simp
def SmallV (m : Int) (V : List Int) : Prop := ∀ x ∈ V, -100 ≤ x ∧ x ≤ m
theorem SmallV.i64 {m : Int} {V : List Int} (h : SmallV m V) (hm : m ≤ 100000) : I64s V := fun x hx => by
  have := h x hx
  unfold I64
  omega
theorem SmallV.put {m p x : Int} {V : List Int} {k : Nat} (h : SmallV m V) (h0 : -100 ≤ x) (h1 : x ≤ p) (hm : m ≤ p) : SmallV p (V.set k x) := fun y hy => by
  rcases List.mem_or_eq_of_mem_set hy with hy | hy
  · have := h y hy; omega
  · subst hy; exact ⟨h0, h1⟩
theorem SmallV.wide {m p : Int} {V : List Int} (h : SmallV m V) (hm : m ≤ p) : SmallV p V := fun x hx => by have := h x hx; omega
theorem SmallV.at_ {m x : Int} {V : List Int} {k : Nat} (h : SmallV m V) (hx : V[k]? = some x) : -100 ≤ x ∧ x ≤ m := h x (List.mem_of_getElem? hx)
set_option maxRecDepth 100000 in
set_option maxHeartbeats 8000000 in
theorem l09Draw_any (b : Nat) (A : Option Addr) (n c : Nat) (l : List Int) (w : World) (hl : l.length = n) (hn : n ≤ 1048576) (h8 : U8s l) (hS : Src w b A n c l) :
    Calls Tryz.prog 18 #[.pointer (some ⟨b, 0, none⟩)] w (GivesTkL b A n c l w) := by
  have yb := hS.inside
  obtain ⟨i0, hi', hz0, hz1, hz2⟩ := info_parts infoTickM
  go_enter Tryz.func18, Tryz.ntmps18
  go_wp2_with fail
  have o0 : (w.alloc (.cells #[] 49)).ownsRow w.heap.size 49 3 (.slice (some ⟨w.heap.size, 0, none⟩) 0 0) ([] : List (Int × Int × Int)).length (cells3 []) := World.ownsRow_made (base := w.heap.size) w #[] 0 (Nat.le_refl _) (Nat.zero_le _) rfl
  refine (l01Next_any _ b A n c l _ hl hn h8 (hS.alloc _)).mono ?_
  rintro e w1 ⟨v1, rfl, lo1, hi1, S1, g1⟩
  have hv1 : v1 ≤ 11 := by omega
  have o1 := ownGrown o0 g1 (ownNo (fun q hq => by have := (o0.lt q hq).1; omega))
  have G1 : w.grownBy w1 (some b) := grownTrans (gAlloc (grownRefl _ _) _) g1
  clear g1 hi1 o0
  go_wp2_with fail
  go_loopw [3, 4] (fun vo nv wr => ∃ (T : List (Int × Int × Int)) (y : Int), nv = .int .i64 y ∧ 0 ≤ y ∧ y ≤ 11 ∧ (T.length : Int) + y ≤ 11 ∧ Hid (I64s3 T) ∧ vo ≠ .slice none 0 0 ∧ wr.ownsRow w.heap.size 49 3 vo T.length (cells3 T) ∧ Src wr b A n c l ∧ w.grownBy wr (some b)) (fun _ nv _ => (intOf nv).toNat)
  case atStart => exact ⟨[], v1, rfl, lo1, hv1, by simp; omega, Lib.hid (fun p hp => by cases hp), by simp, o1, S1, G1⟩
  case round =>
    obtain ⟨T, y, rfl, yl, yh, hTy, HT, hnil, hown, hSr, hG⟩ := hrel
    have zr := hG.size
    have yr := hSr.inside
    have HNIL := Lib.hid hnil
    clear hnil S1 G1 o1
    obtain ⟨A2, c2, rfl⟩ := ownShape hown
    by_cases hy : 0 < y
    · go_wp2_with fail
      refine (l09DrawTick_any b A n c l _ hl hn h8 hSr).mono ?_
      rintro e w3 ⟨x3, y3', z3', rfl, i3a, i3b, i3c, S3, g3⟩
      have I3 := Lib.hid (And.intro i3a (And.intro i3b i3c))
      have o3 := ownGrown hown g3 (ownNo (fun q hq => by have := (hown.lt q hq).1; omega))
      have G3 : w.grownBy w3 (some b) := grownTrans hG g3
      have y3 := S3.inside
      have z3 := G3.size
      clear g3
      clear hown hSr hG i3a i3b i3c
      go_wp2_with (at_builtin; refine wpList_append_own_at _ rfl _ _ 24 rfl w.heap.size 49 i0 _ 3 24 Tryz.underlying24 hi' hz0 hz1 hz2 rfl (by decide) _ _ _ rfl (o3.alloc _) ⟨w3.heap.size, 0, none⟩ 1 1 [.int .i64 x3, .int .i64 y3', .int .i64 z3'] rfl rfl ?_ ?_ ?_ ?_ ?_ ?_; exact newsAt _ _ rfl _ _; (intro u hu; simp at hu; rcases hu with rfl | rfl | rfl <;> rfl); (unfold maxLen; omega); omega; (simp; omega); intro v' w4 hown1 hgr1 hnil1 _)
      have S4 := (S3.alloc (.cells #[.int .i64 x3, .int .i64 y3', .int .i64 z3'] 49)).grown hgr1 (fun g hg => by have := (o3.lt g hg).1; omega)
      have G4 : w.grownBy w4 (some b) := gGrown (gAlloc G3 (.cells #[.int .i64 x3, .int .i64 y3', .int .i64 z3'] 49)) hgr1 (fun g hg => (o3.lt g hg).1)
      have HN4 := Lib.hid (show v' ≠ .slice none 0 0 from fun e => HNIL.out (hnil1.1 e).1)
      clear hgr1 o3 S3 G3 hnil1
      go_wp2_with fail
      go_roundw
      case rel => exact ⟨T ++ [(x3, y3', z3')], y - 1, rfl, by omega, by omega, by simp; omega, Lib.hid (i64s3_more HT.out I3.out.1 I3.out.2.1 I3.out.2.2), HN4.out, by rw [cells3_append]; simpa [cells3] using hown1, S4, G4⟩
      case measure => simp [intOf]; omega
    · go_wp2_with fail
      refine (l01Next_any _ b A n c l _ hl hn h8 (hSr)).mono ?_
      rintro e w5 ⟨v5, rfl, lo5, hi5, S5, g5⟩
      have o5 := ownGrown hown g5 (ownNo (fun q hq => by have := (hown.lt q hq).1; omega))
      have G5 : w.grownBy w5 (some b) := grownTrans hG g5
      have y5 := S5.inside
      have z5 := G5.size
      clear g5
      by_cases q0 : v5 = 0
      · have t0 : (v5 == 0) = true := beq_iff_eq.2 q0
        clear q0 hown hSr hG lo5 hi5
        go_wp2_with fail
        go_loopw [3] (fun vo wr => ∃ (T : List (Int × Int × Int)) (m : Nat) (A2 : Option Addr) (c2 : Nat), vo = .slice A2 m c2 ∧ Hid (T.length = m) ∧ m ≤ 41 ∧ Hid (I64s3 T) ∧ wr.ownsRow w.heap.size 49 3 (.slice A2 m c2) m (cells3 T) ∧ Src wr b A n c l ∧ w.grownBy wr (some b)) (fun vo _ => match vo with | .slice _ m _ => 41 - m | _ => 0)
        case atStart => exact ⟨T, _, _, _, rfl, Lib.hid rfl, by omega, HT, o5, S5, G5⟩
        case round =>
          clear o5 S5 G5 HNIL HT hTy
          obtain ⟨T, m, A2, c2, rfl, HM, hm, HT, hown, hSr, hG⟩ := hrel
          have zr := hG.size
          have yr := hSr.inside
          go_wp2_with fail
          refine (l01Next_any _ b A n c l _ hl hn h8 hSr).mono ?_
          rintro e w7 ⟨v7, rfl, lo7, hi7, S7, g7⟩
          have hv7 : v7 ≤ 1 := by omega
          have o7 := ownGrown hown g7 (ownNo (fun q hq => by have := (hown.lt q hq).1; omega))
          have G7 : w.grownBy w7 (some b) := grownTrans hG g7
          have y7 := S7.inside
          have z7 := G7.size
          clear g7 hi7 hown hSr hG
          by_cases hlt : (m : Int) < 40 + v7
          · have tl : decide ((m : Int) < 40 + v7) = true := decide_eq_true hlt
            go_wp2_with (at_builtin; refine wpList_append_own_at _ rfl _ _ 24 rfl w.heap.size 49 i0 _ 3 24 Tryz.underlying24 hi' hz0 hz1 hz2 rfl (by decide) _ _ _ rfl (o7.alloc _) ⟨w7.heap.size, 0, none⟩ 1 1 [.int .i64 1000, .int .i64 (100 * (m : Int)), .int .i64 4] rfl rfl ?_ ?_ ?_ ?_ ?_ ?_; exact newsAt _ _ rfl _ _; (intro u hu; simp at hu; rcases hu with rfl | rfl | rfl <;> rfl); (unfold maxLen; omega); omega; (simp; omega); intro v' w8 hown1 hgr1 hnil1 _)
            have S8 := (S7.alloc (.cells #[.int .i64 1000, .int .i64 (100 * (m : Int)), .int .i64 4] 49)).grown hgr1 (fun g hg => by have := (o7.lt g hg).1; omega)
            have G8 : w.grownBy w8 (some b) := gGrown (gAlloc G7 (.cells #[.int .i64 1000, .int .i64 (100 * (m : Int)), .int .i64 4] 49)) hgr1 (fun g hg => (o7.lt g hg).1)
            have o8 : w8.ownsRow w.heap.size 49 3 v' (m + 1) (cells3 (T ++ [(1000, 100 * (m : Int), 4)])) := by rw [cells3_append]; simpa [cells3] using hown1
            obtain ⟨A3, c3, rfl⟩ := ownShape o8
            clear hgr1 o7 S7 G7 hnil1 hown1
            go_wp2_with fail
            go_roundw
            case rel => exact ⟨T ++ [(1000, 100 * (m : Int), 4)], m + 1, A3, c3, rfl, Lib.hid (by have := HM.out; simp; omega), by omega, Lib.hid (i64s3_more HT.out (by unfold I64; omega) (by unfold I64; omega) (by unfold I64; omega)), o8, S8, G8⟩
            case measure => show 41 - (m + 1) < 41 - m; omega
          · have tl : decide ((m : Int) < 40 + v7) = false := decide_eq_false hlt
            go_wp2_with fail
            go_ret
            refine ⟨_, T, rfl, by have := HM.out; omega, HT.out, ?_, S7, G7⟩
            rw [HM.out]
            exact o7
      · have t0 : (v5 == 0) = false := by simpa using q0
        clear q0
        go_wp2_with fail
        go_ret
        exact ⟨_, T, rfl, by omega, HT.out, o5, S5, G5⟩
end Go.Proofs.YtpbhncgjnmaojaaGreatDoor
namespace Go.Proofs.YtpbhncgjnmaojaaGreatDoor
set_option linter.unusedVariables false
set_option linter.unusedSimpArgs false

theorem cA_get {ch : List Int} {i : Nat} (h : i < ch.length) : cA ch i = ch[i] := cA_at (List.getElem?_eq_getElem h)
theorem wsum_snoc (Wt : Nat → Int) (L : List Nat) (x : Nat) : wsum Wt (L ++ [x]) = wsum Wt L + Wt x := by
  induction L with
  | nil => simp [wsum]
  | cons y L ih => simp only [List.cons_append, wsum, ih]; omega
theorem wrT_sum (l : List (Int × Int × Int)) (ch : List Int) : ∀ k, k ≤ ch.length → wrT l ch k = wsum (WL l) ((ch.take k).map Int.toNat)
  | 0, _ => by simp [wrT, wsum]
  | k + 1, h => by
    have hx : ch[k]? = some ch[k] := List.getElem?_eq_getElem (by omega)
    rw [wrT, wrT_sum l ch k (by omega), cA_at hx, List.take_add_one, hx]
    simp only [Option.toList_some, List.map_append, List.map_cons, List.map_nil, wsum_snoc]
theorem rises_lt {n : Nat} {ch : List Int} {m : Nat} (h : risesTo n ch m = true) : ∀ k i, i < k → k < m → cA ch i < cA ch k
  | k + 1, i, h1, h2 => by
    have a := rises_at h h2
    simp only [Nat.add_sub_cancel] at a
    by_cases e : i = k
    · subst e; omega
    · have := rises_lt h k i (by omega) (by omega); omega
theorem apart_at {l : List (Int × Int × Int)} {ch : List Int} {m i k : Nat} (h : apartTo l ch m = true) (hi : i < m) (hk : k < i) : hitA l (cA ch i).toNat (cA ch k).toNat = false := by
  have a := List.all_eq_true.1 h i (List.mem_range.2 hi)
  have b := List.all_eq_true.1 a k (List.mem_range.2 hk)
  simpa using b
theorem ch_free {l : List (Int × Int × Int)} {ch : List Int} (hc : chB l ch = true) : (ch.map Int.toNat).Nodup ∧ (∀ a ∈ ch.map Int.toNat, a < l.length) ∧ Free (RL l) (LL l) (ch.map Int.toNat) := by
  rw [chB, Bool.and_eq_true] at hc
  obtain ⟨hr, ha⟩ := hc
  refine ⟨?_, fun a h => ?_, fun a b h1 h2 hne => ?_⟩
  · rw [List.Nodup, List.pairwise_iff_getElem]
    intro i j hi hj hij
    rw [List.length_map] at hi hj
    simp only [List.getElem_map]
    have h1 := rises_lt hr j i hij hj
    have h2 := rises_at hr hi
    rw [cA_get hi] at h1 h2
    rw [cA_get hj] at h1
    omega
  · obtain ⟨i, hi, e⟩ := List.mem_iff_getElem.1 h
    rw [List.length_map] at hi
    rw [List.getElem_map] at e
    have h2 := rises_at hr hi
    rw [cA_get hi] at h2
    omega
  · obtain ⟨i, hi, e⟩ := List.mem_iff_getElem.1 h1
    obtain ⟨j, hj, f⟩ := List.mem_iff_getElem.1 h2
    rw [List.length_map] at hi hj
    rw [List.getElem_map] at e f
    rw [← cA_get hi] at e
    rw [← cA_get hj] at f
    rcases Nat.lt_trichotomy i j with h | h | h
    · have := apart_at ha hj h
      rw [e, f] at this
      intro q
      have := hitA_iff l b a |>.2 ⟨q.2, q.1⟩
      simp_all
    · subst h
      exact absurd (e.symm.trans f) hne
    · have := apart_at ha hi h
      rw [e, f] at this
      intro q
      have := hitA_iff l a b |>.2 q
      simp_all
theorem worth_most {l : List (Int × Int × Int)} {ch : List Int} (hc : chB l ch = true) : wrT l ch ch.length ≤ dpV (RL l) (LL l) (WL l) l.length l.length := by
  obtain ⟨h1, h2, h3⟩ := ch_free hc
  rw [wrT_sum l ch _ (Nat.le_refl _), List.take_length]
  refine free_most (LL_RL l) l.length (Nat.le_refl _) _ h1 (fun a ha => ?_) h3
  rw [List.take_of_length_le (by rw [ordP_length]; exact Nat.le_refl _)]
  exact (ordP_perm _ _).mem_iff.1 (List.mem_range.2 (h2 a ha))
theorem kept_choice {l : List (Int × Int × Int)} {K : List Nat} (h1 : K.Nodup) (h2 : ∀ k ∈ K, k < l.length) (h3 : ∀ a b : Nat, a ∈ K → b ∈ K → a ≠ b → hitA l a b = false) : chB l (kept K l.length) = true ∧ wrT l (kept K l.length) (kept K l.length).length = wsum (WL l) K := by
  have hr := List.pairwise_iff_getElem.1 (kept_rise K l.length)
  have hm : ∀ i (h : i < (kept K l.length).length), ∃ k : Nat, (kept K l.length)[i] = (k : Int) ∧ k < l.length ∧ k ∈ K := fun i h => kept_mem.1 (List.getElem_mem h)
  refine ⟨?_, ?_⟩
  · rw [chB, Bool.and_eq_true]
    refine ⟨List.all_eq_true.2 fun i hi => ?_, List.all_eq_true.2 fun i hi => List.all_eq_true.2 fun k hk => ?_⟩
    · have hi := List.mem_range.1 hi
      obtain ⟨a, e, ha, _⟩ := hm i hi
      simp only [okAt, Bool.and_eq_true, inB_iff, Bool.or_eq_true, decide_eq_true_eq]
      rw [cA_get hi, e]
      refine ⟨by omega, ?_⟩
      by_cases h0 : i = 0
      · exact Or.inl h0
      · right
        have := hr (i - 1) i (by omega) hi (by omega)
        rw [cA_get (by omega), ← e]
        exact this
    · have hi := List.mem_range.1 hi
      have hk := List.mem_range.1 hk
      obtain ⟨a, e, _, ha⟩ := hm i hi
      obtain ⟨b, f, _, hb⟩ := hm k (by omega)
      have := hr k i (by omega) hi hk
      rw [cA_get hi, cA_get (by omega), e, f]
      rw [e, f] at this
      simp only [Int.toNat_natCast]
      rw [h3 a b ha hb (by omega)]
      rfl
  · rw [wrT_sum l _ _ (Nat.le_refl _), List.take_length]
    have hp := (kept_perm h1 h2).map Int.toNat
    rw [List.map_map] at hp
    have e : K.map (Int.toNat ∘ fun (k : Nat) => (k : Int)) = K := by
      rw [show (Int.toNat ∘ fun (k : Nat) => (k : Int)) = id from funext fun k => Int.toNat_natCast k, List.map_id]
    rw [e] at hp
    exact (wsum_perm hp).symm
theorem best_worth {l : List (Int × Int × Int)} (h : ckL l = 0) : rWorth l (rBest l).1 = (dpV (RL l) (LL l) (WL l) l.length l.length, 0) := by
  obtain ⟨b1, b2, b3, b4⟩ := back_ok (Wt := WL l) (n := l.length) (LL_RL l) l.length l.length (Nat.le_refl _) (Nat.le_refl _)
  obtain ⟨_, b5⟩ := bk_ok l l.length
  obtain ⟨c1, c2⟩ := kept_choice (l := l) b4 b5 (fun a b ha hb hne => by
    have := b3 a b ha hb hne
    rw [← hitA_iff] at this
    simpa using this)
  rw [rWorth, if_pos h, rBest, if_pos h]
  simp only
  rw [if_pos c1]
  exact Prod.ext (c2.trans b1) rfl
theorem greedy_worth {l : List (Int × Int × Int)} (h : ckL l = 0) : ∃ y, rWorth l (rGreedy l).1 = (y, 0) ∧ y ≤ dpV (RL l) (LL l) (WL l) l.length l.length := by
  obtain ⟨g1, g2, g3, _⟩ := kG_inv l 5
  obtain ⟨c1, c2⟩ := kept_choice (l := l) g1 (fun k hk => (g2 k hk).1) g3
  rw [rWorth, if_pos h, rGreedy, if_pos h]
  simp only
  have c1' : chB l (kept (kG l) l.length) = true := c1
  rw [if_pos c1']
  exact ⟨_, rfl, worth_most c1⟩
theorem proof_end {l : List (Int × Int × Int)} (h : ckL l = 0) : (rProof l).2 = 0 ∧ (rProof l).1.length = l.length + 1 ∧ (rProof l).1[l.length]? = some (dpV (RL l) (LL l) (WL l) l.length l.length) := by
  rw [rProof, if_pos h]
  exact ⟨rfl, dpP_length _, dpP_at (Nat.le_refl _)⟩
theorem worth_zero {l : List (Int × Int × Int)} {ch : List Int} {x : Int} (h : rWorth l ch = (x, 0)) : ckL l = 0 ∧ x ≤ dpV (RL l) (LL l) (WL l) l.length l.length := by
  rw [rWorth] at h
  split at h
  · rename_i h0
    refine ⟨h0, ?_⟩
    split at h
    · rename_i hc
      simp only [Prod.mk.injEq, and_true] at h
      rw [← h]
      exact worth_most hc
    · simp at h
  · rename_i h0
    simp only [Prod.mk.injEq] at h
    exact absurd h.2 h0
/-- the choice's answer against the worth's code -/
theorem choice_code {l : List (Int × Int × Int)} {ch : List Int} (h : (rChoice l ch).2 = 0) : (rChoice l ch).1 = ((rWorth l ch).2 == 0) := by
  rw [rChoice] at h ⊢
  rw [rWorth]
  split at h
  · rename_i h0
    rw [if_pos h0, if_pos h0]
    by_cases hc : chB l ch = true
    · rw [if_pos hc, hc]; rfl
    · rw [if_neg hc]
      simp only [Bool.not_eq_true] at hc
      rw [hc]; rfl
  · rename_i h0
    exact absurd h h0
end Go.Proofs.YtpbhncgjnmaojaaGreatDoor
namespace Go.Proofs.YtpbhncgjnmaojaaGreatDoor
open Go.RowKit
set_option linter.unusedVariables false
set_option linter.unusedSimpArgs false

/-- ticks drawn, for themselves -/
def GivesTT (w : World) (e : Ending) (w' : World) : Prop := ∃ (tv : Value) (T : List (Int × Int × Int)), e = .returned tv ∧ T.length ≤ 41 ∧ I64s3 T ∧ w'.ownsRow w.heap.size 49 3 tv T.length (cells3 T) ∧ Below w.heap.size w w'
/-- ticks drawn with a list of numbers -/
def GivesTC (w : World) (e : Ending) (w' : World) : Prop := ∃ (tv vv : Value) (T : List (Int × Int × Int)) (V : List Int), e = .returned (.tuple #[tv, vv]) ∧ T.length ≤ 41 ∧ I64s3 T ∧ V.length ≤ 1100 ∧ I64s V ∧ w'.ownsRow w.heap.size 49 3 tv T.length (cells3 T) ∧ w'.ownsRow w.heap.size 2 1 vv V.length (V.map (Value.int .i64)) ∧ Below w.heap.size w w'
set_option maxRecDepth 100000 in
set_option maxHeartbeats 4000000 in
theorem DrawBestChoice_any (A : Option Addr) (n c : Nat) (l : List Int) (w : World) (hl : l.length = n) (hn : n ≤ 1048576) (h8 : U8s l) (hs : Sees w w.heap.size A (l.map (Value.int .u8))) :
    Calls Tryz.prog 5 #[.slice A n c] w (GivesTT w) := by
  go_enter Tryz.func5, Tryz.ntmps5
  go_wp2_with fail
  refine (l01From_any A n c l _ hl hn h8 ?_).mono ?_
  · exact (hs.over (by repeat' (first | exact Below.refl _ _ | assumption | refine Below.alloc ?_ (by first | omega | (simp; done) | (simp; omega)) _ | refine Below.drew ?_ | refine Below.setCell ?_ (by first | omega | (simp; done) | (simp; omega)) _))).wider (by first | omega | (simp; done) | (simp; omega))
  rintro e w0 ⟨b, rfl, hb0, S0, B0⟩
  have hb : w.heap.size + 0 ≤ b := by first | omega | (simp at hb0; omega)
  have y0 := S0.inside
  replace B0 : Below w.heap.size w w0 := Below.trans (by repeat' (first | exact Below.refl _ _ | assumption | refine Below.alloc ?_ (by first | omega | (simp; done) | (simp; omega)) _ | refine Below.drew ?_ | refine Below.setCell ?_ (by first | omega | (simp; done) | (simp; omega)) _)) (B0.mono (by first | omega | (simp; done) | (simp; omega)))
  have z0 := B0.size
  have hbw : w.heap.size ≤ b := by omega
  clear hb0 hs
  go_wp2_with fail
  refine (l09Draw_any b A n c l _ hl hn h8 S0).mono ?_
  rintro e w1 ⟨tv, T, rfl, hT41, IT, oT1, S1, g1⟩
  replace oT1 := ownLower oT1 z0
  have B1 : Below w.heap.size w w1 := B0.trans (gBelow g1 hbw z0)
  clear g1
  go_wp2_with fail
  go_ret
  exact ⟨_, T, rfl, hT41, IT, oT1, B1⟩
set_option maxRecDepth 100000 in
set_option maxHeartbeats 8000000 in
theorem DrawIsChoice_any (A : Option Addr) (n c : Nat) (l : List Int) (w : World) (hl : l.length = n) (hn : n ≤ 1048576) (h8 : U8s l) (hs : Sees w w.heap.size A (l.map (Value.int .u8))) :
    Calls Tryz.prog 32 #[.slice A n c] w (GivesTC w) := by
  obtain ⟨i0, hi', hz0, hz1, hz2⟩ := info_parts infoI64
  go_enter Tryz.func32, Tryz.ntmps32
  go_wp2_with fail
  refine (l01From_any A n c l _ hl hn h8 ?_).mono ?_
  · exact (hs.over (by repeat' (first | exact Below.refl _ _ | assumption | refine Below.alloc ?_ (by first | omega | (simp; done) | (simp; omega)) _ | refine Below.drew ?_ | refine Below.setCell ?_ (by first | omega | (simp; done) | (simp; omega)) _))).wider (by first | omega | (simp; done) | (simp; omega))
  rintro e w0 ⟨b, rfl, hb0, S0, B0⟩
  have hb : w.heap.size + 0 ≤ b := by first | omega | (simp at hb0; omega)
  have y0 := S0.inside
  replace B0 : Below w.heap.size w w0 := Below.trans (by repeat' (first | exact Below.refl _ _ | assumption | refine Below.alloc ?_ (by first | omega | (simp; done) | (simp; omega)) _ | refine Below.drew ?_ | refine Below.setCell ?_ (by first | omega | (simp; done) | (simp; omega)) _)) (B0.mono (by first | omega | (simp; done) | (simp; omega)))
  have z0 := B0.size
  have hbw : w.heap.size ≤ b := by omega
  clear hb0 hs
  go_wp2_with fail
  refine (l09Draw_any b A n c l _ hl hn h8 S0).mono ?_
  rintro e w1 ⟨tv, T, rfl, hT41, IT, oT0, S1, g1⟩
  obtain ⟨tA, tc, rfl⟩ := ownShape oT0
  have oT1 := ownLower oT0 z0
  have HI := Lib.hid IT
  have B1 : Below w.heap.size w w1 := B0.trans (gBelow g1 hbw z0)
  have y1 := S1.inside
  have z1 := B1.size
  clear g1 IT
  go_wp2_with fail
  refine (sGreedyChoice_any tA T.length tc T _ rfl (by omega) (Sees.ofOwn oT1)).mono ?_
  have hgl := rGreedy_len T
  have hgi : I64s (rGreedy T).1 := by
    intro x hx
    unfold rGreedy at hx
    split at hx
    · obtain ⟨k, rfl, hk, _⟩ := kept_mem.1 hx
      unfold I64; omega
    · cases hx
  generalize rGreedy T = pr at *
  obtain ⟨V, code⟩ := pr
  simp only at hgl hgi ⊢
  have HGI := Lib.hid hgi
  rintro e w2 ⟨vv, rfl, oV2, b2⟩
  obtain ⟨vA, vc, rfl⟩ := ownShape oV2
  have HTB := Lib.hid (show ∀ q, (Value.slice tA T.length tc).ownBlock = some q → q ≠ b from fun q hq => by have := (oT0.lt q hq).1; omega)
  have HTV := Lib.hid (show ∀ q, (Value.slice tA T.length tc).ownBlock = some q → q < w1.heap.size from fun q hq => (oT0.lt q hq).2)
  have HVB := Lib.hid (show ∀ q, (Value.slice vA V.length vc).ownBlock = some q → q ≠ b from fun q hq => by have := (oV2.lt q hq).1; omega)
  have HV1 := Lib.hid (show ∀ q, (Value.slice vA V.length vc).ownBlock = some q → w1.heap.size ≤ q from fun q hq => (oV2.lt q hq).1)
  have S2 := S1.over b2
  have B2 : Below w.heap.size w w2 := B1.trans (b2.mono z1)
  have oT2 := ownOver oT1 b2
  replace oV2 := ownLower oV2 z1
  have y2 := S2.inside
  have z2 := b2.size
  clear b2 oT0 oT1 S1 hgi
  by_cases hc : code = 0
  · have tc0 : (code == 0) = true := beq_iff_eq.2 hc
    clear hc
    go_wp2_with fail
    refine (l01Next_any _ b A n c l _ hl hn h8 S2).mono ?_
    rintro e w3 ⟨v3, rfl, lo3, hi3, S3, g3⟩
    have y3 := S3.inside
    have z3 := g3.size
    have oT3 := ownGrown oT2 g3 (ownNo (fun q hq => HTB.out q hq))
    have oV3 := ownGrown oV2 g3 (ownNo (fun q hq => HVB.out q hq))
    have B3 : Below w.heap.size w w3 := B2.trans (gBelow g3 hbw B2.size)
    clear g3 hi3
    by_cases q3 : v3 = 0
    · have t3 : (v3 == 0) = true := beq_iff_eq.2 q3
      clear q3
      go_wp2_with fail
      refine (l01Next_any _ b A n c l _ hl hn h8 S3).mono ?_
      rintro e w4 ⟨v4, rfl, lo4, hi4, S4, g4⟩
      have oT4 := ownGrown oT3 g4 (ownNo (fun q hq => HTB.out q hq))
      have oV4 := ownGrown oV3 g4 (ownNo (fun q hq => HVB.out q hq))
      have B4 : Below w.heap.size w w4 := B3.trans (gBelow g4 hbw B3.size)
      have z4 := B4.size
      have z41 : w1.heap.size ≤ w4.heap.size := Nat.le_trans z2 (Nat.le_trans z3 g4.size)
      have hv4 : v4 ≤ 100 := by omega
      clear g4 hi4 oT2 oV2 oT3 oV3
      go_wp2_with (at_builtin; refine wpList_append_own_at _ rfl _ _ 26 rfl w.heap.size 2 i0 (.int .i64 0) 1 8 Tryz.underlying26 hi' hz0 hz1 hz2 rfl (by decide) _ _ _ rfl (oV4.alloc _) ⟨w4.heap.size, 0, none⟩ 1 1 [.int .i64 v4] rfl rfl ?_ ?_ ?_ ?_ ?_ ?_; exact cell_one_new _ _ _; (intro u hu; simp at hu; subst hu; rfl); (unfold maxLen; omega); omega; (simp; omega); intro v' w5 hown1 hgr1 hnil1 _)
      have oT5 := ownGrown (ownOver oT4 (Below.alloc (Below.refl _ _) (Nat.le_refl _) _)) hgr1 (ownNo2 HTV.out HV1.out (Nat.le_refl _))
      have B5 : Below w.heap.size w w5 := (B4.alloc z4 (.cells #[.int .i64 v4] 2)).grown hgr1 (by simp; omega) (fun q hq => (oV4.lt q hq).1)
      have G5 := Lib.hid (show GivesTC w (.returned (.tuple #[.slice tA T.length tc, v'])) w5 from ⟨_, _, T, V ++ [v4], rfl, hT41, HI.out, by simp; omega, fun x hx => by
        rcases List.mem_append.1 hx with h | h
        · exact HGI.out x h
        · rw [List.mem_singleton] at h; subst h; unfold I64; omega, oT5, by simpa using hown1, B5⟩)
      clear hgr1 hown1 hnil1 oT4 oV4 oT5 B5
      go_wp2_with fail
      refine bodyPost_ret (v := .tuple #[.slice tA T.length tc, v']) ?_ rfl ?_; (focus (simp [results, Tryz.results32, go_sem]; done))
      exact G5.out
    · have t3 : (v3 == 0) = false := by simpa using q3
      clear q3
      go_wp2_with fail
      refine bodyPost_ret (v := .tuple #[.slice tA T.length tc, .slice vA V.length vc]) ?_ rfl ?_; (focus (simp [results, Tryz.results32, go_sem]; done))
      exact ⟨_, _, T, V, rfl, hT41, HI.out, by omega, HGI.out, oT3, oV3, B3⟩
  · have tc0 : (code == 0) = false := by simpa using hc
    clear hc
    go_wp2_with fail
    refine bodyPost_ret (v := .tuple #[.slice tA T.length tc, .slice vA V.length vc]) ?_ rfl ?_; (focus (simp [results, Tryz.results32, go_sem]; done))
    exact ⟨_, _, T, V, rfl, hT41, HI.out, by omega, HGI.out, oT2, oV2, B2⟩
set_option maxRecDepth 100000 in
set_option maxHeartbeats 4000000 in
theorem DrawWorthOf_any (A : Option Addr) (n c : Nat) (l : List Int) (w : World) (hl : l.length = n) (hn : n ≤ 1048576) (h8 : U8s l) (hs : Sees w w.heap.size A (l.map (Value.int .u8))) :
    Calls Tryz.prog 12 #[.slice A n c] w (GivesTC w) := by
  go_enter Tryz.func12, Tryz.ntmps12
  go_wp2_with fail
  refine (DrawIsChoice_any A n c l _ hl hn h8 hs).mono ?_
  rintro e w1 ⟨tv, vv, T, V, rfl, h1, h2, h3, h4, h5, h6, h7⟩
  go_wp2_with fail
  refine bodyPost_ret (v := .tuple #[tv, vv]) ?_ rfl ?_; (focus (simp [results, Tryz.results12, go_sem]; done))
  exact ⟨tv, vv, T, V, rfl, h1, h2, h3, h4, h5, h6, h7⟩
end Go.Proofs.YtpbhncgjnmaojaaGreatDoor
namespace Go.Proofs.YtpbhncgjnmaojaaGreatDoor
open Go.RowKit
set_option linter.unusedVariables false
set_option linter.unusedSimpArgs false

theorem ownCapL {w : World} {base size n c : Nat} {A : Option Addr} {e : TypeId} {xs : List Value} (h : w.ownsRow base e size (.slice A n c) n xs) : n ≤ c ∧ c ≤ 9223372036854775807 := by
  rcases ownRow h with ⟨hv, h2, _⟩ | ⟨g', cap', cur, hv, hb, F, h1, h2, _⟩
  · injection hv with _ h3 h4
    subst h3 h4
    exact ⟨Nat.le_refl _, by omega⟩
  · injection hv with _ _ h3
    subst h3
    exact ⟨h1, by unfold maxLen at h2; omega⟩
theorem best_zero {l : List (Int × Int × Int)} (h : (rBest l).2 = 0) : ckL l = 0 := by
  unfold rBest at h
  split at h
  · assumption
  · exact h
theorem ownAddrL {w : World} {base size n c : Nat} {A : Option Addr} {e : TypeId} {xs : List Value} (h : w.ownsRow base e size (.slice A n c) n xs) (hn : 0 < n) : ∃ g, A = some ⟨g, 0, none⟩ := by
  rcases ownRow h with ⟨hv, _, _⟩ | ⟨g', cap', cur, hv, hb, F, _⟩
  · injection hv with _ h2 _; omega
  · injection hv with hA _ _
    exact ⟨g', hA⟩
set_option maxRecDepth 100000 in
set_option maxHeartbeats 16000000 in
theorem fnLabels_walk (A : Option Addr) (n c : Nat) (l : List Int) (w : World) (hl : l.length = n) (_hc : n ≤ c) (hm : c ≤ maxLen) (hs : Sees w w.heap.size A (l.map (Value.int .u8))) (h8 : U8s l) (hT : Lib.TabIs Tryz.prog w "internal/strconv.uint64pow10" .u64 Lib.pow10Tab) :
    Calls Tryz.prog 3 #[.slice A n c] w fun e w' => e = .returned (.bool true) ∧ Below w.heap.size w w' := by
  have hT : Tab w := hT
  unfold maxLen at hm
  have BG := fun W => big_small A n c W (by omega)
  by_cases hbig : 4096 < n
  · rw [show decide (4096 < n) = true from decide_eq_true hbig] at BG
    go_enter Tryz.func3, Tryz.ntmps3
    go_wp2_with (go_at_call 4; refine (BG _).mono ?_; rintro e w' ⟨rfl, rfl⟩)
    go_ret
    exact ⟨rfl, Below.refl _ _⟩
  · rw [show decide (4096 < n) = false from decide_eq_false hbig] at BG
    have hn : n ≤ 1048576 := by omega
    go_enter Tryz.func3, Tryz.ntmps3
    go_wp2_with (go_at_call 4; refine (BG _).mono ?_; rintro e w' ⟨rfl, rfl⟩)
    clear BG
    go_wp2_with fail
    refine (DrawBestChoice_any A n c l _ hl hn h8 hs).mono ?_
    rintro e w1 ⟨tv, T, rfl, hT41, IT, ot, hb1⟩
    have hd1 : Below w.heap.size w w1 := Below.trans (by repeat' (first | (with_reducible exact Below.refl _ _) | (with_reducible assumption) | (with_reducible refine Below.alloc ?_ ?_ _) | (with_reducible refine Below.drew ?_) | (with_reducible refine belowDraws ?_ _) | (with_reducible refine Below.setCell ?_ ?_ _) | omega | (simp; done) | (simp; omega))) (hb1.mono (by first | omega | (simp; done) | (simp; omega)))
    obtain ⟨tA, tc, rfl⟩ := ownShape ot
    have B1 : Below w.heap.size w w1 := (Below.refl w.heap.size w).trans (hd1.mono (Below.refl w.heap.size w).size)
    have hz1 := B1.size
    clear hb1 hd1
    have I1 := fun W (h : Sees W W.heap.size tA (cells3 T)) (h3 : Tab W) => iBestChoice_any tA T.length tc T W rfl (by omega) h h3
    have S1 := fun W (h : Sees W W.heap.size tA (cells3 T)) => sBestChoice_any tA T.length tc T W rfl (by omega) h
    obtain ⟨⟨B, c1⟩, H1⟩ : ∃ p, Hid (rBest T = p) := ⟨_, Lib.hid rfl⟩
    rw [H1.out] at I1 S1
    simp only at I1 S1
    go_wp2_with fail
    refine (I1 _ (Sees.ofOwn ot) (hT.over B1)).mono ?_
    rintro e w2 ⟨bv, rfl, ob, hb2⟩
    have hd2 : Below w1.heap.size w1 w2 := Below.trans (by repeat' (first | (with_reducible exact Below.refl _ _) | (with_reducible assumption) | (with_reducible refine Below.alloc ?_ ?_ _) | (with_reducible refine Below.drew ?_) | (with_reducible refine belowDraws ?_ _) | (with_reducible refine Below.setCell ?_ ?_ _) | omega | (simp; done) | (simp; omega))) (hb2.mono (by first | omega | (simp; done) | (simp; omega)))
    replace ot := ownOver ot hd2
    obtain ⟨bA, bc, rfl⟩ := ownShape ob
    have B2 : Below w.heap.size w w2 := B1.trans (hd2.mono B1.size)
    have hz2 := B2.size
    clear hb2 hd2
    go_wp2_with fail
    refine (S1 _ (Sees.ofOwn ot)).mono ?_
    rintro e w3 ⟨mv, rfl, om, hb3⟩
    have hd3 : Below w2.heap.size w2 w3 := Below.trans (by repeat' (first | (with_reducible exact Below.refl _ _) | (with_reducible assumption) | (with_reducible refine Below.alloc ?_ ?_ _) | (with_reducible refine Below.drew ?_) | (with_reducible refine belowDraws ?_ _) | (with_reducible refine Below.setCell ?_ ?_ _) | omega | (simp; done) | (simp; omega))) (hb3.mono (by first | omega | (simp; done) | (simp; omega)))
    replace ot := ownOver ot hd3
    replace ob := ownOver ob hd3
    obtain ⟨mA, mc, rfl⟩ := ownShape om
    have B3 : Below w.heap.size w w3 := B2.trans (hd3.mono B2.size)
    have hz3 := B3.size
    clear hb3 hd3
    have I2 := fun W (h : Sees W W.heap.size tA (cells3 T)) (h3 : Tab W) => iLabelProof_any tA T.length tc T W rfl (by omega) h h3
    have S2 := fun W (h : Sees W W.heap.size tA (cells3 T)) => sLabelProof_any tA T.length tc T W rfl (by omega) h
    obtain ⟨⟨P, c2⟩, H2⟩ : ∃ p, Hid (rProof T = p) := ⟨_, Lib.hid rfl⟩
    rw [H2.out] at I2 S2
    simp only at I2 S2
    go_wp2_with fail
    refine (I2 _ (Sees.ofOwn ot) (hT.over B3)).mono ?_
    rintro e w4 ⟨vv, rfl, ov, hb4⟩
    have hd4 : Below w3.heap.size w3 w4 := Below.trans (by repeat' (first | (with_reducible exact Below.refl _ _) | (with_reducible assumption) | (with_reducible refine Below.alloc ?_ ?_ _) | (with_reducible refine Below.drew ?_) | (with_reducible refine belowDraws ?_ _) | (with_reducible refine Below.setCell ?_ ?_ _) | omega | (simp; done) | (simp; omega))) (hb4.mono (by first | omega | (simp; done) | (simp; omega)))
    replace ot := ownOver ot hd4
    replace ob := ownOver ob hd4
    replace om := ownOver om hd4
    obtain ⟨vA, vc, rfl⟩ := ownShape ov
    have B4 : Below w.heap.size w w4 := B3.trans (hd4.mono B3.size)
    have hz4 := B4.size
    clear hb4 hd4
    go_wp2_with fail
    refine (S2 _ (Sees.ofOwn ot)).mono ?_
    rintro e w5 ⟨pv, rfl, op, hb5⟩
    have hd5 : Below w4.heap.size w4 w5 := Below.trans (by repeat' (first | (with_reducible exact Below.refl _ _) | (with_reducible assumption) | (with_reducible refine Below.alloc ?_ ?_ _) | (with_reducible refine Below.drew ?_) | (with_reducible refine belowDraws ?_ _) | (with_reducible refine Below.setCell ?_ ?_ _) | omega | (simp; done) | (simp; omega))) (hb5.mono (by first | omega | (simp; done) | (simp; omega)))
    replace ot := ownOver ot hd5
    replace ob := ownOver ob hd5
    replace om := ownOver om hd5
    replace ov := ownOver ov hd5
    obtain ⟨pA, pc, rfl⟩ := ownShape op
    have B5 : Below w.heap.size w w5 := B4.trans (hd5.mono B4.size)
    have hz5 := B5.size
    clear hb5 hd5
    have I3 := fun W (h : Sees W W.heap.size tA (cells3 T)) (h3 : Tab W) => iGreedyChoice_any tA T.length tc T W rfl (by omega) h h3
    have S3 := fun W (h : Sees W W.heap.size tA (cells3 T)) => sGreedyChoice_any tA T.length tc T W rfl (by omega) h
    obtain ⟨⟨G, c3⟩, H3⟩ : ∃ p, Hid (rGreedy T = p) := ⟨_, Lib.hid rfl⟩
    rw [H3.out] at I3 S3
    simp only at I3 S3
    go_wp2_with fail
    refine (I3 _ (Sees.ofOwn ot) (hT.over B5)).mono ?_
    rintro e w6 ⟨gv, rfl, og, hb6⟩
    have hd6 : Below w5.heap.size w5 w6 := Below.trans (by repeat' (first | (with_reducible exact Below.refl _ _) | (with_reducible assumption) | (with_reducible refine Below.alloc ?_ ?_ _) | (with_reducible refine Below.drew ?_) | (with_reducible refine belowDraws ?_ _) | (with_reducible refine Below.setCell ?_ ?_ _) | omega | (simp; done) | (simp; omega))) (hb6.mono (by first | omega | (simp; done) | (simp; omega)))
    replace ot := ownOver ot hd6
    replace ob := ownOver ob hd6
    replace om := ownOver om hd6
    replace ov := ownOver ov hd6
    replace op := ownOver op hd6
    obtain ⟨gA, gc, rfl⟩ := ownShape og
    have B6 : Below w.heap.size w w6 := B5.trans (hd6.mono B5.size)
    have hz6 := B6.size
    clear hb6 hd6
    go_wp2_with fail
    refine (S3 _ (Sees.ofOwn ot)).mono ?_
    rintro e w7 ⟨yv, rfl, oy, hb7⟩
    have hd7 : Below w6.heap.size w6 w7 := Below.trans (by repeat' (first | (with_reducible exact Below.refl _ _) | (with_reducible assumption) | (with_reducible refine Below.alloc ?_ ?_ _) | (with_reducible refine Below.drew ?_) | (with_reducible refine belowDraws ?_ _) | (with_reducible refine Below.setCell ?_ ?_ _) | omega | (simp; done) | (simp; omega))) (hb7.mono (by first | omega | (simp; done) | (simp; omega)))
    replace ot := ownOver ot hd7
    replace ob := ownOver ob hd7
    replace om := ownOver om hd7
    replace ov := ownOver ov hd7
    replace op := ownOver op hd7
    replace og := ownOver og hd7
    obtain ⟨yA, yc, rfl⟩ := ownShape oy
    have B7 : Below w.heap.size w w7 := B6.trans (hd7.mono B6.size)
    have hz7 := B7.size
    clear hb7 hd7
    go_wp2_with fail
    refine (DrawWorthOf_any A n c l _ hl hn h8 ?_).mono ?_
    · first | exact hs | exact (hs.over (by repeat' (first | (with_reducible exact Below.refl _ _) | (with_reducible assumption) | (with_reducible refine Below.alloc ?_ ?_ _) | (with_reducible refine Below.drew ?_) | (with_reducible refine belowDraws ?_ _) | (with_reducible refine Below.setCell ?_ ?_ _) | omega | (simp; done) | (simp; omega)))).wider (by first | omega | (simp; done) | (simp; omega))
    rintro e w8 ⟨lv, cv, L, C, rfl, hL41, IL, hC, IC, ol, oc, hb8⟩
    have hd8 : Below w7.heap.size w7 w8 := Below.trans (by repeat' (first | (with_reducible exact Below.refl _ _) | (with_reducible assumption) | (with_reducible refine Below.alloc ?_ ?_ _) | (with_reducible refine Below.drew ?_) | (with_reducible refine belowDraws ?_ _) | (with_reducible refine Below.setCell ?_ ?_ _) | omega | (simp; done) | (simp; omega))) (hb8.mono (by first | omega | (simp; done) | (simp; omega)))
    replace ot := ownOver ot hd8
    replace ob := ownOver ob hd8
    replace om := ownOver om hd8
    replace ov := ownOver ov hd8
    replace op := ownOver op hd8
    replace og := ownOver og hd8
    replace oy := ownOver oy hd8
    obtain ⟨liA, lic, rfl⟩ := ownShape ol
    obtain ⟨chA, chc, rfl⟩ := ownShape oc
    have B8 : Below w.heap.size w w8 := B7.trans (hd8.mono B7.size)
    have hz8 := B8.size
    clear hb8 hd8
    obtain ⟨hc1, hc2⟩ := ownCapL oc
    have I4 := fun W (h : Sees W W.heap.size liA (cells3 L)) (h2 : Sees W W.heap.size chA (C.map (Value.int .i64))) (h3 : Tab W) => iWorthOf_any liA L.length lic L chA C.length chc C W rfl (by omega) h rfl hc1 (by omega) hc2 h2 h3
    have S4 := fun W (h : Sees W W.heap.size liA (cells3 L)) (h2 : Sees W W.heap.size chA (C.map (Value.int .i64))) => sWorthOf_any liA L.length lic L chA C.length chc C W rfl (by omega) h rfl hc1 (by omega) hc2 h2
    obtain ⟨⟨wo, c5⟩, H4⟩ : ∃ p, Hid (rWorth L C = p) := ⟨_, Lib.hid rfl⟩
    rw [H4.out] at I4 S4
    simp only at I4 S4
    go_wp2_with fail
    refine (I4 _ (Sees.ofOwn ol) (Sees.ofOwn oc) (hT.over B8)).mono ?_
    rintro e w9 ⟨rfl, hb9⟩
    have hd9 : Below w8.heap.size w8 w9 := Below.trans (by repeat' (first | (with_reducible exact Below.refl _ _) | (with_reducible assumption) | (with_reducible refine Below.alloc ?_ ?_ _) | (with_reducible refine Below.drew ?_) | (with_reducible refine belowDraws ?_ _) | (with_reducible refine Below.setCell ?_ ?_ _) | omega | (simp; done) | (simp; omega))) (hb9.mono (by first | omega | (simp; done) | (simp; omega)))
    replace ot := ownOver ot hd9
    replace ob := ownOver ob hd9
    replace om := ownOver om hd9
    replace ov := ownOver ov hd9
    replace op := ownOver op hd9
    replace og := ownOver og hd9
    replace oy := ownOver oy hd9
    replace ol := ownOver ol hd9
    replace oc := ownOver oc hd9
    have B9 : Below w.heap.size w w9 := B8.trans (hd9.mono B8.size)
    have hz9 := B9.size
    clear hb9 hd9
    go_wp2_with fail
    refine (S4 _ (Sees.ofOwn ol) (Sees.ofOwn oc)).mono ?_
    rintro e w10 ⟨rfl, hb10⟩
    have hd10 : Below w9.heap.size w9 w10 := Below.trans (by repeat' (first | (with_reducible exact Below.refl _ _) | (with_reducible assumption) | (with_reducible refine Below.alloc ?_ ?_ _) | (with_reducible refine Below.drew ?_) | (with_reducible refine belowDraws ?_ _) | (with_reducible refine Below.setCell ?_ ?_ _) | omega | (simp; done) | (simp; omega))) (hb10.mono (by first | omega | (simp; done) | (simp; omega)))
    replace ot := ownOver ot hd10
    replace ob := ownOver ob hd10
    replace om := ownOver om hd10
    replace ov := ownOver ov hd10
    replace op := ownOver op hd10
    replace og := ownOver og hd10
    replace oy := ownOver oy hd10
    replace ol := ownOver ol hd10
    replace oc := ownOver oc hd10
    have B10 : Below w.heap.size w w10 := B9.trans (hd10.mono B9.size)
    have hz10 := B10.size
    clear hb10 hd10
    have I5 := fun W (h : Sees W W.heap.size liA (cells3 L)) (h2 : Sees W W.heap.size chA (C.map (Value.int .i64))) (h3 : Tab W) => iIsChoice_any liA L.length lic L chA C.length chc C W rfl (by omega) h rfl hc1 (by omega) hc2 h2 h3
    have S5 := fun W (h : Sees W W.heap.size liA (cells3 L)) (h2 : Sees W W.heap.size chA (C.map (Value.int .i64))) => sIsChoice_any liA L.length lic L chA C.length chc C W rfl (by omega) h rfl hc1 (by omega) hc2 h2
    obtain ⟨⟨ok, c7⟩, H5⟩ : ∃ p, Hid (rChoice L C = p) := ⟨_, Lib.hid rfl⟩
    rw [H5.out] at I5 S5
    simp only at I5 S5
    go_wp2_with fail
    refine (I5 _ (Sees.ofOwn ol) (Sees.ofOwn oc) (hT.over B10)).mono ?_
    rintro e w11 ⟨rfl, hb11⟩
    have hd11 : Below w10.heap.size w10 w11 := Below.trans (by repeat' (first | (with_reducible exact Below.refl _ _) | (with_reducible assumption) | (with_reducible refine Below.alloc ?_ ?_ _) | (with_reducible refine Below.drew ?_) | (with_reducible refine belowDraws ?_ _) | (with_reducible refine Below.setCell ?_ ?_ _) | omega | (simp; done) | (simp; omega))) (hb11.mono (by first | omega | (simp; done) | (simp; omega)))
    replace ot := ownOver ot hd11
    replace ob := ownOver ob hd11
    replace om := ownOver om hd11
    replace ov := ownOver ov hd11
    replace op := ownOver op hd11
    replace og := ownOver og hd11
    replace oy := ownOver oy hd11
    replace ol := ownOver ol hd11
    replace oc := ownOver oc hd11
    have B11 : Below w.heap.size w w11 := B10.trans (hd11.mono B10.size)
    have hz11 := B11.size
    clear hb11 hd11
    go_wp2_with fail
    refine (S5 _ (Sees.ofOwn ol) (Sees.ofOwn oc)).mono ?_
    rintro e w12 ⟨rfl, hb12⟩
    have hd12 : Below w11.heap.size w11 w12 := Below.trans (by repeat' (first | (with_reducible exact Below.refl _ _) | (with_reducible assumption) | (with_reducible refine Below.alloc ?_ ?_ _) | (with_reducible refine Below.drew ?_) | (with_reducible refine belowDraws ?_ _) | (with_reducible refine Below.setCell ?_ ?_ _) | omega | (simp; done) | (simp; omega))) (hb12.mono (by first | omega | (simp; done) | (simp; omega)))
    replace ot := ownOver ot hd12
    replace ob := ownOver ob hd12
    replace om := ownOver om hd12
    replace ov := ownOver ov hd12
    replace op := ownOver op hd12
    replace og := ownOver og hd12
    replace oy := ownOver oy hd12
    replace ol := ownOver ol hd12
    replace oc := ownOver oc hd12
    have B12 : Below w.heap.size w w12 := B11.trans (hd12.mono B11.size)
    have hz12 := B12.size
    clear hb12 hd12
    clear I1 S1 I2 S2 I3 S3 I4 S4 I5 S5 hl h8 hs
    have N7 := Lib.hid (fun (h : c7 = 0) => choice_code (l := L) (ch := C) (by rw [H5.out]; exact h))
    have hBl : B.length ≤ 1048576 := by have := rBest_len T; rw [H1.out] at this; exact this
    have hPl : P.length ≤ 1048576 := by have := rProof_len T; rw [H2.out] at this; simp only at this; omega
    have hGl : G.length ≤ 1048576 := by have := rGreedy_len T; rw [H3.out] at this; simp only at this; omega
    have E7 : (c7 == 0) = false ∨ ((c7 == 0) = true ∧ ok = (c5 == 0)) := by
      by_cases h : c7 = 0
      · right
        have := N7.out h
        rw [H4.out, H5.out] at this
        simp only at this
        exact ⟨beq_iff_eq.2 h, this⟩
      · left; simpa using h
    clear N7 H5
    go_wp2_with fail
    refine (likeInts_same bA mA B.length bc mc B _ rfl hBl (Sees.ofOwn ob) (Sees.ofOwn om)).mono ?_
    rintro e w13 ⟨rfl, hb13⟩
    have hd13 : Below w12.heap.size w12 w13 := Below.trans (by repeat' (first | (with_reducible exact Below.refl _ _) | (with_reducible assumption) | (with_reducible refine Below.alloc ?_ ?_ _) | (with_reducible refine Below.drew ?_) | (with_reducible refine belowDraws ?_ _) | (with_reducible refine Below.setCell ?_ ?_ _) | omega | (simp; done) | (simp; omega))) (hb13.mono (by first | omega | (simp; done) | (simp; omega)))
    replace ot := ownOver ot hd13
    replace ob := ownOver ob hd13
    replace om := ownOver om hd13
    replace ov := ownOver ov hd13
    replace op := ownOver op hd13
    replace og := ownOver og hd13
    replace oy := ownOver oy hd13
    replace ol := ownOver ol hd13
    replace oc := ownOver oc hd13
    have B13 : Below w.heap.size w w13 := B12.trans (hd13.mono B12.size)
    have hz13 := B13.size
    clear hb13 hd13
    go_wp2_with fail
    refine (likeInts_same vA pA P.length vc pc P _ rfl hPl (Sees.ofOwn ov) (Sees.ofOwn op)).mono ?_
    rintro e w14 ⟨rfl, hb14⟩
    have hd14 : Below w13.heap.size w13 w14 := Below.trans (by repeat' (first | (with_reducible exact Below.refl _ _) | (with_reducible assumption) | (with_reducible refine Below.alloc ?_ ?_ _) | (with_reducible refine Below.drew ?_) | (with_reducible refine belowDraws ?_ _) | (with_reducible refine Below.setCell ?_ ?_ _) | omega | (simp; done) | (simp; omega))) (hb14.mono (by first | omega | (simp; done) | (simp; omega)))
    replace ot := ownOver ot hd14
    replace ob := ownOver ob hd14
    replace om := ownOver om hd14
    replace ov := ownOver ov hd14
    replace op := ownOver op hd14
    replace og := ownOver og hd14
    replace oy := ownOver oy hd14
    replace ol := ownOver ol hd14
    replace oc := ownOver oc hd14
    have B14 : Below w.heap.size w w14 := B13.trans (hd14.mono B13.size)
    have hz14 := B14.size
    clear hb14 hd14
    go_wp2_with fail
    refine (likeInts_same gA yA G.length gc yc G _ rfl hGl (Sees.ofOwn og) (Sees.ofOwn oy)).mono ?_
    rintro e w15 ⟨rfl, hb15⟩
    have hd15 : Below w14.heap.size w14 w15 := Below.trans (by repeat' (first | (with_reducible exact Below.refl _ _) | (with_reducible assumption) | (with_reducible refine Below.alloc ?_ ?_ _) | (with_reducible refine Below.drew ?_) | (with_reducible refine belowDraws ?_ _) | (with_reducible refine Below.setCell ?_ ?_ _) | omega | (simp; done) | (simp; omega))) (hb15.mono (by first | omega | (simp; done) | (simp; omega)))
    replace ot := ownOver ot hd15
    replace ob := ownOver ob hd15
    replace om := ownOver om hd15
    replace ov := ownOver ov hd15
    replace op := ownOver op hd15
    replace og := ownOver og hd15
    replace oy := ownOver oy hd15
    replace ol := ownOver ol hd15
    replace oc := ownOver oc hd15
    have B15 : Below w.heap.size w w15 := B14.trans (hd15.mono B14.size)
    have hz15 := B15.size
    clear hb15 hd15
    by_cases h5 : c5 = 0
    · have t5 : (c5 == 0) = true := beq_iff_eq.2 h5
      obtain ⟨hk, hle⟩ := worth_zero (H4.out.trans (by rw [h5]))
      obtain ⟨z1, z2, z3⟩ := proof_end hk
      rw [t5] at E7
      have J6 := fun W (h : Sees W W.heap.size liA (cells3 L)) (h3 : Tab W) => iLabelProof_any liA L.length lic L W rfl (by omega) h h3
      obtain ⟨⟨M, c9⟩, H6⟩ : ∃ p, Hid (rProof L = p) := ⟨_, Lib.hid rfl⟩
      rw [H6.out] at J6 z1 z2 z3
      simp only at J6 z1 z2 z3
      subst z1
      generalize dpV (RL L) (LL L) (WL L) L.length L.length = d2 at *
      have HM := Lib.hid z2
      have HE := Lib.hid z3
      have tm : ((M.length : Int) != (L.length : Int) + 1) = false := by rw [z2]; simp
      have dw : decide (d2 < wo) = false := decide_eq_false (by omega)
      have jm : (L.length : Int) < (M.length : Int) := by omega
      have zk := B15.size
      clear h5 H4 H6 hk hle z2 z3
      rcases E7 with e7 | ⟨e7, rfl⟩
      all_goals (
        go_wp2_with fail
        refine (J6 _ (Sees.ofOwn ol) (hT.over B15)).mono ?_
        rintro e wl ⟨mv, rfl, on, bl⟩
        obtain ⟨nA, nc, rfl⟩ := ownShape on
        obtain ⟨gm, rfl⟩ := ownAddrL on (by omega)
        have k0 : wl.cell? ⟨gm, L.length, none⟩ = some (.int .i64 d2) := (by rcases ownRow on with ⟨hv, _, _⟩ | ⟨g', cap', cur, hv, hb, F, h1, h2, h3, h4⟩; (focus (cases hv)); exact ownAt on _ _ (by rw [List.getElem?_map, HE.out]; rfl))
        have BL : Below w.heap.size w wl := B15.trans (bl.mono zk)
        replace ot := ownOver ot bl
        replace ob := ownOver ob bl
        replace og := ownOver og bl
        replace op := ownOver op bl
        clear bl J6 on ol oc
        by_cases h1 : c1 = 0
        · have hk1 : ckL T = 0 := best_zero (by rw [H1.out]; exact h1)
          have e1 := best_worth hk1
          rw [H1.out] at e1
          obtain ⟨yy, e2, hy⟩ := greedy_worth hk1
          rw [H3.out] at e2
          obtain ⟨z1, z2, z3⟩ := proof_end hk1
          rw [H2.out] at z2 z3
          simp only at e1 e2 z2 z3
          generalize dpV (RL T) (LL T) (WL T) T.length T.length = d at *
          obtain ⟨hb1, hb2⟩ := ownCapL ob
          obtain ⟨hg1, hg2⟩ := ownCapL og
          have J7 := fun W (h : Sees W W.heap.size tA (cells3 T)) (h2 : Sees W W.heap.size bA (B.map (Value.int .i64))) (h3 : Tab W) => iWorthOf_any tA T.length tc T bA B.length bc B W rfl (by omega) h rfl hb1 hBl hb2 h2 h3
          have J8 := fun W (h : Sees W W.heap.size tA (cells3 T)) (h2 : Sees W W.heap.size gA (G.map (Value.int .i64))) (h3 : Tab W) => iWorthOf_any tA T.length tc T gA G.length gc G W rfl (by omega) h rfl hg1 hGl hg2 h2 h3
          rw [e1] at J7
          rw [e2] at J8
          simp only at J7 J8
          have t1 : (c1 != 0) = false := by simpa using h1
          obtain ⟨gp, rfl⟩ := ownAddrL op (by omega)
          have dy : decide (yy ≤ d) = true := decide_eq_true hy
          have j1 : (T.length : Int) < (P.length : Int) := by omega
          have HZ := Lib.hid z3
          have zw := BL.size
          clear h1 H1 H2 H3 z1 z2 z3 hy e1 e2 hk1
          go_wp2_with fail
          refine (J7 _ (Sees.ofOwn ot) (Sees.ofOwn ob) (hT.over BL)).mono ?_
          rintro e wa ⟨rfl, ba⟩
          have BA : Below w.heap.size w wa := BL.trans (ba.mono zw)
          have za := BA.size
          replace ot := ownOver ot ba
          replace og := ownOver og ba
          replace op := ownOver op ba
          clear ba J7
          go_wp2_with fail
          refine (J8 _ (Sees.ofOwn ot) (Sees.ofOwn og) (hT.over BA)).mono ?_
          rintro e wb ⟨rfl, bb⟩
          have BB : Below w.heap.size w wb := BA.trans (bb.mono za)
          replace op := ownOver op bb
          have k1 : wb.cell? ⟨gp, T.length, none⟩ = some (.int .i64 d) := (by rcases ownRow op with ⟨hv, _, _⟩ | ⟨g', cap', cur, hv, hb, F, h1, h2, h3, h4⟩; (focus (cases hv)); exact ownAt op _ _ (by rw [List.getElem?_map, HZ.out]; rfl))
          clear bb J8 ot og op BA
          go_wp2_with fail
          go_ret
          exact ⟨endBool (by simp_all), BB⟩
        · have t1 : (c1 != 0) = true := by simpa using h1
          clear h1 H1 H2 H3
          go_wp2_with fail
          go_ret
          exact ⟨rfl, BL⟩)
    · have t5 : (c5 == 0) = false := by simpa using h5
      rw [t5] at E7
      clear h5 H4
      rcases E7 with e7 | ⟨e7, rfl⟩
      all_goals (
        by_cases h1 : c1 = 0
        · have hk1 : ckL T = 0 := best_zero (by rw [H1.out]; exact h1)
          have e1 := best_worth hk1
          rw [H1.out] at e1
          obtain ⟨yy, e2, hy⟩ := greedy_worth hk1
          rw [H3.out] at e2
          obtain ⟨z1, z2, z3⟩ := proof_end hk1
          rw [H2.out] at z2 z3
          simp only at e1 e2 z2 z3
          generalize dpV (RL T) (LL T) (WL T) T.length T.length = d at *
          obtain ⟨hb1, hb2⟩ := ownCapL ob
          obtain ⟨hg1, hg2⟩ := ownCapL og
          have J7 := fun W (h : Sees W W.heap.size tA (cells3 T)) (h2 : Sees W W.heap.size bA (B.map (Value.int .i64))) (h3 : Tab W) => iWorthOf_any tA T.length tc T bA B.length bc B W rfl (by omega) h rfl hb1 hBl hb2 h2 h3
          have J8 := fun W (h : Sees W W.heap.size tA (cells3 T)) (h2 : Sees W W.heap.size gA (G.map (Value.int .i64))) (h3 : Tab W) => iWorthOf_any tA T.length tc T gA G.length gc G W rfl (by omega) h rfl hg1 hGl hg2 h2 h3
          rw [e1] at J7
          rw [e2] at J8
          simp only at J7 J8
          have t1 : (c1 != 0) = false := by simpa using h1
          obtain ⟨gp, rfl⟩ := ownAddrL op (by omega)
          have dy : decide (yy ≤ d) = true := decide_eq_true hy
          have j1 : (T.length : Int) < (P.length : Int) := by omega
          have HZ := Lib.hid z3
          have zw := B15.size
          clear h1 H1 H2 H3 z1 z2 z3 hy e1 e2 hk1
          go_wp2_with fail
          refine (J7 _ (Sees.ofOwn ot) (Sees.ofOwn ob) (hT.over B15)).mono ?_
          rintro e wa ⟨rfl, ba⟩
          have BA : Below w.heap.size w wa := B15.trans (ba.mono zw)
          have za := BA.size
          replace ot := ownOver ot ba
          replace og := ownOver og ba
          replace op := ownOver op ba
          clear ba J7
          go_wp2_with fail
          refine (J8 _ (Sees.ofOwn ot) (Sees.ofOwn og) (hT.over BA)).mono ?_
          rintro e wb ⟨rfl, bb⟩
          have BB : Below w.heap.size w wb := BA.trans (bb.mono za)
          replace op := ownOver op bb
          have k1 : wb.cell? ⟨gp, T.length, none⟩ = some (.int .i64 d) := (by rcases ownRow op with ⟨hv, _, _⟩ | ⟨g', cap', cur, hv, hb, F, h1, h2, h3, h4⟩; (focus (cases hv)); exact ownAt op _ _ (by rw [List.getElem?_map, HZ.out]; rfl))
          clear bb J8 ot og op BA
          go_wp2_with fail
          go_ret
          exact ⟨endBool (by simp_all), BB⟩
        · have t1 : (c1 != 0) = true := by simpa using h1
          clear h1 H1 H2 H3
          go_wp2_with fail
          go_ret
          exact ⟨rfl, B15⟩)
end Go.Proofs.YtpbhncgjnmaojaaGreatDoor
