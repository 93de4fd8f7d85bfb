/- GreedyChoice: plain words and the reference's walk (layer 9). No condition. -/
import Derived.Test.YtpbhncgjnmaojaaGreatDoorLch
import Derived.Test.YtpbhncgjnmaojaaGreatDoorKeep
import Derived.Test.YtpbhncgjnmaojaaGreatDoorLawG
import Derived.BigQuiet
namespace Go.Proofs.YtpbhncgjnmaojaaGreatDoor
open Go.RowKit
set_option linter.unusedVariables false
set_option linter.unusedSimpArgs false

def kG (l : List (Int × Int × Int)) : List Nat := gAll (htA l) (hitA l) l.length 5
def rGreedy (l : List (Int × Int × Int)) : List Int × Int := if ckL l = 0 then (kept (kG l) l.length, 0) else ([], ckL l)
theorem rGreedy_len (l : List (Int × Int × Int)) : (rGreedy l).1.length ≤ 1000 := by
  unfold rGreedy
  split
  · rename_i h
    have := (ckL_zero h).1
    have := kept_length (kG l) l.length
    simp only
    omega
  · simp
theorem kG_inv (l : List (Int × Int × Int)) (m : Nat) : GInv (htA l) (hitA l) l.length (4 - (m : Int)) 0 (gAll (htA l) (hitA l) l.length m) := gAll_inv (hitA_sym l) m
theorem rowG_lt {l : List (Int × Int × Int)} {m i : Nat} (hi : i ≤ l.length) : ∀ k ∈ gRow (htA l) (hitA l) (4 - (m : Int)) (gAll (htA l) (hitA l) l.length m) i, k < l.length :=
  fun k hk => ((gRow_inv (hitA_sym l) (kG_inv l m) i hi).2.1 k hk).1
/-- a slice of marks: which numbers are kept -/
def boolsG (K : List Nat) (n : Nat) : List Value := (List.range n).map fun k => Value.bool (decide (k ∈ K))
theorem boolsG_at {K : List Nat} {n k : Nat} (h : k < n) : (boolsG K n).toArray[k]? = some (.bool (decide (k ∈ K))) := by
  simp [boolsG, h]
theorem boolsG_put {K : List Nat} {n i : Nat} (h : i < n) : (boolsG K n).toArray.setIfInBounds i (.bool true) = (boolsG (K ++ [i]) n).toArray := by
  apply Array.ext_getElem?
  intro j
  rw [Array.getElem?_setIfInBounds]
  by_cases e : i = j
  · subst e
    rw [if_pos rfl, if_pos (by simp [boolsG]; exact h), boolsG_at h]
    simp
  · rw [if_neg e]
    by_cases hj : j < n
    · rw [boolsG_at hj, boolsG_at hj]
      have : (j ∈ K ++ [i]) ↔ j ∈ K := by simp; omega
      simp [this]
    · rw [Array.getElem?_eq_none (by simp [boolsG]; omega), Array.getElem?_eq_none (by simp [boolsG]; omega)]
theorem boolsG_none (n : Nat) : madeCells (Value.bool false).cells (n * 1) = (boolsG [] n).toArray := by
  apply Array.toList_inj.1
  rw [Nat.mul_one]
  show (madeCells #[Value.bool false] n).toList = _
  rw [toList_madeCells_one]
  simp [boolsG, List.map_const']
/-- whether a kept one of the first k is hit -/
def anyT (R : Nat → Nat → Bool) (K : List Nat) (i k : Nat) : Bool := (List.range k).any fun a => decide (a ∈ K) && R a i
theorem anyT_next (R : Nat → Nat → Bool) (K : List Nat) (i k : Nat) : anyT R K i (k + 1) = (anyT R K i k || (decide (k ∈ K) && R k i)) := by
  simp [anyT, List.range_succ, List.any_append]
theorem anyT_all {R : Nat → Nat → Bool} {K : List Nat} {i n : Nat} (h : ∀ k ∈ K, k < n) : anyT R K i n = K.any fun k => R k i := by
  rw [Bool.eq_iff_iff, anyT, List.any_eq_true, List.any_eq_true]
  constructor
  · rintro ⟨a, _, ha⟩
    rw [Bool.and_eq_true, decide_eq_true_eq] at ha
    exact ⟨a, ha⟩
  · rintro ⟨a, ha, hn⟩
    exact ⟨a, List.mem_range.2 (h a ha), by rw [Bool.and_eq_true, decide_eq_true_eq]; exact ⟨ha, hn⟩⟩
theorem infoBoolG : (Tryz.prog.info? 4).map (fun i => (i.zero, i.size, i.bytes)) = some (some (.bool false), 1, 1) := by kernel_rfl
theorem ownLower2 {w : World} {B C n size : Nat} {e : TypeId} {x : Value} {xs : List Value} (h : w.ownsRow C e size x n xs) (hB : B ≤ C) : w.ownsRow B e size x n xs :=
  ⟨h.1, h.2.imp id (fun ⟨g, cap, cur, a, b, r⟩ => ⟨g, cap, cur, a, Nat.le_trans hB b, r⟩)⟩
theorem nodupLe {K : List Nat} {n : Nat} (h1 : K.Nodup) (h2 : ∀ k ∈ K, k < n) : K.length ≤ n := by
  have := (kept_perm h1 h2).length_eq
  rw [List.length_map] at this
  rw [this]
  exact kept_length K n
set_option maxRecDepth 100000 in
set_option maxHeartbeats 16000000 in
theorem sGreedyChoice_any (A : Option Addr) (n c : Nat) (l : List (Int × Int × Int)) (w : World) (hl : l.length = n) (hn : n ≤ 1048576) (hs : Sees w w.heap.size A (cells3 l)) :
    Calls Tryz.prog 11 #[.slice A n c] w (GivesS 2 1 (rGreedy l).1.length ((rGreedy l).1.map (Value.int .i64)) (rGreedy l).2 w) := by
  have HL := Lib.hid hl
  have LC := l09Code_any A n c l w hl hn hs
  by_cases h0 : ckL l = 0
  · obtain ⟨hn40, hok⟩ := ckL_zero h0
    replace hn40 : n ≤ 40 := by omega
    have HOK := Lib.hid hok
    rw [h0] at LC
    have Hv := Lib.hid (show rGreedy l = (kept (kG l) l.length, 0) by rw [rGreedy, if_pos h0])
    obtain ⟨i0, hi', hz0, hz1, hz2⟩ := info_parts infoI64
    obtain ⟨ib, hib, bz0, bz1, bz2⟩ := info_parts infoBoolG
    have hmk : ∀ W, (Instr.makeSlice 46 (.int .i64 (n : Int)) (.int .i64 (n : Int))).run Tryz.prog W = .ok (.slice (some ⟨W.heap.size, 0, none⟩) n n) (W.alloc (.cells (boolsG [] n).toArray 4)) := fun W => by
      have := makeRow (P := Tryz.prog) 46 4 ib _ Tryz.underlying46 hib bz0 n (by rw [bz2]; omega) (by omega) W
      rw [bz1, boolsG_none] at this
      exact this
    clear h0 hok hib bz0 bz1 bz2 hl
    go_enter Tryz.func11, Tryz.ntmps11
    go_wp2_with fail
    refine LC.mono ?_
    rintro e w1 ⟨rfl, B1⟩
    replace hs := (hs.over B1).wider B1.size
    have zB1 := B1.size
    clear LC
    go_wp2_with fail
    go_loopw [6] (fun a wr => ∃ m : Nat, a = .int .i64 (4 - (m : Int)) ∧ m ≤ 5 ∧ Full wr w1.heap.size 4 (boolsG (gAll (htA l) (hitA l) n m) n).toArray ∧ Below w1.heap.size w1 wr) (fun a _ => (intOf a + 1).toNat)
    case atStart => exact ⟨0, rfl, by omega, Full.made _ _ _, by repeat' (first | (with_reducible exact Below.refl _ _) | (with_reducible assumption) | (with_reducible refine Below.alloc ?_ ?_ _) | (with_reducible refine Below.drew ?_) | (with_reducible refine belowDraws ?_ _) | (with_reducible refine Below.setCell ?_ ?_ _) | omega | (simp; done) | (simp; omega))⟩
    case round =>
      obtain ⟨m, rfl, hm5, hF0, hB0⟩ := hrel
      obtain ⟨wo, rfl⟩ : ∃ W : World, W = wr := ⟨_, rfl⟩
      have hz0' := hB0.size
      by_cases hm : m < 5
      · have m0 : (0 : Int) ≤ 4 - (m : Int) := by omega
        have m48 : decide ((m : Int) ≤ 4) = true := decide_eq_true (by omega)
        go_wp2_with fail
        go_loopw [7] (fun a wr => ∃ i : Nat, a = .int .i64 i ∧ i ≤ n ∧ Full wr w1.heap.size 4 (boolsG (gRow (htA l) (hitA l) (4 - (m : Int)) (gAll (htA l) (hitA l) n m) i) n).toArray ∧ Below w1.heap.size w1 wr) (fun a _ => n - (intOf a).toNat)
        case atStart => exact ⟨0, rfl, Nat.zero_le _, hF0, hB0⟩
        case round =>
          clear hF0 hB0 hz0'
          obtain ⟨i, rfl, hi, hF, hB⟩ := hrel
          obtain ⟨wi, rfl⟩ : ∃ W : World, W = wr := ⟨_, rfl⟩
          have hzi := hB.size
          by_cases hlt0 : i < n
          · obtain ⟨tb, tof, rfl, htb, HTK⟩ := tickAll hs HL.out HOK.out (by omega)
            obtain ⟨_, _, c2'⟩ := HTK.out wi hB i hlt0
            have hti : tb < wi.heap.size := by omega
            have HKl := Lib.hid (show ∀ k ∈ gRow (htA l) (hitA l) (4 - (m : Int)) (gAll (htA l) (hitA l) n m) i, k < n by have h := rowG_lt (l := l) (m := m) (i := i) (by have := HL.out; omega); rw [HL.out] at h; exact h)
            obtain ⟨K, hK⟩ : ∃ K, gRow (htA l) (hitA l) (4 - (m : Int)) (gAll (htA l) (hitA l) n m) i = K := ⟨_, rfl⟩
            rw [hK] at hF HKl
            have HR := Lib.hid hK
            have HFb := Lib.hid (fun k (h : k < n) => (hF.at_ k).trans (boolsG_at (K := K) h))
            have hgw := hF.inside
            have HST := Lib.hid (show decide (htA l i = 4 - (m : Int)) = (decide (htA l i = 4 - (m : Int)) && !anyT (hitA l) K i 0) by simp [anyT])
            have i0'' : (0 : Int) ≤ (i : Int) := by omega
            have i1'' : (i : Int) < (n : Int) := by omega
            clear hK hs
            go_wp2_with fail
            go_loopw [8, 9] (fun a b wr => ∃ (k : Nat) (S : Bool), a = .bool S ∧ b = .int .i64 k ∧ k ≤ n ∧ Hid (S = (decide (htA l i = 4 - (m : Int)) && !anyT (hitA l) K i k)) ∧ Full wr w1.heap.size 4 (boolsG K n).toArray ∧ Below w1.heap.size w1 wr) (fun a b _ => n - (intOf b).toNat)
            case atStart => exact ⟨0, _, rfl, rfl, Nat.zero_le _, HST, hF, hB⟩
            case round =>
              clear hF hB HFb hgw hzi
              obtain ⟨k, S, rfl, rfl, hk, HS, hFj, hBj⟩ := hrel
              obtain ⟨wj, rfl⟩ : ∃ W : World, W = wr := ⟨_, rfl⟩
              have hzj := hBj.size
              have hgj := hFj.inside
              by_cases hlt : k < n
              · have k0 : (0 : Int) ≤ (k : Int) := by omega
                have k1 : (k : Int) < (n : Int) := by omega
                have HNX := Lib.hid (anyT_next (hitA l) K i k)
                cases S with
                | false =>
                  have HQ := Lib.hid (show false = (decide (htA l i = 4 - (m : Int)) && !anyT (hitA l) K i (k + 1)) by rw [HNX.out, Bool.not_or, ← Bool.and_assoc, ← HS.out]; rfl)
                  clear HS HNX
                  go_wp2_with fail
                  go_quiet (fail)
                  go_wp2_with fail
                  go_roundw
                  case rel => exact ⟨k + 1, false, rfl, by go_num, by omega, HQ, hFj, belowDraws hBj _⟩
                  case measure => simp [intOf]; omega
                | true =>
                  have hb := Lib.hid ((hFj.at_ k).trans (boolsG_at (K := K) hlt))
                  by_cases hm : k ∈ K
                  · have c9 : wj.cell? ⟨w1.heap.size, k, none⟩ = some (.bool true) := hb.out.trans (by rw [decide_eq_true hm])
                    have HbK := Lib.hid (show (boolsG K n).toArray[k]? = some (.bool true) by rw [boolsG_at hlt, decide_eq_true hm])
                    obtain ⟨t0, t1, t2⟩ := HTK.out wj hBj i hlt0
                    obtain ⟨u0, u1, u2⟩ := HTK.out wj hBj k hlt
                    obtain ⟨_, p1, p2, p3, p4, p5, p6⟩ := tk_facts HL.out HOK.out hlt0
                    obtain ⟨_, r1, r2, r3, r4, r5, r6⟩ := tk_facts HL.out HOK.out hlt
                    have CO := fun W => l09Collide_any (mkA l i) (plA l i) (htA l i) (mkA l k) (plA l k) (htA l k) W (by omega) p2 p3 p4 (by omega) r2 r3 r4
                    rw [show hitB (mkA l i) (plA l i) (mkA l k) (plA l k) = hitA l k i from hitA_sym l i k] at CO
                    have htj : tb < wj.heap.size := by omega
                    have hbK := HbK.out
                    replace hbK := Lib.hid hbK
                    clear hb
                    by_cases hh : hitA l k i = true
                    · have HQ := Lib.hid (show false = (decide (htA l i = 4 - (m : Int)) && !anyT (hitA l) K i (k + 1)) by rw [HNX.out, Bool.not_or, ← Bool.and_assoc, ← HS.out, decide_eq_true hm, hh]; rfl)
                      rw [hh] at CO
                      clear HS HNX hm hh
                      go_wp2_with fail
                      go_region_held3 (fun w' => w'.cell? ⟨w1.heap.size, k, none⟩ = some (.bool true) ∧ w'.cell? ⟨tb, tof + i * 3, none⟩ = some (.int .i64 (mkA l i : Int)) ∧ w'.cell? ⟨tb, tof + i * 3 + 1, none⟩ = some (.int .i64 (plA l i)) ∧ w'.cell? ⟨tb, tof + i * 3 + 2, none⟩ = some (.int .i64 (htA l i)) ∧ w'.cell? ⟨tb, tof + k * 3, none⟩ = some (.int .i64 (mkA l k : Int)) ∧ w'.cell? ⟨tb, tof + k * 3 + 1, none⟩ = some (.int .i64 (plA l k)) ∧ w'.cell? ⟨tb, tof + k * 3 + 2, none⟩ = some (.int .i64 (htA l k))) (go_keep) (first | (go_at_call 31; (with_reducible refine (CO _).mono ?_); rintro e w2 ⟨rfl, hb2⟩; have hB2 : Below wj.heap.size wj w2 := Below.trans (by repeat' (first | exact Below.refl _ _ | assumption | refine Below.alloc ?_ (by first | omega | (simp; done) | (simp; omega)) _ | refine Below.drew ?_ | refine Below.setCell ?_ (by first | omega | (simp; done) | (simp; omega)) _)) (hb2.mono (by first | omega | (simp; done) | (simp; omega))); have hF2 := hFj.over hB2 hgj; have hW2 := hBj.trans (hB2.mono hzj); have z2 := hW2.size; have s1 := HTK.out w2 hW2 i hlt0; have s2 := HTK.out w2 hW2 k hlt; obtain ⟨s3, s4, s5⟩ := s1; obtain ⟨s6, s7, s8⟩ := s2; have s9 := (hF2.at_ k).trans hbK.out; clear hb2))
                      go_wp2_with fail
                      go_roundw
                      case rel => exact ⟨k + 1, false, rfl, by go_num, by omega, HQ, hF2, hW2⟩
                      case measure => simp [intOf]; omega
                    · have hh2 : hitA l k i = false := by simpa using hh
                      have HQ := Lib.hid (show true = (decide (htA l i = 4 - (m : Int)) && !anyT (hitA l) K i (k + 1)) by rw [HNX.out, Bool.not_or, ← Bool.and_assoc, ← HS.out, decide_eq_true hm, hh2]; rfl)
                      rw [hh2] at CO
                      clear HS HNX hm hh hh2
                      go_wp2_with fail
                      go_region_held3 (fun w' => w'.cell? ⟨w1.heap.size, k, none⟩ = some (.bool true) ∧ w'.cell? ⟨tb, tof + i * 3, none⟩ = some (.int .i64 (mkA l i : Int)) ∧ w'.cell? ⟨tb, tof + i * 3 + 1, none⟩ = some (.int .i64 (plA l i)) ∧ w'.cell? ⟨tb, tof + i * 3 + 2, none⟩ = some (.int .i64 (htA l i)) ∧ w'.cell? ⟨tb, tof + k * 3, none⟩ = some (.int .i64 (mkA l k : Int)) ∧ w'.cell? ⟨tb, tof + k * 3 + 1, none⟩ = some (.int .i64 (plA l k)) ∧ w'.cell? ⟨tb, tof + k * 3 + 2, none⟩ = some (.int .i64 (htA l k))) (go_keep) (first | (go_at_call 31; (with_reducible refine (CO _).mono ?_); rintro e w2 ⟨rfl, hb2⟩; have hB2 : Below wj.heap.size wj w2 := Below.trans (by repeat' (first | exact Below.refl _ _ | assumption | refine Below.alloc ?_ (by first | omega | (simp; done) | (simp; omega)) _ | refine Below.drew ?_ | refine Below.setCell ?_ (by first | omega | (simp; done) | (simp; omega)) _)) (hb2.mono (by first | omega | (simp; done) | (simp; omega))); have hF2 := hFj.over hB2 hgj; have hW2 := hBj.trans (hB2.mono hzj); have z2 := hW2.size; have s1 := HTK.out w2 hW2 i hlt0; have s2 := HTK.out w2 hW2 k hlt; obtain ⟨s3, s4, s5⟩ := s1; obtain ⟨s6, s7, s8⟩ := s2; have s9 := (hF2.at_ k).trans hbK.out; clear hb2))
                      go_wp2_with fail
                      go_roundw
                      case rel => exact ⟨k + 1, true, rfl, by go_num, by omega, HQ, hF2, hW2⟩
                      case measure => simp [intOf]; omega
                  · have c9 : wj.cell? ⟨w1.heap.size, k, none⟩ = some (.bool false) := hb.out.trans (by rw [decide_eq_false hm])
                    have HQ := Lib.hid (show true = (decide (htA l i = 4 - (m : Int)) && !anyT (hitA l) K i (k + 1)) by rw [HNX.out, Bool.not_or, ← Bool.and_assoc, ← HS.out, decide_eq_false hm]; rfl)
                    clear HS HNX hb hm
                    go_wp2_with fail
                    go_quiet (fail)
                    go_wp2_with fail
                    go_roundw
                    case rel => exact ⟨k + 1, true, rfl, by go_num, by omega, HQ, hFj, belowDraws hBj _⟩
                    case measure => simp [intOf]; omega
              · have HKE := Lib.hid (show k = n by omega)
                have hke : ¬ (k : Int) < (n : Int) := by omega
                have HA := Lib.hid (anyT_all (R := hitA l) (i := i) HKl.out)
                cases S with
                | true =>
                  have hh : (htA l i = 4 - (m : Int)) ∧ (K.any fun k => hitA l k i) = false := by
                    have h := HS.out
                    rw [HKE.out, HA.out] at h
                    have h2 := (Bool.and_eq_true _ _).mp h.symm
                    exact ⟨of_decide_eq_true h2.1, by simpa using h2.2⟩
                  have HG := Lib.hid (gStep_yes (R := hitA l) hh.1 hh.2)
                  have HP := Lib.hid (boolsG_put (K := K) (n := n) (i := i) hlt0)
                  have c8 := hFj.at_ i
                  have f8 := hFj.free i
                  have HF := Lib.hid hFj
                  rw [boolsG_at hlt0] at c8
                  clear HS HA hh hFj
                  go_wp2_with fail
                  go_roundw
                  case rel =>
                    refine ⟨i + 1, by go_num, by omega, ?_, by repeat' (first | (with_reducible exact Below.refl _ _) | (with_reducible assumption) | (with_reducible refine Below.alloc ?_ ?_ _) | (with_reducible refine Below.drew ?_) | (with_reducible refine belowDraws ?_ _) | (with_reducible refine Below.setCell ?_ ?_ _) | omega | (simp; done) | (simp; omega))⟩
                    have h := HF.out.put i (.bool true)
                    rw [HP.out] at h
                    rw [gRow, HR.out, HG.out]
                    exact h
                  case measure => simp [intOf]; omega
                | false =>
                  have hh : ¬ ((htA l i = 4 - (m : Int)) ∧ (K.any fun k => hitA l k i) = false) := by
                    rintro ⟨h1, h2⟩
                    have h := HS.out
                    rw [HKE.out, HA.out, decide_eq_true h1, h2] at h
                    cases h
                  have HG := Lib.hid (gStep_no (ht := htA l) (R := hitA l) hh)
                  have HF := Lib.hid hFj
                  clear HS HA hh hFj
                  go_wp2_with fail
                  go_roundw
                  case rel =>
                    refine ⟨i + 1, by go_num, by omega, ?_, by repeat' (first | (with_reducible exact Below.refl _ _) | (with_reducible assumption) | (with_reducible refine Below.alloc ?_ ?_ _) | (with_reducible refine Below.drew ?_) | (with_reducible refine belowDraws ?_ _) | (with_reducible refine Below.setCell ?_ ?_ _) | omega | (simp; done) | (simp; omega))⟩
                    rw [gRow, HR.out, HG.out]
                    exact HF.out
                  case measure => simp [intOf]; omega
          · obtain rfl : i = n := by omega
            go_wp2_with fail
            go_roundw
            case rel => exact ⟨m + 1, by go_num, by omega, hF, hB⟩
            case measure => simp [intOf]; omega
      · have HM5 := Lib.hid (show m = 5 by omega)
        rw [HM5.out] at hF0
        have hgw := hF0.inside
        obtain ⟨K, hK⟩ : ∃ K, gAll (htA l) (hitA l) n 5 = K := ⟨_, rfl⟩
        rw [hK] at hF0
        have Hv2 := Lib.hid (show rGreedy l = (kept K n, 0) by rw [Hv.out, kG, HL.out, hK])
        clear hK Hv hs
        go_wp2_with fail
        go_loopw [10, 11] (fun v b wr => ∃ k : Nat, b = .int .i64 k ∧ k ≤ n ∧ wr.ownsRow (w1.heap.size + 1) 2 1 v (kept K k).length ((kept K k).map (Value.int .i64)) ∧ some w1.heap.size ≠ v.ownBlock ∧ Full wr w1.heap.size 4 (boolsG K n).toArray ∧ Below w1.heap.size w1 wr) (fun v b _ => n - (intOf b).toNat)
        case atStart => exact ⟨0, rfl, Nat.zero_le _, World.ownsRow_made (base := w1.heap.size + 1) (e := 2) (size := 1) wo #[] 0 (by omega) (Nat.zero_le _) rfl, (by simp [Value.ownBlock]; omega), hF0.block _, by repeat' (first | (with_reducible exact Below.refl _ _) | (with_reducible assumption) | (with_reducible refine Below.alloc ?_ ?_ _) | (with_reducible refine Below.drew ?_) | (with_reducible refine belowDraws ?_ _) | (with_reducible refine Below.setCell ?_ ?_ _) | omega | (simp; done) | (simp; omega))⟩
        case round =>
          obtain ⟨k, rfl, hk, hown2, hne, hFr, hBr⟩ := hrel
          obtain ⟨wq, rfl⟩ : ∃ W : World, W = wr := ⟨_, rfl⟩
          have hzq := hBr.size
          have hgq := hFr.inside
          by_cases hlt : k < n
          · have c0 := (hFr.at_ k).trans (boolsG_at (K := K) hlt)
            have hll : (kept K k).length ≤ 150 := Nat.le_trans (kept_length _ _) (by omega)
            have j0 : (0 : Int) ≤ (k : Int) := by omega
            have j1 : (k : Int) < (n : Int) := by omega
            have HFr := Lib.hid hFr
            have HN := Lib.hid (kept_next (K := K) (k := k))
            clear hFr hF0
            by_cases hm : k ∈ K
            · have HY := Lib.hid (HN.out.trans (if_pos hm))
              rw [decide_eq_true hm] at c0
              go_wp2_with (at_builtin; refine wpList_append_own_at _ rfl _ _ 26 rfl (w1.heap.size + 1) 2 i0 (.int .i64 0) 1 8 Tryz.underlying26 hi' hz0 hz1 hz2 rfl (by decide) _ _ _ rfl (hown2.alloc _) ⟨wq.heap.size, 0, none⟩ 1 1 [.int .i64 (k : Int)] rfl rfl ?_ ?_ ?_ ?_ ?_ ?_; exact cell_one_new _ _ _; (intro u hu; simp at hu; subst hu; rfl); (unfold maxLen; omega); omega; (simp; omega); intro v' w4 hown1 hgr1 _ hat1)
              go_roundw
              case rel =>
                refine ⟨k + 1, by go_num, by omega, ?_, ?_, Full.grow (HFr.out.block _) hgr1 hne, (hBr.alloc hzq (.cells #[.int .i64 (k : Int)] 2)).grown hgr1 (by simp; omega) (fun j hj => by have := (hown2.lt j hj).1; omega)⟩
                · rw [HY.out, List.map_append, List.length_append]
                  exact hown1
                · rcases hat1 with e | e
                  · rw [e]; exact hne
                  · rw [e]; intro e2; injection e2 with e2; simp at e2; omega
              case measure => simp [intOf]; omega
            · have HY := Lib.hid (HN.out.trans (if_neg hm))
              rw [decide_eq_false hm] at c0
              go_wp2_with fail
              go_roundw
              case rel => exact ⟨k + 1, by go_num, by omega, by rw [HY.out]; exact hown2, hne, HFr.out, hBr⟩
              case measure => simp [intOf]; omega
          · obtain rfl : k = n := by omega
            go_wp2_with fail
            go_ret2
            rw [Hv2.out]
            exact ⟨_, rfl, ownLower2 hown2 (Nat.le_trans B1.size (by omega)), B1.trans (hBr.mono B1.size)⟩
  · have Hv := Lib.hid (show rGreedy l = ([], ckL l) by rw [rGreedy, if_neg h0])
    generalize ckL l = ck at *
    have t1 : (ck != 0) = true := by simpa using h0
    clear h0 hs hl
    go_enter Tryz.func11, Tryz.ntmps11
    go_wp2_with fail
    refine LC.mono ?_
    rintro e w1 ⟨rfl, B1⟩
    go_wp2_with fail
    go_ret2
    rw [Hv.out]
    exact ⟨_, rfl, World.ownsRow_nil _ _ _ _, B1⟩
end Go.Proofs.YtpbhncgjnmaojaaGreatDoor
