/- KeepApart: the reference's walk (layer 8). No condition. -/
import Derived.Test.YtkblmcpklpmobaaKeep
import Derived.Test.YtkblmcpklpmobaaTk3
import Derived.Test.YtkblmcpklpmobaaOwn
import Derived.Test.YtkblmcpklpmobaaMo
namespace Go.Proofs.Ytkblmcpklpmobaa
open Go.RowKit
set_option linter.unusedVariables false
set_option linter.unusedSimpArgs false

/-- heights, and which ticks are near -/
def hgt (l : List (Int × Int × Int)) (i : Nat) : Int := (l.getD i (0, 0, 0)).2.2
theorem hgt_at {l : List (Int × Int × Int)} {i : Nat} {p : Int × Int × Int} (h : l[i]? = some p) : hgt l i = p.2.2 := by
  simp [hgt, List.getD, h]
def nearB (l : List (Int × Int × Int)) (d : Int) (a b : Nat) : Bool := decide (max (plc l a - plc l b) (-(plc l a - plc l b)) < d)
theorem nearB_sym (l : List (Int × Int × Int)) (d : Int) (a b : Nat) : nearB l d a b = nearB l d b a := by
  unfold nearB
  rw [show max (plc l a - plc l b) (-(plc l a - plc l b)) = max (plc l b - plc l a) (-(plc l b - plc l a)) by omega]
def okH (p : Int × Int × Int) : Bool := inB p.2.2 0 4
def heightsV (l : List (Int × Int × Int)) : Bool := l.all okH
def kK (l : List (Int × Int × Int)) (d : Int) : List Nat := gAll (hgt l) (nearB l d) l.length 5
def rKeep (l : List (Int × Int × Int)) (d : Int) : List Int × Int := if ckT l [] = 0 then (if (inB d 0 100000 && heightsV l) = true then (kept (kK l d) l.length, 0) else ([], 2)) else ([], ckT l [])
theorem rKeep_len (l : List (Int × Int × Int)) (d : Int) : (rKeep l d).1.length ≤ 1000 := by
  unfold rKeep
  split
  · rename_i h
    have := (ckT_zero h).1
    split
    · have := kept_length (kK l d) l.length
      simp only
      omega
    · simp
  · simp
theorem kK_inv (l : List (Int × Int × Int)) (d : Int) (m : Nat) : GInv (hgt l) (nearB l d) l.length (4 - (m : Int)) 0 (gAll (hgt l) (nearB l d) l.length m) := gAll_inv (nearB_sym l d) m
theorem row_lt {l : List (Int × Int × Int)} {d : Int} {m i : Nat} (hi : i ≤ l.length) : ∀ k ∈ gRow (hgt l) (nearB l d) (4 - (m : Int)) (gAll (hgt l) (nearB l d) l.length m) i, k < l.length :=
  fun k hk => ((gRow_inv (nearB_sym l d) (kK_inv l d m) i hi).2.1 k hk).1
/-- a slice of marks: which numbers are kept -/
def bools (K : List Nat) (n : Nat) : List Value := (List.range n).map fun k => Value.bool (decide (k ∈ K))
theorem bools_at {K : List Nat} {n k : Nat} (h : k < n) : (bools K n).toArray[k]? = some (.bool (decide (k ∈ K))) := by
  simp [bools, h]
theorem bools_put {K : List Nat} {n i : Nat} (h : i < n) : (bools K n).toArray.setIfInBounds i (.bool true) = (bools (K ++ [i]) n).toArray := by
  apply Array.ext_getElem?
  intro j
  rw [Array.getElem?_setIfInBounds]
  by_cases e : i = j
  · subst e
    rw [if_pos rfl, if_pos (by simp [bools]; exact h), bools_at h]
    simp
  · rw [if_neg e]
    by_cases hj : j < n
    · rw [bools_at hj, bools_at hj]
      have : (j ∈ K ++ [i]) ↔ j ∈ K := by simp; omega
      simp [this]
    · rw [Array.getElem?_eq_none (by simp [bools]; omega), Array.getElem?_eq_none (by simp [bools]; omega)]
theorem bools_none (n : Nat) : madeCells (Value.bool false).cells (n * 1) = (bools [] n).toArray := by
  apply Array.toList_inj.1
  rw [Nat.mul_one]
  show (madeCells #[Value.bool false] n).toList = _
  rw [toList_madeCells_one]
  simp [bools, List.map_const']
/-- whether a kept one of the first k is near -/
def anyTo (l : List (Int × Int × Int)) (d : Int) (K : List Nat) (i k : Nat) : Bool := (List.range k).any fun a => decide (a ∈ K) && nearB l d a i
theorem anyTo_next (l : List (Int × Int × Int)) (d : Int) (K : List Nat) (i k : Nat) : anyTo l d K i (k + 1) = (anyTo l d K i k || (decide (k ∈ K) && nearB l d k i)) := by
  simp [anyTo, List.range_succ, List.any_append]
theorem anyTo_all {l : List (Int × Int × Int)} {d : Int} {K : List Nat} {i n : Nat} (h : ∀ k ∈ K, k < n) : anyTo l d K i n = K.any fun k => nearB l d k i := by
  rw [Bool.eq_iff_iff, anyTo, List.any_eq_true, List.any_eq_true]
  constructor
  · rintro ⟨a, _, ha⟩
    rw [Bool.and_eq_true, decide_eq_true_eq] at ha
    exact ⟨a, ha⟩
  · rintro ⟨a, ha, hn⟩
    exact ⟨a, List.mem_range.2 (h a ha), by rw [Bool.and_eq_true, decide_eq_true_eq]; exact ⟨ha, hn⟩⟩
theorem infoBool : (Try.prog.info? 4).map (fun i => (i.zero, i.size, i.bytes)) = some (some (.bool false), 1, 1) := by kernel_rfl
theorem ownLess {w : World} {B C n size : Nat} {e : TypeId} {x : Value} {xs : List Value} (h : w.ownsRow C e size x n xs) (hB : B ≤ C) : w.ownsRow B e size x n xs :=
  ⟨h.1, h.2.imp id (fun ⟨g, cap, cur, a, b, r⟩ => ⟨g, cap, cur, a, Nat.le_trans hB b, r⟩)⟩
set_option maxRecDepth 100000 in
set_option maxHeartbeats 8000000 in
theorem sKeepApart_any (A : Option Addr) (n c : Nat) (l : List (Int × Int × Int)) (d : Int) (w : World) (hl : l.length = n) (hn : n ≤ 1048576) (hs : Sees w w.heap.size A (cells3 l)) :
    Calls Try.prog 35 #[.slice A n c, .int .i64 d] w (GivesS 2 1 (rKeep l d).1.length ((rKeep l d).1.map (Value.int .i64)) (rKeep l d).2 w) := by
  have Hl := Lib.hid hl
  have LC := l08Code_any A n c l w.heap.size w hl hn hs
  by_cases h0 : ckT l [] = 0
  · obtain ⟨hle, _, hpl⟩ := ckT_zero h0
    have Hpl := Lib.hid hpl
    rw [h0] at LC
    have H0 := Lib.hid h0
    clear hpl h0
    have ID := fun W => l01In_any d 0 100000 W
    by_cases hh : heightsV l = true
    · have HH := Lib.hid (fun p (hp : p ∈ l) => show okH p = true from List.all_eq_true.1 hh p hp)
      by_cases hd : inB d 0 100000 = true
      · rw [hd] at ID
        have Hv := Lib.hid (show rKeep l d = (kept (kK l d) l.length, 0) by rw [rKeep, if_pos H0.out, hd, hh]; rfl)
        obtain ⟨i0, hi', hz0, hz1, hz2⟩ := info_parts infoI64
        obtain ⟨ib, hib, bz0, bz1, bz2⟩ := info_parts infoBool
        have hmk : ∀ W, (Instr.makeSlice 90 (.int .i64 (n : Int)) (.int .i64 (n : Int))).run Try.prog W = .ok (.slice (some ⟨W.heap.size, 0, none⟩) n n) (W.alloc (.cells (bools [] n).toArray 4)) := fun W => by
          have := makeRow (P := Try.prog) 90 4 ib _ Try.underlying90 hib bz0 n (by rw [bz2]; omega) (by omega) W
          rw [bz1, bools_none] at this
          exact this
        clear hh hd H0
        go_enter Try.func35, Try.ntmps35
        go_wp2_with (go_at_call 75; (with_reducible refine (LC).mono ?_); rintro e w' ⟨rfl, rfl⟩)
        go_loopw [6, 7] (fun a b wr => ∃ k : Nat, a = .int .i64 0 ∧ b = .int .i64 k ∧ k ≤ n ∧ w = wr) (fun _ b _ => n - (intOf b).toNat)
        case atStart => exact ⟨0, rfl, rfl, Nat.zero_le _, (by first | rfl | trivial)⟩
        case round =>
          obtain ⟨k, rfl, rfl, hk, rfl⟩ := hrel
          by_cases hlt : k < n
          · obtain ⟨tb, tof, p, rfl, htb, hp, c0, c1, c2⟩ := hs.three (k := k) (by omega)
            have IN := fun W => l01In_any p.2.2 0 4 W
            rw [show inB p.2.2 0 4 = true from HH.out p (List.mem_of_getElem? hp)] at IN
            have k0 : (0 : Int) ≤ (k : Int) := by omega
            have k1 : (k : Int) < (n : Int) := by omega
            clear hp c0 c1 hs
            go_wp2_with (go_at_call 68; (with_reducible refine (IN _).mono ?_); rintro e w' ⟨rfl, rfl⟩)
            go_roundw
            case rel => exact ⟨k + 1, rfl, by go_num, by omega, (by first | rfl | trivial)⟩
            case measure => simp [intOf]; omega
          · obtain rfl : n = k := by omega
            clear HH LC
            go_wp2_with (go_at_call 68; (with_reducible refine (ID _).mono ?_); rintro e w' ⟨rfl, rfl⟩)
            go_loopw [9] (fun a wr => ∃ m : Nat, a = .int .i64 (4 - (m : Int)) ∧ m ≤ 5 ∧ Full wr w.heap.size 4 (bools (gAll (hgt l) (nearB l d) n m) n).toArray ∧ Below w.heap.size w wr) (fun a _ => (intOf a + 1).toNat)
            case atStart => exact ⟨0, rfl, by omega, Full.made _ _ _, by repeat' (first | (with_reducible exact Below.refl _ _) | (with_reducible assumption) | (with_reducible refine Below.alloc ?_ ?_ _) | (with_reducible refine Below.drew ?_) | (with_reducible refine belowDraws ?_ _) | (with_reducible refine Below.setCell ?_ ?_ _) | omega | (simp; done) | (simp; omega))⟩
            case round =>
              obtain ⟨m, rfl, hm5, hF0, hB0⟩ := hrel
              obtain ⟨wo, rfl⟩ : ∃ W : World, W = wr := ⟨_, rfl⟩
              have hz0' := hB0.size
              by_cases hm : m < 5
              · have m0 : (0 : Int) ≤ 4 - (m : Int) := by omega
                have m48 : decide ((m : Int) ≤ 4) = true := decide_eq_true (by omega)
                go_wp2_with fail
                go_loopw [10] (fun a wr => ∃ i : Nat, a = .int .i64 i ∧ i ≤ n ∧ Full wr w.heap.size 4 (bools (gRow (hgt l) (nearB l d) (4 - (m : Int)) (gAll (hgt l) (nearB l d) n m) i) n).toArray ∧ Below w.heap.size w wr) (fun a _ => n - (intOf a).toNat)
                case atStart => exact ⟨0, rfl, Nat.zero_le _, hF0, hB0⟩
                case round =>
                  clear hF0 hB0 hz0'
                  obtain ⟨i, rfl, hi, hF, hB⟩ := hrel
                  obtain ⟨wi, rfl⟩ : ∃ W : World, W = wr := ⟨_, rfl⟩
                  have hzi := hB.size
                  by_cases hlt0 : i < n
                  · obtain ⟨tb, tof, p, rfl, htb, hp, c0, c1, c2⟩ := hs.three (k := i) (by omega)
                    have c1' := (hB.cell (p := ⟨tb, tof + i * 3 + 1, none⟩) htb).trans c1
                    have c2' := (hB.cell (p := ⟨tb, tof + i * 3 + 2, none⟩) htb).trans c2
                    have hpv := Hpl.out p (List.mem_of_getElem? hp)
                    have Hp := Lib.hid hp
                    have HKl := Lib.hid (show ∀ k ∈ gRow (hgt l) (nearB l d) (4 - (m : Int)) (gAll (hgt l) (nearB l d) n m) i, k < n by have h := row_lt (l := l) (d := d) (m := m) (i := i) (by omega); rw [Hl.out] at h; exact h)
                    obtain ⟨K, hK⟩ : ∃ K, gRow (hgt l) (nearB l d) (4 - (m : Int)) (gAll (hgt l) (nearB l d) n m) i = K := ⟨_, rfl⟩
                    rw [hK] at hF HKl
                    have HR := Lib.hid hK
                    have HFb := Lib.hid (fun k (h : k < n) => (hF.at_ k).trans (bools_at (K := K) h))
                    have hgw := hF.inside
                    have HST := Lib.hid (show decide (p.2.2 = 4 - (m : Int)) = (decide (hgt l i = 4 - (m : Int)) && !anyTo l d K i 0) by rw [hgt_at hp]; simp [anyTo])
                    have i0'' : (0 : Int) ≤ (i : Int) := by omega
                    have i1'' : (i : Int) < (n : Int) := by omega
                    clear hK hp c0 c1 c2
                    go_wp2_with fail
                    go_loopw [11, 12] (fun a b wr => ∃ (k q : Nat) (S : Bool), a = .bool S ∧ b = .int .i64 k ∧ k ≤ n ∧ S = (decide (hgt l i = 4 - (m : Int)) && !anyTo l d K i k) ∧ wr = wi.drewN q) (fun a b _ => n - (intOf b).toNat)
                    case atStart => exact ⟨0, 0, _, rfl, rfl, Nat.zero_le _, HST.out, rfl⟩
                    case round =>
                      obtain ⟨k, q, S, rfl, rfl, hk, hS, hW⟩ := hrel
                      obtain ⟨wj, rfl⟩ : ∃ W : World, W = wr := ⟨_, rfl⟩
                      have HS := Lib.hid hS
                      have HW := Lib.hid hW
                      clear hS hW
                      by_cases hlt : k < n
                      · have k0 : (0 : Int) ≤ (k : Int) := by omega
                        have k1 : (k : Int) < (n : Int) := by omega
                        have HN := Lib.hid (anyTo_next l d K i k)
                        cases S with
                        | false =>
                          have HQ := Lib.hid (show false = (decide (hgt l i = 4 - (m : Int)) && !anyTo l d K i (k + 1)) by rw [HN.out, Bool.not_or, ← Bool.and_assoc, ← HS.out]; rfl)
                          clear HS HN
                          go_wp2_with fail
                          go_quiet (fail)
                          skip
                          go_wp2_with fail
                          go_roundw
                          case rel => exact ⟨k + 1, q + nq, _, rfl, by go_num, by omega, HQ.out, by rw [HW.out, World.drewN_drewN]⟩
                          case measure => simp [intOf]; omega
                        | true =>
                          have hb := Lib.hid (HFb.out k hlt)
                          by_cases hm : k ∈ K
                          · have c9 : wj.cell? ⟨w.heap.size, k, none⟩ = some (.bool true) := by rw [HW.out]; exact hb.out.trans (by rw [decide_eq_true hm])
                            obtain ⟨tb2, tof2, p2, hA, hb2, hp2, d0, d1, d2⟩ := hs.three (k := k) (by omega)
                            injection hA with hA
                            injection hA with hA1 hA2
                            subst hA1 hA2
                            have d1' : wj.cell? ⟨tb, tof + k * 3 + 1, none⟩ = some (.int .i64 p2.2.1) := by rw [HW.out]; exact (hB.cell (p := ⟨tb, tof + k * 3 + 1, none⟩) htb).trans d1
                            have b1' : wj.cell? ⟨tb, tof + i * 3 + 1, none⟩ = some (.int .i64 p.2.1) := by rw [HW.out]; exact c1'
                            have hp2v := Hpl.out p2 (List.mem_of_getElem? hp2)
                            have AB := fun W => l01Abs_any (p2.2.1 - p.2.1) W (by omega) (by omega)
                            have e1 : IntKind.i64.wrap (p2.2.1 - p.2.1) = p2.2.1 - p.2.1 := IntWalk.i64_in _ (by omega)
                            have HNB := Lib.hid (show nearB l d k i = decide (max (p2.2.1 - p.2.1) (-(p2.2.1 - p.2.1)) < d) by rw [nearB, plc_at hp2, plc_at Hp.out])
                            by_cases hnear : max (p2.2.1 - p.2.1) (-(p2.2.1 - p.2.1)) < d
                            · have hd' : decide (max (p2.2.1 - p.2.1) (-(p2.2.1 - p.2.1)) < d) = true := decide_eq_true hnear
                              have HQ := Lib.hid (show false = (decide (hgt l i = 4 - (m : Int)) && !anyTo l d K i (k + 1)) by rw [HN.out, Bool.not_or, ← Bool.and_assoc, ← HS.out, decide_eq_true hm, HNB.out, hd']; rfl)
                              clear HS HN HNB hp2 hb d0 d1 d2 hm
                              go_wp2_with fail
                              go_quiet ((go_at_call 71; exact quietSame (AB _)))
                              clear e1
                              go_wp2_with fail
                              go_roundw
                              case rel => exact ⟨k + 1, q + nq, _, rfl, by go_num, by omega, HQ.out, by rw [HW.out, World.drewN_drewN]⟩
                              case measure => simp [intOf]; omega
                            · have hd' : decide (max (p2.2.1 - p.2.1) (-(p2.2.1 - p.2.1)) < d) = false := decide_eq_false hnear
                              have HQ := Lib.hid (show true = (decide (hgt l i = 4 - (m : Int)) && !anyTo l d K i (k + 1)) by rw [HN.out, Bool.not_or, ← Bool.and_assoc, ← HS.out, decide_eq_true hm, HNB.out, hd']; rfl)
                              clear HS HN HNB hp2 hb d0 d1 d2 hm
                              go_wp2_with fail
                              go_quiet ((go_at_call 71; exact quietSame (AB _)))
                              clear e1
                              go_wp2_with fail
                              go_roundw
                              case rel => exact ⟨k + 1, q + nq, _, rfl, by go_num, by omega, HQ.out, by rw [HW.out, World.drewN_drewN]⟩
                              case measure => simp [intOf]; omega
                          · have c9 : wj.cell? ⟨w.heap.size, k, none⟩ = some (.bool false) := by rw [HW.out]; exact hb.out.trans (by rw [decide_eq_false hm])
                            have HQ := Lib.hid (show true = (decide (hgt l i = 4 - (m : Int)) && !anyTo l d K i (k + 1)) by rw [HN.out, Bool.not_or, ← Bool.and_assoc, ← HS.out, decide_eq_false hm]; rfl)
                            clear HS HN hb hm
                            go_wp2_with fail
                            go_quiet (fail)
                            skip
                            go_wp2_with fail
                            go_roundw
                            case rel => exact ⟨k + 1, q + nq, _, rfl, by go_num, by omega, HQ.out, by rw [HW.out, World.drewN_drewN]⟩
                            case measure => simp [intOf]; omega
                      · obtain rfl : k = n := by omega
                        obtain rfl := HW.out
                        have HA := Lib.hid (anyTo_all (l := l) (d := d) (i := i) HKl.out)
                        cases S with
                        | true =>
                          have hh : (hgt l i = 4 - (m : Int)) ∧ (K.any fun k => nearB l d k i) = false := by
                            have h := HS.out
                            rw [HA.out] at h
                            have h2 := (Bool.and_eq_true _ _).mp h.symm
                            exact ⟨of_decide_eq_true h2.1, by simpa using h2.2⟩
                          have HG := Lib.hid (gStep_yes (R := nearB l d) hh.1 hh.2)
                          have HP := Lib.hid (bools_put (K := K) (n := k) (i := i) hlt0)
                          have c8 := hF.at_ i
                          have f8 := hF.free i
                          have HF := Lib.hid hF
                          rw [bools_at hlt0] at c8
                          clear HS HA hh hF
                          go_wp2_with fail
                          go_roundw
                          case rel =>
                            refine ⟨i + 1, by go_num, by omega, ?_, by repeat' (first | (with_reducible exact Below.refl _ _) | (with_reducible assumption) | (with_reducible refine Below.alloc ?_ ?_ _) | (with_reducible refine Below.drew ?_) | (with_reducible refine belowDraws ?_ _) | (with_reducible refine Below.setCell ?_ ?_ _) | omega | (simp; done) | (simp; omega))⟩
                            have h := HF.out.put i (.bool true)
                            rw [HP.out] at h
                            rw [gRow, HR.out, HG.out]
                            exact h
                          case measure => simp [intOf]; omega
                        | false =>
                          have hh : ¬ ((hgt l i = 4 - (m : Int)) ∧ (K.any fun k => nearB l d k i) = false) := by
                            rintro ⟨h1, h2⟩
                            have h := HS.out
                            rw [HA.out, decide_eq_true h1, h2] at h
                            cases h
                          have HG := Lib.hid (gStep_no (ht := hgt l) (R := nearB l d) hh)
                          have HF := Lib.hid hF
                          clear HS HA hh hF
                          go_wp2_with fail
                          go_roundw
                          case rel =>
                            refine ⟨i + 1, by go_num, by omega, ?_, by repeat' (first | (with_reducible exact Below.refl _ _) | (with_reducible assumption) | (with_reducible refine Below.alloc ?_ ?_ _) | (with_reducible refine Below.drew ?_) | (with_reducible refine belowDraws ?_ _) | (with_reducible refine Below.setCell ?_ ?_ _) | omega | (simp; done) | (simp; omega))⟩
                            rw [gRow, HR.out, HG.out]
                            exact HF.out
                          case measure => simp [intOf]; omega
                  · obtain rfl : i = n := by omega
                    go_wp2_with fail
                    go_roundw
                    case rel => exact ⟨m + 1, by go_num, by omega, hF, hB⟩
                    case measure => simp [intOf]; omega
              · have HM5 := Lib.hid (show m = 5 by omega)
                rw [HM5.out] at hF0
                have hgw := hF0.inside
                obtain ⟨K, hK⟩ : ∃ K, gAll (hgt l) (nearB l d) n 5 = K := ⟨_, rfl⟩
                rw [hK] at hF0
                have Hv2 := Lib.hid (show rKeep l d = (kept K n, 0) by rw [Hv.out, kK, Hl.out, hK])
                clear hK Hv
                go_wp2_with fail
                go_loopw [13, 14] (fun v b wr => ∃ k : Nat, b = .int .i64 k ∧ k ≤ n ∧ wr.ownsRow (w.heap.size + 1) 2 1 v (kept K k).length ((kept K k).map (Value.int .i64)) ∧ some w.heap.size ≠ v.ownBlock ∧ Full wr w.heap.size 4 (bools K n).toArray ∧ Below w.heap.size w wr) (fun v b _ => n - (intOf b).toNat)
                case atStart => exact ⟨0, rfl, Nat.zero_le _, World.ownsRow_made (base := w.heap.size + 1) (e := 2) (size := 1) wo #[] 0 (by omega) (Nat.zero_le _) rfl, (by simp [Value.ownBlock]; omega), hF0.block _, by repeat' (first | (with_reducible exact Below.refl _ _) | (with_reducible assumption) | (with_reducible refine Below.alloc ?_ ?_ _) | (with_reducible refine Below.drew ?_) | (with_reducible refine belowDraws ?_ _) | (with_reducible refine Below.setCell ?_ ?_ _) | omega | (simp; done) | (simp; omega))⟩
                case round =>
                  obtain ⟨k, rfl, hk, hown2, hne, hFr, hBr⟩ := hrel
                  obtain ⟨wq, rfl⟩ : ∃ W : World, W = wr := ⟨_, rfl⟩
                  have hzq := hBr.size
                  have hgq := hFr.inside
                  by_cases hlt : k < n
                  · have c0 := (hFr.at_ k).trans (bools_at (K := K) hlt)
                    have hll : (kept K k).length ≤ 150 := Nat.le_trans (kept_length _ _) (by omega)
                    have j0 : (0 : Int) ≤ (k : Int) := by omega
                    have j1 : (k : Int) < (n : Int) := by omega
                    have HFr := Lib.hid hFr
                    have HN := Lib.hid (kept_next (K := K) (k := k))
                    clear hFr hF0
                    by_cases hm : k ∈ K
                    · have HY := Lib.hid (HN.out.trans (if_pos hm))
                      rw [decide_eq_true hm] at c0
                      go_wp2_with (at_builtin; refine wpList_append_own_at _ rfl _ _ 30 rfl (w.heap.size + 1) 2 i0 (.int .i64 0) 1 8 Try.underlying30 hi' hz0 hz1 hz2 rfl (by decide) _ _ _ rfl (hown2.alloc _) ⟨wq.heap.size, 0, none⟩ 1 1 [.int .i64 (k : Int)] rfl rfl ?_ ?_ ?_ ?_ ?_ ?_; exact cell_one_new _ _ _; (intro u hu; simp at hu; subst hu; rfl); (unfold maxLen; omega); omega; (simp; omega); intro v' w4 hown1 hgr1 _ hat1)
                      go_roundw
                      case rel =>
                        refine ⟨k + 1, by go_num, by omega, ?_, ?_, Full.grow (HFr.out.block _) hgr1 hne, (hBr.alloc hzq (.cells #[.int .i64 (k : Int)] 2)).grown hgr1 (by simp; omega) (fun j hj => by have := (hown2.lt j hj).1; omega)⟩
                        · rw [HY.out, List.map_append, List.length_append]
                          exact hown1
                        · rcases hat1 with e | e
                          · rw [e]; exact hne
                          · rw [e]; intro e2; injection e2 with e2; simp at e2; omega
                      case measure => simp [intOf]; omega
                    · have HY := Lib.hid (HN.out.trans (if_neg hm))
                      rw [decide_eq_false hm] at c0
                      go_wp2_with fail
                      go_roundw
                      case rel => exact ⟨k + 1, by go_num, by omega, by rw [HY.out]; exact hown2, hne, HFr.out, hBr⟩
                      case measure => simp [intOf]; omega
                  · obtain rfl : k = n := by omega
                    go_wp2_with fail
                    go_ret2
                    rw [Hv2.out]
                    exact ⟨_, rfl, ownLess hown2 (by omega), hBr⟩
      · have hd : inB d 0 100000 = false := by simpa using hd
        rw [hd] at ID
        have Hv := Lib.hid (show rKeep l d = ([], 2) by rw [rKeep, if_pos H0.out, hd]; rfl)
        clear hh hd H0
        go_enter Try.func35, Try.ntmps35
        go_wp2_with (go_at_call 75; (with_reducible refine (LC).mono ?_); rintro e w' ⟨rfl, rfl⟩)
        go_loopw [6, 7] (fun a b wr => ∃ k : Nat, a = .int .i64 0 ∧ b = .int .i64 k ∧ k ≤ n ∧ w = wr) (fun _ b _ => n - (intOf b).toNat)
        case atStart => exact ⟨0, rfl, rfl, Nat.zero_le _, (by first | rfl | trivial)⟩
        case round =>
          obtain ⟨k, rfl, rfl, hk, rfl⟩ := hrel
          by_cases hlt : k < n
          · obtain ⟨tb, tof, p, rfl, htb, hp, c0, c1, c2⟩ := hs.three (k := k) (by omega)
            have IN := fun W => l01In_any p.2.2 0 4 W
            rw [show inB p.2.2 0 4 = true from HH.out p (List.mem_of_getElem? hp)] at IN
            have k0 : (0 : Int) ≤ (k : Int) := by omega
            have k1 : (k : Int) < (n : Int) := by omega
            clear hp c0 c1 hs
            go_wp2_with (go_at_call 68; (with_reducible refine (IN _).mono ?_); rintro e w' ⟨rfl, rfl⟩)
            go_roundw
            case rel => exact ⟨k + 1, rfl, by go_num, by omega, (by first | rfl | trivial)⟩
            case measure => simp [intOf]; omega
          · obtain rfl : n = k := by omega
            clear HH LC hs hl
            go_wp2_with (go_at_call 68; (with_reducible refine (ID _).mono ?_); rintro e w' ⟨rfl, rfl⟩)
            go_ret2
            rw [Hv.out]
            exact ⟨_, rfl, World.ownsRow_nil _ _ _ _, by repeat' (first | (with_reducible exact Below.refl _ _) | (with_reducible assumption) | (with_reducible refine Below.alloc ?_ ?_ _) | (with_reducible refine Below.drew ?_) | (with_reducible refine belowDraws ?_ _) | (with_reducible refine Below.setCell ?_ ?_ _) | omega | (simp; done) | (simp; omega))⟩
    · have Hv := Lib.hid (show rKeep l d = ([], 2) by rw [rKeep, if_pos H0.out, if_neg (by simp [hh])])
      have Hh := Lib.hid (show ¬ (l.take n).all okH = true by rw [List.take_of_length_le (by omega)]; exact hh)
      clear hh H0
      go_enter Try.func35, Try.ntmps35
      go_wp2_with (go_at_call 75; (with_reducible refine (LC).mono ?_); rintro e w' ⟨rfl, rfl⟩)
      go_loopw [6, 7] (fun a b wr => ∃ (k : Nat) (z : Int), a = .int .i64 z ∧ b = .int .i64 k ∧ k ≤ n ∧ ((z = 0 ∧ (l.take k).all okH = true) ∨ z = 2) ∧ w = wr) (fun _ b _ => n - (intOf b).toNat)
      case atStart => exact ⟨0, 0, rfl, rfl, Nat.zero_le _, .inl ⟨rfl, rfl⟩, (by first | rfl | trivial)⟩
      case round =>
        obtain ⟨k, z, rfl, rfl, hk, hz, rfl⟩ := hrel
        rcases hz with ⟨rfl, hz⟩ | rfl
        · by_cases hlt : k < n
          · obtain ⟨tb, tof, p, rfl, htb, hp, c0, c1, c2⟩ := hs.three (k := k) (by omega)
            have IN := fun W => l01In_any p.2.2 0 4 W
            have Hz := Lib.hid hz
            have Hp := Lib.hid hp
            have k0 : (0 : Int) ≤ (k : Int) := by omega
            have k1 : (k : Int) < (n : Int) := by omega
            clear c0 c1 hs hz hp
            by_cases hq : inB p.2.2 0 4 = true
            · rw [hq] at IN
              have HX := Lib.hid (all_next Hp.out (show okH p = true from hq) Hz.out)
              clear hq
              go_wp2_with (go_at_call 68; (with_reducible refine (IN _).mono ?_); rintro e w' ⟨rfl, rfl⟩)
              go_roundw
              case rel => exact ⟨k + 1, 0, rfl, by go_num, by omega, .inl ⟨rfl, HX.out⟩, (by first | rfl | trivial)⟩
              case measure => simp [intOf]; omega
            · rw [show inB p.2.2 0 4 = false by simpa using hq] at IN
              clear hq
              go_wp2_with (go_at_call 68; (with_reducible refine (IN _).mono ?_); rintro e w' ⟨rfl, rfl⟩)
              go_roundw
              case rel => exact ⟨k + 1, 2, rfl, by go_num, by omega, .inr rfl, (by first | rfl | trivial)⟩
              case measure => simp [intOf]; omega
          · obtain rfl : k = n := by omega
            exact absurd hz Hh.out
        · clear LC hs hl ID
          go_wp2_with fail
          go_ret2
          rw [Hv.out]
          exact ⟨_, rfl, World.ownsRow_nil _ _ _ _, by repeat' (first | (with_reducible exact Below.refl _ _) | (with_reducible assumption) | (with_reducible refine Below.alloc ?_ ?_ _) | (with_reducible refine Below.drew ?_) | (with_reducible refine belowDraws ?_ _) | (with_reducible refine Below.setCell ?_ ?_ _) | omega | (simp; done) | (simp; omega))⟩
  · have Hv := Lib.hid (show rKeep l d = ([], ckT l []) by rw [rKeep, if_neg h0])
    generalize ckT l [] = ck at *
    have t0 : (ck == 0) = false := by simpa using h0
    have t1 : (ck != 0) = true := by simpa using h0
    go_enter Try.func35, Try.ntmps35
    go_wp2_with (go_at_call 75; (with_reducible refine (LC).mono ?_); rintro e w' ⟨rfl, rfl⟩)
    go_loopw [6, 7] (fun a b wr => a = .int .i64 ck ∧ b = .int .i64 0 ∧ w = wr) (fun _ _ _ => 0)
    case atStart => exact ⟨rfl, rfl, (by first | rfl | trivial)⟩
    case round =>
      obtain ⟨rfl, rfl, rfl⟩ := hrel
      clear LC hs hl
      go_wp2_with fail
      go_ret2
      rw [Hv.out]
      exact ⟨_, rfl, World.ownsRow_nil _ _ _ _, by repeat' (first | (with_reducible exact Below.refl _ _) | (with_reducible assumption) | (with_reducible refine Below.alloc ?_ ?_ _) | (with_reducible refine Below.drew ?_) | (with_reducible refine belowDraws ?_ _) | (with_reducible refine Below.setCell ?_ ?_ _) | omega | (simp; done) | (simp; omega))⟩
end Go.Proofs.Ytkblmcpklpmobaa
