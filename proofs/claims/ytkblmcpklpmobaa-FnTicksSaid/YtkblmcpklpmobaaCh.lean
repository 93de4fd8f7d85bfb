/- CountHeights (layer 8). No condition. -/
import Derived.Test.YtkblmcpklpmobaaOwn
import Derived.Test.YtkblmcpklpmobaaNm
import Derived.Test.YtkblmcpklpmobaaTick
import Derived.Test.YtkblmcpklpmobaaLd2
namespace Go.Proofs.Ytkblmcpklpmobaa
open Go.RowKit
set_option linter.unusedVariables false
set_option linter.unusedSimpArgs false

def cntH (m : List Int) (h : Nat) : Int := ((m.filter fun y => decide (heightOf y = (h : Int))).length : Int)
def countsOf (m : List Int) : List Int := (List.range 5).map (cntH m)
def rCounts (l : List (Int × Int × Int)) : List Int × Int := if gradB l = true then (countsOf (marks l), 0) else ([], 1)
theorem cntH_snoc (m : List Int) (y : Int) (h : Nat) : cntH (m ++ [y]) h = cntH m h + if heightOf y = (h : Int) then 1 else 0 := by
  unfold cntH
  rw [List.filter_append]
  by_cases e : heightOf y = (h : Int) <;> simp [e]
theorem cntH_bd (m : List Int) (h : Nat) : 0 ≤ cntH m h ∧ cntH m h ≤ m.length := by
  unfold cntH
  have := List.length_filter_le (fun y => decide (heightOf y = (h : Int))) m
  omega
theorem countsOf_length (m : List Int) : (countsOf m).length = 5 := by simp [countsOf]
theorem countsOf_at {m : List Int} {h : Nat} (hh : h < 5) : (((countsOf m).map (Value.int .i64)).toArray)[h]? = some (.int .i64 (cntH m h)) := by simp [countsOf, hh]
theorem countsOf_put {m : List Int} {y : Int} {h : Nat} (hy : heightOf y = (h : Int)) (hh : h < 5) :
    (((countsOf m).map (Value.int .i64)).toArray).setIfInBounds h (.int .i64 (cntH m h + 1)) = ((countsOf (m ++ [y])).map (Value.int .i64)).toArray := by
  apply Array.ext_getElem?
  intro j
  rw [Array.getElem?_setIfInBounds]
  by_cases hj : j < 5
  · rw [countsOf_at hj, countsOf_at hj, cntH_snoc, hy]
    split
    · rename_i e
      subst e
      simp [hh, countsOf]
    · rename_i e
      rw [if_neg (by omega), Int.add_zero]
  · rw [Array.getElem?_eq_none (by simp [countsOf]; omega), Array.getElem?_eq_none (by simp [countsOf]; omega)]
    split
    · omega
    · rfl
theorem rCounts_len (l : List (Int × Int × Int)) : (rCounts l).1.length ≤ 1048576 := by
  unfold rCounts
  split
  · rw [countsOf_length]; omega
  · simp
theorem endSC {v : Value} {c : Int} {p : Int} (h : c = p) : Ending.returned (.tuple #[v, .int .i64 p]) = .returned (.tuple #[v, .int .i64 c]) := by subst h; rfl
set_option maxRecDepth 100000 in
set_option maxHeartbeats 2000000 in
theorem iCountHeights_any (A : Option Addr) (n c : Nat) (l : List (Int × Int × Int)) (w : World) (hl : l.length = n) (hn : n ≤ 1048576) (hs : Sees w w.heap.size A (cells3 l)) (hr : I64s3 l) :
    Calls Try.prog 55 #[.slice A n c] w (GivesS 2 1 (rCounts l).1.length ((rCounts l).1.map (Value.int .i64)) (rCounts l).2 w) := by
  have Hl := Lib.hid hl
  by_cases h : gradB l = true
  · obtain ⟨hg, h1, h2⟩ := gradB_in h
    have Hv := Lib.hid (show rCounts l = (countsOf (marks l), 0) by rw [rCounts, if_pos h])
    have hn12 : n ≤ 12 := by omega
    have hml := marks_length hg
    have hma := marks_all hg
    have M := fun W hW => marksOf_any A n c l W Hl.out hn12 hW hg
    have I := fun W hW => iIsGraduation_any A n c l W Hl.out hn hW hr
    rw [h] at I
    have hlen : (marks l).length ≤ 108000 := by omega
    have e0 : ((countsOf []).map (Value.int .i64)).toArray = #[.int .i64 0, .int .i64 0, .int .i64 0, .int .i64 0, .int .i64 0] := rfl
    generalize marks l = m at *
    obtain ⟨i0, hi, hz0, hz1, hz2⟩ := info_parts infoI64
    have e5 : madeCells (Value.int .i64 0).cells (5 * 1) = #[.int .i64 0, .int .i64 0, .int .i64 0, .int .i64 0, .int .i64 0] := Array.toList_inj.1 (toList_madeCells_one _ 5)
    have hmk5 : ∀ W, (Instr.makeSlice 30 (.int .i64 5) (.int .i64 5)).run Try.prog W = .ok (.slice (some ⟨W.heap.size, 0, none⟩) 5 5) (W.alloc (.cells #[.int .i64 0, .int .i64 0, .int .i64 0, .int .i64 0, .int .i64 0] 2)) := fun W => by
      have := makeRow (P := Try.prog) 30 2 i0 _ Try.underlying30 hi hz0 5 (by rw [hz2]; omega) (by omega) W
      rw [hz1, e5] at this
      exact this
    clear e5
    clear hg h h1 h2 hl
    go_enter Try.func55, Try.ntmps55
    go_wp2_with fail
    refine (I _ hs).mono ?_
    rintro e w1 ⟨rfl, b1⟩
    go_wp2_with fail
    refine (M _ (((hs.over b1).wider b1.size).block (Nat.le_refl _) _ |>.wider (by simp))).mono ?_
    rintro e w2 ⟨v, rfl, hown, b2⟩
    have hz1' := b1.size
    have hF2 : Full w2 w1.heap.size 2 (((countsOf []).map (Value.int .i64)).toArray) := by rw [e0]; exact (Full.made w1 _ _).over b2 (by simp)
    obtain ⟨A', c', rfl⟩ := ownShape hown
    have hlo := fun k hk => (hown.lt k hk).1
    have B2 : Below w.heap.size w w2 := Below.trans (by repeat' (first | exact Below.refl _ _ | assumption | refine Below.alloc ?_ (by first | omega | (simp; done) | (simp; omega)) _ | refine Below.drew ?_ | refine Below.setCell ?_ (by first | omega | (simp; done) | (simp; omega)) _)) (b2.mono (by simp; omega))
    have hz2' := B2.size
    have hg2 := hF2.inside
    obtain ⟨b, off, hA⟩ : ∃ b off, m ≠ [] → A' = some ⟨b, off, none⟩ ∧ w1.heap.size < b ∧ b < w2.heap.size ∧ SeesAt w2 b off (m.map (Value.int .i64)) := by
      by_cases hm : m = []
      · exact ⟨0, 0, fun h => absurd hm h⟩
      · obtain ⟨b, off, rfl, hb, hc⟩ := (Sees.ofOwn hown).addr (by rw [List.length_map]; exact List.length_pos_iff.2 hm)
        refine ⟨b, off, fun _ => ⟨rfl, ?_, hb, hc⟩⟩
        have := hlo b rfl
        simp at this
        omega
    clear hown hs M I b1 b2
    go_wp2_with fail
    go_loopw [14] (fun i wr => ∃ k : Nat, k ≤ m.length ∧ i = .int .i64 k ∧ Full wr w1.heap.size 2 (((countsOf (m.take k)).map (Value.int .i64)).toArray) ∧ (m ≠ [] → SeesAt wr b off (m.map (Value.int .i64))) ∧ w2.heap.size ≤ wr.heap.size ∧ Below w.heap.size w wr) (fun i _ => m.length - (intOf i).toNat)
    case atStart => exact ⟨0, Nat.zero_le _, rfl, hF2, fun h => (hA h).2.2.2, Nat.le_refl _, B2⟩
    case round =>
      obtain ⟨k, hk, rfl, hF, hS, hzr, hB⟩ := hrel
      by_cases hlt : k < m.length
      · have hne : m ≠ [] := by intro h; subst h; simp at hlt
        obtain ⟨rfl, hb1, hb2, -⟩ := hA hne
        have hy0 : m[k]? = some m[k] := List.getElem?_eq_getElem hlt
        have c0 := hS hne k (.int .i64 m[k]) (by simp [hlt])
        have hy := hma _ (List.mem_of_getElem? hy0)
        have HT := Lib.hid (show m.take (k + 1) = m.take k ++ [m[k]] by rw [List.take_add_one, hy0]; rfl)
        have hcb := cntH_bd (m.take k)
        have hlt2 : (m.take k).length ≤ 108000 := by rw [List.length_take]; omega
        generalize m[k] = y at *
        generalize m.take k = t at *
        unfold Dig at hy
        obtain ⟨h, hh⟩ : ∃ h : Nat, heightOf y = (h : Int) := ⟨(heightOf y).toNat, by have := heightOf_bd y; omega⟩
        have h5 : h < 5 := by have := heightOf_bd y; omega
        have T := fun W => tickHeight_any y W hy.1 hy.2
        rw [hh] at T
        have d0 := (hF.at_ h).trans (countsOf_at h5)
        have f0 := hF.free h
        have hcb1 := (hcb h).1
        have hcb2 := (hcb h).2
        have HP := Lib.hid (countsOf_put (m := t) hh h5)
        have hin := hF.inside
        have j0 : (0 : Int) ≤ (h : Int) := by omega
        have j1 : (h : Int) < 5 := by omega
        have nb : b ≠ w1.heap.size := by omega
        have hbr : b < wr.heap.size := by omega
        have hS1 := hS hne
        have HM := Lib.hid hma
        clear hy0 hh hcb hS hA hma
        go_wp2_with (first
          | (go_at_call 96; refine (T _).mono ?_; rintro e w' ⟨rfl, rfl⟩))
        go_roundw
        case rel =>
          refine ⟨k + 1, by omega, by go_num, ?_, fun _ => hS1.carry (fun o => ?_), by simp; omega, by repeat' (first | exact Below.refl _ _ | assumption | refine Below.alloc ?_ (by first | omega | (simp; done) | (simp; omega)) _ | refine Below.drew ?_ | refine Below.setCell ?_ (by first | omega | (simp; done) | (simp; omega)) _)⟩
          · rw [HT.out, ← HP.out]
            exact (hF.put _ _).block _
          · exact (World.cell?_alloc_lt _ _ ⟨b, o, none⟩ (by simpa using hbr)).trans (World.cell?_setCell_other wr ⟨w1.heap.size, h, none⟩ ⟨b, o, none⟩ _ (fun e => nb (congrArg Addr.block e).symm))
        case measure => simp [intOf]; omega
      · obtain rfl : k = m.length := by omega
        rw [List.take_length] at hF
        go_wp2
        go_ret2
        rw [Hv.out]
        exact ⟨_, rfl, ownMake (cap := 5) hz1' hF (by first | omega | (rw [countsOf_length]; omega)) (by unfold maxLen; omega) (by simp [countsOf]) (by simp [countsOf]) (fun j hj => by simp), hB⟩
  · have Hv := Lib.hid (show rCounts l = ([], 1) by rw [rCounts, if_neg h])
    have h' : gradB l = false := by simpa using h
    have I := fun W hW => iIsGraduation_any A n c l W Hl.out hn hW hr
    rw [h'] at I
    clear h h' hl
    go_enter Try.func55, Try.ntmps55
    go_wp2_with fail
    refine (I _ hs).mono ?_
    rintro e w1 ⟨rfl, b1⟩
    go_wp2_with fail
    go_ret2
    rw [Hv.out]
    exact ⟨_, rfl, World.ownsRow_nil _ _ _ _, b1⟩
set_option maxRecDepth 100000 in
set_option maxHeartbeats 2000000 in
theorem sCountHeights_any (A : Option Addr) (n c : Nat) (l : List (Int × Int × Int)) (w : World) (hl : l.length = n) (hn : n ≤ 1048576) (hs : Sees w w.heap.size A (cells3 l)) (hr : I64s3 l) :
    Calls Try.prog 56 #[.slice A n c] w (GivesS 2 1 (rCounts l).1.length ((rCounts l).1.map (Value.int .i64)) (rCounts l).2 w) := by
  have Hl := Lib.hid hl
  by_cases h : gradB l = true
  · obtain ⟨hg, h1, h2⟩ := gradB_in h
    have Hv := Lib.hid (show rCounts l = (countsOf (marks l), 0) by rw [rCounts, if_pos h])
    have hn12 : n ≤ 12 := by omega
    have hml := marks_length hg
    have hma := marks_all hg
    have M := fun W hW => l07Marks_any A n c l W Hl.out hn12 hW hg
    have I := fun W hW => sIsGraduation_any A n c l W Hl.out hn hW hr
    rw [h] at I
    have hlen : (marks l).length ≤ 108000 := by omega
    have e0 : ((countsOf []).map (Value.int .i64)).toArray = #[.int .i64 0, .int .i64 0, .int .i64 0, .int .i64 0, .int .i64 0] := rfl
    generalize marks l = m at *
    obtain ⟨i0, hi, hz0, hz1, hz2⟩ := info_parts infoI64
    
    clear hg h h1 h2 hl
    go_enter Try.func56, Try.ntmps56
    go_wp2_with fail
    refine (I _ hs).mono ?_
    rintro e w1 ⟨rfl, b1⟩
    go_wp2_with fail
    refine (M _ (((hs.over b1).wider b1.size).block (Nat.le_refl _) _ |>.wider (by simp))).mono ?_
    rintro e w2 ⟨v, rfl, hown, b2⟩
    have hz1' := b1.size
    have hF2 : Full w2 w1.heap.size 2 (((countsOf []).map (Value.int .i64)).toArray) := by rw [e0]; exact (Full.made w1 _ _).over b2 (by simp)
    obtain ⟨A', c', rfl⟩ := ownShape hown
    have hlo := fun k hk => (hown.lt k hk).1
    have B2 : Below w.heap.size w w2 := Below.trans (by repeat' (first | exact Below.refl _ _ | assumption | refine Below.alloc ?_ (by first | omega | (simp; done) | (simp; omega)) _ | refine Below.drew ?_ | refine Below.setCell ?_ (by first | omega | (simp; done) | (simp; omega)) _)) (b2.mono (by simp; omega))
    have hz2' := B2.size
    have hg2 := hF2.inside
    obtain ⟨b, off, hA⟩ : ∃ b off, m ≠ [] → A' = some ⟨b, off, none⟩ ∧ w1.heap.size < b ∧ b < w2.heap.size ∧ SeesAt w2 b off (m.map (Value.int .i64)) := by
      by_cases hm : m = []
      · exact ⟨0, 0, fun h => absurd hm h⟩
      · obtain ⟨b, off, rfl, hb, hc⟩ := (Sees.ofOwn hown).addr (by rw [List.length_map]; exact List.length_pos_iff.2 hm)
        refine ⟨b, off, fun _ => ⟨rfl, ?_, hb, hc⟩⟩
        have := hlo b rfl
        simp at this
        omega
    clear hown hs M I b1 b2
    go_wp2_with fail
    go_loopw [6] (fun i wr => ∃ k : Nat, k ≤ m.length ∧ i = .int .i64 k ∧ Full wr w1.heap.size 2 (((countsOf (m.take k)).map (Value.int .i64)).toArray) ∧ (m ≠ [] → SeesAt wr b off (m.map (Value.int .i64))) ∧ w2.heap.size ≤ wr.heap.size ∧ Below w.heap.size w wr) (fun i _ => m.length - (intOf i).toNat)
    case atStart => exact ⟨0, Nat.zero_le _, rfl, hF2, fun h => (hA h).2.2.2, Nat.le_refl _, B2⟩
    case round =>
      obtain ⟨k, hk, rfl, hF, hS, hzr, hB⟩ := hrel
      by_cases hlt : k < m.length
      · have hne : m ≠ [] := by intro h; subst h; simp at hlt
        obtain ⟨rfl, hb1, hb2, -⟩ := hA hne
        have hy0 : m[k]? = some m[k] := List.getElem?_eq_getElem hlt
        have c0 := hS hne k (.int .i64 m[k]) (by simp [hlt])
        have hy := hma _ (List.mem_of_getElem? hy0)
        have HT := Lib.hid (show m.take (k + 1) = m.take k ++ [m[k]] by rw [List.take_add_one, hy0]; rfl)
        have hcb := cntH_bd (m.take k)
        have hlt2 : (m.take k).length ≤ 108000 := by rw [List.length_take]; omega
        generalize m[k] = y at *
        generalize m.take k = t at *
        unfold Dig at hy
        obtain ⟨h, hh⟩ : ∃ h : Nat, heightOf y = (h : Int) := ⟨(heightOf y).toNat, by have := heightOf_bd y; omega⟩
        have h5 : h < 5 := by have := heightOf_bd y; omega
        have T := fun W => l08Height_any y W hy.1 hy.2
        rw [hh] at T
        have d0 := (hF.at_ h).trans (countsOf_at h5)
        have f0 := hF.free h
        have hcb1 := (hcb h).1
        have hcb2 := (hcb h).2
        have HP := Lib.hid (countsOf_put (m := t) hh h5)
        have hin := hF.inside
        have j0 : (0 : Int) ≤ (h : Int) := by omega
        have j1 : (h : Int) < 5 := by omega
        have nb : b ≠ w1.heap.size := by omega
        have hbr : b < wr.heap.size := by omega
        have hS1 := hS hne
        have HM := Lib.hid hma
        clear hy0 hh hcb hS hA hma
        go_wp2_with (first
          | (go_at_call 89; refine (T _).mono ?_; rintro e w' ⟨rfl, rfl⟩))
        go_roundw
        case rel =>
          refine ⟨k + 1, by omega, by go_num, ?_, fun _ => hS1.carry (fun o => ?_), by simp; omega, by repeat' (first | exact Below.refl _ _ | assumption | refine Below.alloc ?_ (by first | omega | (simp; done) | (simp; omega)) _ | refine Below.drew ?_ | refine Below.setCell ?_ (by first | omega | (simp; done) | (simp; omega)) _)⟩
          · rw [HT.out, ← HP.out]
            exact (hF.put _ _).block _
          · exact (World.cell?_alloc_lt _ _ ⟨b, o, none⟩ (by simpa using hbr)).trans (World.cell?_setCell_other wr ⟨w1.heap.size, h, none⟩ ⟨b, o, none⟩ _ (fun e => nb (congrArg Addr.block e).symm))
        case measure => simp [intOf]; omega
      · obtain rfl : k = m.length := by omega
        rw [List.take_length] at hF
        go_wp2
        go_ret2
        rw [Hv.out]
        exact ⟨_, rfl, ownMake (cap := 5) hz1' hF (by first | omega | (rw [countsOf_length]; omega)) (by unfold maxLen; omega) (by simp [countsOf]) (by simp [countsOf]) (fun j hj => by simp), hB⟩
  · have Hv := Lib.hid (show rCounts l = ([], 1) by rw [rCounts, if_neg h])
    have h' : gradB l = false := by simpa using h
    have I := fun W hW => sIsGraduation_any A n c l W Hl.out hn hW hr
    rw [h'] at I
    clear h h' hl
    go_enter Try.func56, Try.ntmps56
    go_wp2_with fail
    refine (I _ hs).mono ?_
    rintro e w1 ⟨rfl, b1⟩
    go_wp2_with fail
    go_ret2
    rw [Hv.out]
    exact ⟨_, rfl, World.ownsRow_nil _ _ _ _, b1⟩
end Go.Proofs.Ytkblmcpklpmobaa
