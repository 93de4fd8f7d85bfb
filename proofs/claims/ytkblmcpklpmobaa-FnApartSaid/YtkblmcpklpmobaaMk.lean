/- The marks of a graduation (layer 7): the lists that both functions make. No condition. -/
import Derived.Test.YtkblmcpklpmobaaGrad
import Derived.Outline
namespace Go.Proofs.Ytkblmcpklpmobaa
open Go.RowKit
set_option linter.unusedVariables false

/-- the numbers n, n + step .. below 'to' -/
def climb (to step : Int) : Nat → Int → List Int
  | 0, _ => []
  | f + 1, n => if n < to then n :: climb to step f (n + step) else []
def upTo (to step n : Int) : List Int := climb to step (to - n).toNat n
theorem climb_more {to step : Int} (hs : 1 ≤ step) : ∀ (f g : Nat) (n : Int), (to - n).toNat ≤ f → (to - n).toNat ≤ g → climb to step f n = climb to step g n
  | 0, 0, _, _, _ => rfl
  | 0, g + 1, n, h, _ => by rw [climb, climb, if_neg (by omega)]
  | f + 1, 0, n, _, h => by rw [climb, climb, if_neg (by omega)]
  | f + 1, g + 1, n, h, h' => by
    rw [climb, climb]
    by_cases hn : n < to
    · rw [if_pos hn, if_pos hn, climb_more hs f g (n + step) (by omega) (by omega)]
    · rw [if_neg hn, if_neg hn]
theorem upTo_step {to step n : Int} (hs : 1 ≤ step) (hn : n < to) : upTo to step n = n :: upTo to step (n + step) := by
  unfold upTo
  obtain ⟨f, hf⟩ : ∃ f, (to - n).toNat = f + 1 := ⟨(to - n).toNat - 1, by omega⟩
  rw [hf, climb, if_pos hn, climb_more hs f (to - (n + step)).toNat (n + step) (by omega) (Nat.le_refl _)]
theorem upTo_end {to step n : Int} (hn : to ≤ n) : upTo to step n = [] := by
  unfold upTo
  rw [show (to - n).toNat = 0 by omega, climb]
theorem climb_length (to step : Int) (f : Nat) (n : Int) : (climb to step f n).length ≤ f := by
  induction f generalizing n with
  | zero => simp [climb]
  | succ f ih =>
    rw [climb]
    split
    · have := ih (n + step); simp; omega
    · simp
def marksP (p : Int × Int × Int) : List Int := upTo p.2.1 p.2.2 p.1
def marks (l : List (Int × Int × Int)) : List Int := l.flatMap marksP
/-- a part that can stand in a graduation -/
def partIn (p : Int × Int × Int) : Prop := 1000 ≤ p.1 ∧ p.1 < p.2.1 ∧ p.2.1 ≤ 10000 ∧ 1 ≤ p.2.2 ∧ (p.2.1 - p.1) % p.2.2 = 0
def partsIn (l : List (Int × Int × Int)) : Prop := ∀ p ∈ l, partIn p
theorem partIn_step {p : Int × Int × Int} (h : partIn p) : p.2.2 ≤ 9000 := by
  obtain ⟨h1, h2, h3, h4, h5⟩ := h
  by_cases hc : p.2.1 - p.1 < p.2.2
  · rw [Int.emod_eq_of_lt (by omega) hc] at h5
    omega
  · omega
theorem gradRun_in : ∀ (l : List (Int × Int × Int)) (a b : Int), 1000 ≤ a → gradRun a l = some b → partsIn l
  | [], _, _, _, _ => fun p hp => by cases hp
  | p :: r, a, b, ha, h => by
    rw [gradRun] at h
    split at h
    · rename_i hk
      obtain ⟨h1, h2, h3, h4, h5⟩ := hk
      intro q hq
      rcases List.mem_cons.1 hq with rfl | hq
      · exact ⟨by omega, h2, h3, h4, h5⟩
      · exact gradRun_in r p.2.1 b (by omega) h q hq
    · cases h
theorem gradB_in {l : List (Int × Int × Int)} (h : gradB l = true) : partsIn l ∧ 1 ≤ l.length ∧ l.length ≤ 12 := by
  simp only [gradB, Bool.and_eq_true, decide_eq_true_eq] at h
  exact ⟨gradRun_in l 1000 10000 (by omega) h.2, h.1.1, h.1.2⟩
theorem marksP_length {p : Int × Int × Int} (h : partIn p) : (marksP p).length ≤ 9000 := by
  obtain ⟨h1, h2, h3, h4, _⟩ := h
  have := climb_length p.2.1 p.2.2 (p.2.1 - p.1).toNat p.1
  unfold marksP upTo
  omega
theorem marks_length : ∀ {l : List (Int × Int × Int)}, partsIn l → (marks l).length ≤ 9000 * l.length
  | [], _ => by simp [marks]
  | p :: r, h => by
    have h1 := marksP_length (h p (List.mem_cons_self ..))
    have h2 := marks_length (l := r) (fun q hq => h q (List.mem_cons_of_mem _ hq))
    simp only [marks, List.flatMap_cons, List.length_append, List.length_cons] at *
    omega
theorem drop_at {l : List (Int × Int × Int)} {k : Nat} {p : Int × Int × Int} (hp : l[k]? = some p) : l.drop k = p :: l.drop (k + 1) := by
  obtain ⟨hk, e⟩ := List.getElem?_eq_some_iff.1 hp
  rw [List.drop_eq_getElem_cons hk, e]

/-- a row that the call owns and a block of another element type are two blocks -/
theorem ownNe {w : World} {base g : Nat} {e t : TypeId} {size n : Nat} {v : Value} {xs : List Value} {cs : Array Value} (h : w.ownsRow base e size v n xs) (hF : Full w g t cs) (hne : e ≠ t) : some g ≠ v.ownBlock := by
  rcases h.2 with ⟨rfl, _⟩ | ⟨g', cap, cur, rfl, _, hh, _⟩
  · simp [Value.ownBlock]
  · intro he
    simp only [Value.ownBlock, Option.some.injEq] at he
    subst he
    unfold Full at hF
    rw [hh] at hF
    injection hF with hF
    injection hF with _ h2
    exact hne h2
theorem ownShape {w : World} {base : Nat} {e : TypeId} {size n : Nat} {v : Value} {xs : List Value} (h : w.ownsRow base e size v n xs) : ∃ A c, v = .slice A n c := by
  rcases h.2 with ⟨rfl, rfl⟩ | ⟨g', cap, cur, rfl, _⟩
  · exact ⟨none, 0, rfl⟩
  · exact ⟨_, _, rfl⟩
theorem infoI64 : (Try.prog.info? 2).map (fun i => (i.zero, i.size, i.bytes)) = some (some (.int .i64 0), 1, 8) := by kernel_rfl
set_option maxHeartbeats 1000000 in
theorem marksOf_any (A : Option Addr) (n c : Nat) (l : List (Int × Int × Int)) (w : World) (hl : l.length = n) (hn : n ≤ 12) (hs : Sees w w.heap.size A (cells3 l)) (hg : partsIn l) :
    Calls Try.prog 63 #[.slice A n c] w fun e w' => ∃ v, e = .returned v ∧ w'.ownsRow w.heap.size 2 1 v (marks l).length ((marks l).map (Value.int .i64)) ∧ Below w.heap.size w w' := by
  have hml := marks_length hg
  rw [hl] at hml
  obtain ⟨i0, hi, hz0, hz1, hz2⟩ := info_parts infoI64
  go_enter Try.func63, Try.ntmps63
  go_wp2
  go_loopw [3, 10] (fun v i wr => ∃ (k : Nat) (L : List Int), k ≤ n ∧ i = .int .i64 k ∧ wr.ownsRow w.heap.size 2 1 v L.length (L.map (Value.int .i64)) ∧ L ++ marks (l.drop k) = marks l ∧ Below w.heap.size w wr) (fun _ i _ => n - (intOf i).toNat)
  case atStart => exact ⟨0, [], Nat.zero_le _, rfl, World.ownsRow_made w #[] 0 (Nat.le_refl _) (Nat.zero_le _) rfl, rfl, (Below.refl _ _).alloc (Nat.le_refl _) _⟩
  case round =>
    obtain ⟨k, L, hk, rfl, hown, hL, hB⟩ := hrel
    have HL := Lib.hid hL
    have Hl := Lib.hid hl
    clear hL
    by_cases hlt : k < n
    · obtain ⟨b, off, p, rfl, hb, hp, c0, c1, c2⟩ := (hs.over hB).three (k := k) (by omega)
      have hst := partIn_step (hg p (List.mem_of_getElem? hp))
      obtain ⟨g1, g2, g3, g4, _⟩ := hg p (List.mem_of_getElem? hp)
      have Hp := Lib.hid hp
      have hz := hB.size
      clear hp hs hg hl
      obtain ⟨wo, rfl⟩ : ∃ wo : World, wo = wr := ⟨_, rfl⟩
      go_wp2_with fail
      go_loopw [3, 6] (fun v x wi => ∃ (nn : Int) (L2 : List Int), x = .int .i64 nn ∧ p.1 ≤ nn ∧ nn ≤ 20000 ∧ wi.ownsRow w.heap.size 2 1 v L2.length (L2.map (Value.int .i64)) ∧ L2 ++ (upTo p.2.1 p.2.2 nn ++ marks (l.drop (k + 1))) = marks l ∧
          Full wi wo.heap.size 79 #[.int .i64 p.1, .int .i64 p.2.1, .int .i64 p.2.2] ∧ Below w.heap.size w wi) (fun _ x _ => (p.2.1 - intOf x).toNat)
      case atStart =>
        refine ⟨p.1, L, rfl, by omega, by omega, hown.alloc _, ?_, Full.made _ _ _, hB.alloc hz _⟩
        rw [← HL.out, drop_at Hp.out]
        simp [marks, marksP]
      case round =>
        obtain ⟨nn, L2, rfl, hn1, hn2, hown2, hL2, hF, hB2⟩ := hrel
        have HL2 := Lib.hid hL2
        have hlen : L2.length ≤ 9000 * n := by
          have := congrArg List.length hL2
          simp only [List.length_append] at this
          omega
        clear hL2
        have hz2' := hB2.size
        have b0 := hF.at_ 0
        have b1 := hF.at_ 1
        have b2 := hF.at_ 2
        have hin := hF.inside
        simp only [List.getElem?_toArray, List.getElem?_cons_zero, List.getElem?_cons_succ] at b0 b1 b2
        by_cases hlt2 : nn < p.2.1
        · have Hs := Lib.hid (upTo_step g4 hlt2)
          go_wp2_with (first | (at_builtin; refine wpList_append_own _ rfl _ _ 30 rfl w.heap.size 2 i0 (.int .i64 0) 1 8 Try.underlying30 hi hz0 hz1 hz2 rfl (by decide) _ _ _ rfl (hown2.alloc _) ⟨wr.heap.size, 0, none⟩ 1 1 [.int .i64 nn] rfl rfl ?_ ?_ ?_ ?_ ?_ ?_; exact cell_one_new _ _ _; (intro u hu; simp at hu; subst hu; rfl); (unfold maxLen; omega); omega; (simp; omega); intro v' w1 hown1 hgr1 _; have hB1 := (hB2.alloc hz2' (.cells #[.int .i64 nn] 2)).grown hgr1 (by simp; omega) (fun k hk => (hown2.lt k hk).1); have hF1 := (hF.block (.cells #[.int .i64 nn] 2)).grow hgr1 (ownNe hown2 hF (by decide)); have d2 := hF1.at_ 2; simp only [List.getElem?_toArray, List.getElem?_cons_zero, List.getElem?_cons_succ] at d2) | go_in)
          go_roundw
          case rel =>
            refine ⟨nn + p.2.2, L2 ++ [nn], rfl, by omega, by omega, by simpa using hown1, ?_, hF1, hB1⟩
            rw [← HL2.out, Hs.out]
            simp
          case measure => simp [intOf]; omega
        · have He := Lib.hid (upTo_end (step := p.2.2) (show p.2.1 ≤ nn by omega))
          go_wp2
          go_roundw
          case rel =>
            refine ⟨k + 1, L2, by omega, by go_num, hown2, ?_, hB2⟩
            rw [← HL2.out, He.out]
            simp
          case measure => simp [intOf]; omega
    · obtain rfl : k = n := by omega
      go_wp2
      go_ret
      have e : L = marks l := by
        have := HL.out
        rw [List.drop_of_length_le (by have := Hl.out; omega)] at this
        simpa [marks] using this
      subst e
      exact ⟨u3, rfl, hown, hB⟩
set_option maxHeartbeats 1000000 in
theorem l07Marks_any (A : Option Addr) (n c : Nat) (l : List (Int × Int × Int)) (w : World) (hl : l.length = n) (hn : n ≤ 12) (hs : Sees w w.heap.size A (cells3 l)) (hg : partsIn l) :
    Calls Try.prog 69 #[.slice A n c] w fun e w' => ∃ v, e = .returned v ∧ w'.ownsRow w.heap.size 2 1 v (marks l).length ((marks l).map (Value.int .i64)) ∧ Below w.heap.size w w' := by
  have hml := marks_length hg
  rw [hl] at hml
  obtain ⟨i0, hi, hz0, hz1, hz2⟩ := info_parts infoI64
  go_enter Try.func69, Try.ntmps69
  go_wp2
  go_loopw [3, 4] (fun v i wr => ∃ (k : Nat) (L : List Int), k ≤ n ∧ i = .int .i64 k ∧ wr.ownsRow w.heap.size 2 1 v L.length (L.map (Value.int .i64)) ∧ L ++ marks (l.drop k) = marks l ∧ Below w.heap.size w wr) (fun _ i _ => n - (intOf i).toNat)
  case atStart => exact ⟨0, [], Nat.zero_le _, rfl, World.ownsRow_made w #[] 0 (Nat.le_refl _) (Nat.zero_le _) rfl, rfl, (Below.refl _ _).alloc (Nat.le_refl _) _⟩
  case round =>
    obtain ⟨k, L, hk, rfl, hown, hL, hB⟩ := hrel
    have HL := Lib.hid hL
    have Hl := Lib.hid hl
    clear hL
    by_cases hlt : k < n
    · obtain ⟨b, off, p, rfl, hb, hp, c0, c1, c2⟩ := (hs.over hB).three (k := k) (by omega)
      have hst := partIn_step (hg p (List.mem_of_getElem? hp))
      obtain ⟨g1, g2, g3, g4, _⟩ := hg p (List.mem_of_getElem? hp)
      have Hp := Lib.hid hp
      have hz := hB.size
      clear hp hs hg hl
      obtain ⟨wo, rfl⟩ : ∃ wo : World, wo = wr := ⟨_, rfl⟩
      go_wp2_with fail
      go_loopw [3, 5] (fun v x wi => ∃ (nn : Int) (L2 : List Int), x = .int .i64 nn ∧ p.1 ≤ nn ∧ nn ≤ 20000 ∧ wi.ownsRow w.heap.size 2 1 v L2.length (L2.map (Value.int .i64)) ∧ L2 ++ (upTo p.2.1 p.2.2 nn ++ marks (l.drop (k + 1))) = marks l ∧
          Below w.heap.size w wi) (fun _ x _ => (p.2.1 - intOf x).toNat)
      case atStart =>
        refine ⟨p.1, L, rfl, by omega, by omega, hown, ?_, hB⟩
        rw [← HL.out, drop_at Hp.out]
        simp [marks, marksP]
      case round =>
        obtain ⟨nn, L2, rfl, hn1, hn2, hown2, hL2, hB2⟩ := hrel
        have HL2 := Lib.hid hL2
        have hlen : L2.length ≤ 9000 * n := by
          have := congrArg List.length hL2
          simp only [List.length_append] at this
          omega
        clear hL2
        have hz2' := hB2.size
        have b0 := (hB2.cell (p := ⟨b, off + k * 3, none⟩) hb).trans ((hB.cell (p := ⟨b, off + k * 3, none⟩) hb).symm.trans c0)
        have b1 := (hB2.cell (p := ⟨b, off + k * 3 + 1, none⟩) hb).trans ((hB.cell (p := ⟨b, off + k * 3 + 1, none⟩) hb).symm.trans c1)
        have b2 := (hB2.cell (p := ⟨b, off + k * 3 + 2, none⟩) hb).trans ((hB.cell (p := ⟨b, off + k * 3 + 2, none⟩) hb).symm.trans c2)
        have hin : b < wr.heap.size := by omega
        skip
        by_cases hlt2 : nn < p.2.1
        · have Hs := Lib.hid (upTo_step g4 hlt2)
          go_wp2_with (first | (at_builtin; refine wpList_append_own _ rfl _ _ 30 rfl w.heap.size 2 i0 (.int .i64 0) 1 8 Try.underlying30 hi hz0 hz1 hz2 rfl (by decide) _ _ _ rfl (hown2.alloc _) ⟨wr.heap.size, 0, none⟩ 1 1 [.int .i64 nn] rfl rfl ?_ ?_ ?_ ?_ ?_ ?_; exact cell_one_new _ _ _; (intro u hu; simp at hu; subst hu; rfl); (unfold maxLen; omega); omega; (simp; omega); intro v' w1 hown1 hgr1 _; have hB1 := (hB2.alloc hz2' (.cells #[.int .i64 nn] 2)).grown hgr1 (by simp; omega) (fun k hk => (hown2.lt k hk).1); have d2 := (hB1.cell (p := ⟨b, off + k * 3 + 2, none⟩) hb).trans ((hB.cell (p := ⟨b, off + k * 3 + 2, none⟩) hb).symm.trans c2)) | go_in)
          go_roundw
          case rel =>
            refine ⟨nn + p.2.2, L2 ++ [nn], rfl, by omega, by omega, by simpa using hown1, ?_, hB1⟩
            rw [← HL2.out, Hs.out]
            simp
          case measure => simp [intOf]; omega
        · have He := Lib.hid (upTo_end (step := p.2.2) (show p.2.1 ≤ nn by omega))
          go_wp2
          go_roundw
          case rel =>
            refine ⟨k + 1, L2, by omega, by go_num, hown2, ?_, hB2⟩
            rw [← HL2.out, He.out]
            simp
          case measure => simp [intOf]; omega
    · obtain rfl : k = n := by omega
      go_wp2
      go_ret
      have e : L = marks l := by
        have := HL.out
        rw [List.drop_of_length_le (by have := Hl.out; omega)] at this
        simpa [marks] using this
      subst e
      exact ⟨u3, rfl, hown, hB⟩
end Go.Proofs.Ytkblmcpklpmobaa
