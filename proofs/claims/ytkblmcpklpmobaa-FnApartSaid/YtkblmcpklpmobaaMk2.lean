/- Walks that use the list of marks: CountMarks, IsMark (layer 7). No condition. -/
import Derived.Test.YtkblmcpklpmobaaMk
import Derived.BigQuiet
import Derived.Deep.QuietTactic
import Derived.Outline
namespace Go.Proofs.Ytkblmcpklpmobaa
open Go.RowKit
set_option linter.unusedVariables false

/-- one cell of a slice of int64 -/
theorem Sees.one {w : World} {B : Nat} {A : Option Addr} {l : List Int} (hs : Sees w B A (l.map (Value.int .i64))) {k : Nat} (hk : k < l.length) :
    ∃ b off x, A = some ⟨b, off, none⟩ ∧ b < B ∧ l[k]? = some x ∧ w.cell? ⟨b, off + k, none⟩ = some (.int .i64 x) := by
  obtain ⟨b, off, e, hb, hcell⟩ := hs.addr (by rw [List.length_map]; omega)
  exact ⟨b, off, l[k], e, hb, List.getElem?_eq_getElem hk, hcell k _ (by rw [List.getElem?_map, List.getElem?_eq_getElem hk]; rfl)⟩
/-- the first place of x, or -1 -/
def firstAt (x : Int) : List Int → Int → Int
  | [], _ => -1
  | y :: r, k => if y = x then k else firstAt x r (k + 1)
theorem firstAt_mem (x : Int) : ∀ (l : List Int) (k : Int), 0 ≤ k → (0 ≤ firstAt x l k ↔ x ∈ l)
  | [], k, h => by simp [firstAt]
  | y :: r, k, h => by
    rw [firstAt]
    by_cases hy : y = x
    · rw [if_pos hy]; simp [hy, h]
    · rw [if_neg hy, firstAt_mem x r (k + 1) (by omega)]
      simp [Ne.symm hy]
theorem firstAt_bd (x : Int) : ∀ (l : List Int) (k : Int), 0 ≤ k → -1 ≤ firstAt x l k ∧ firstAt x l k ≤ k + l.length
  | [], k, h => by simp [firstAt]; omega
  | y :: r, k, h => by
    rw [firstAt]
    have := firstAt_bd x r (k + 1) (by omega)
    split
    · simp; omega
    · simp; omega
set_option maxHeartbeats 400000 in
theorem index_any (A : Option Addr) (n c : Nat) (l : List Int) (x : Int) (w : World) (B : Nat) (hl : l.length = n) (hn : n ≤ 9223372036854775807) (hs : Sees w B A (l.map (Value.int .i64))) :
    Calls Try.prog 100 #[.slice A n c, .int .i64 x] w fun e w' => e = .returned (.int .i64 (firstAt x l 0)) ∧ w = w' := by
  go_enter Try.func100, Try.ntmps100
  go_wp2
  go_loop [8] (fun i => ∃ k : Nat, k ≤ n ∧ i = .int .i64 k ∧ firstAt x l 0 = firstAt x (l.drop k) k) (fun i => n - (intOf i).toNat)
  case atStart => exact ⟨0, Nat.zero_le _, rfl, rfl⟩
  case round =>
    obtain ⟨k, hk, rfl, hf⟩ := hrel
    have Hf := Lib.hid hf
    have Hl := Lib.hid hl
    clear hf
    by_cases hlt : k < n
    · obtain ⟨b, off, y, rfl, hb, hp, c0⟩ := hs.one (k := k) (by omega)
      have Hd := Lib.hid (show l.drop k = y :: l.drop (k + 1) by
        obtain ⟨hk', e⟩ := List.getElem?_eq_some_iff.1 hp
        rw [List.drop_eq_getElem_cons hk', e])
      clear hp hs hl
      by_cases hx : y = x
      · have Hr := Lib.hid (show firstAt x l 0 = k by rw [Hf.out, Hd.out, firstAt, if_pos hx])
        subst hx
        go_wp2
        go_ret
        exact ⟨endInt Hr.out.symm, rfl⟩
      · have Hr := Lib.hid (show firstAt x l 0 = firstAt x (l.drop (k + 1)) ((k : Int) + 1) by rw [Hf.out, Hd.out, firstAt, if_neg hx])
        have t : (x == y) = false := by simp; omega
        go_wp2
        go_round
        case rel => exact ⟨k + 1, by omega, by go_num, by rw [Hr.out]; simp⟩
        case measure => simp [intOf]; omega
    · obtain rfl : k = n := by omega
      have Hr := Lib.hid (show firstAt x l 0 = -1 by rw [Hf.out, List.drop_of_length_le (by omega), firstAt])
      clear hl
      go_wp2
      go_ret
      exact ⟨endInt Hr.out.symm, rfl⟩
set_option maxHeartbeats 400000 in
theorem contains_any (A : Option Addr) (n c : Nat) (l : List Int) (x : Int) (w : World) (B : Nat) (hl : l.length = n) (hn : n ≤ 9223372036854775807) (hs : Sees w B A (l.map (Value.int .i64))) :
    Calls Try.prog 72 #[.slice A n c, .int .i64 x] w fun e w' => e = .returned (.bool (decide (x ∈ l))) ∧ w = w' := by
  have hf := firstAt_mem x l 0 (by omega)
  have Hv := Lib.hid (show decide (x ∈ l) = decide (0 ≤ firstAt x l 0) by simp only [hf])
  have Hl := Lib.hid hl
  clear hf hl
  go_enter Try.func72, Try.ntmps72
  go_wp2_with (go_at_call 100; refine (index_any _ _ _ l _ _ B Hl.out hn hs).mono ?_; rintro e w' ⟨rfl, rfl⟩)
  go_ret
  exact ⟨endBool Hv.out.symm, rfl⟩

/-- how many marks -/
def stepsOf (p : Int × Int × Int) : Int := (p.2.1 - p.1) / p.2.2
def countOf : List (Int × Int × Int) → Int
  | [] => 0
  | p :: r => stepsOf p + countOf r
theorem upTo_count {to step : Int} (hs : 1 ≤ step) : ∀ (f : Nat) (n : Int), (to - n).toNat ≤ f → (to - n) % step = 0 → n ≤ to → ((upTo to step n).length : Int) = (to - n) / step
  | 0, n, h, _, hn => by
    have e : to = n := by omega
    subst e
    rw [upTo_end (Int.le_refl _)]
    simp
  | f + 1, n, h, hm, hn => by
    by_cases hlt : n < to
    · have hle : step ≤ to - n := by
        by_cases hc : to - n < step
        · rw [Int.emod_eq_of_lt (by omega) hc] at hm
          omega
        · omega
      have e : to - n = (to - (n + step)) + step := by omega
      have hm' : (to - (n + step)) % step = 0 := by
        rw [e, Int.add_emod_right] at hm
        exact hm
      rw [upTo_step hs hlt, List.length_cons, Int.natCast_add, upTo_count hs f (n + step) (by omega) hm' (by omega)]
      rw [e, Int.add_ediv_of_dvd_right (Int.dvd_refl _), Int.ediv_self (by omega)]
      rfl
    · have e : to = n := by omega
      subst e
      rw [upTo_end (Int.le_refl _)]
      simp
theorem marks_count : ∀ {l : List (Int × Int × Int)}, partsIn l → ((marks l).length : Int) = countOf l
  | [], _ => rfl
  | p :: r, h => by
    obtain ⟨h1, h2, h3, h4, h5⟩ := h p (List.mem_cons_self ..)
    have ih := marks_count (l := r) (fun q hq => h q (List.mem_cons_of_mem _ hq))
    have hp := upTo_count (to := p.2.1) h4 (p.2.1 - p.1).toNat p.1 (Nat.le_refl _) h5 (by omega)
    simp only [marks, List.flatMap_cons, List.length_append, countOf, stepsOf, marksP] at *
    omega
theorem stepsOf_bd {p : Int × Int × Int} (h : partIn p) : 0 ≤ stepsOf p ∧ stepsOf p ≤ 9000 := by
  obtain ⟨h1, h2, h3, h4, h5⟩ := h
  have e := upTo_count (to := p.2.1) h4 (p.2.1 - p.1).toNat p.1 (Nat.le_refl _) h5 (by omega)
  have hm := marksP_length ⟨h1, h2, h3, h4, h5⟩
  unfold marksP at hm
  unfold stepsOf
  omega
theorem countOf_bd : ∀ {l : List (Int × Int × Int)}, partsIn l → 0 ≤ countOf l ∧ countOf l ≤ 9000 * l.length
  | [], _ => by simp [countOf]
  | p :: r, h => by
    have h1 := stepsOf_bd (h p (List.mem_cons_self ..))
    have ih := countOf_bd (l := r) (fun q hq => h q (List.mem_cons_of_mem _ hq))
    simp only [countOf, List.length_cons]
    omega
def rCount (l : List (Int × Int × Int)) : Int × Int := if gradB l = true then (countOf l, 0) else (0, 1)
set_option maxHeartbeats 400000 in
theorem iCountMarks_any (A : Option Addr) (n c : Nat) (l : List (Int × Int × Int)) (w : World) (hl : l.length = n) (hn : n ≤ 1048576) (hs : Sees w w.heap.size A (cells3 l)) (hr : I64s3 l) :
    Calls Try.prog 11 #[.slice A n c] w fun e w' => e = .returned (.tuple #[.int .i64 (rCount l).1, .int .i64 (rCount l).2]) ∧ Below w.heap.size w w' := by
  by_cases h : gradB l = true
  · obtain ⟨hg, h1, h2⟩ := gradB_in h
    have Hv := Lib.hid (show rCount l = (((marks l).length : Int), 0) by rw [rCount, if_pos h, marks_count hg])
    have Hl := Lib.hid hl
    have hn12 : n ≤ 12 := by omega
    have hml := marks_length hg
    go_enter Try.func11, Try.ntmps11
    go_wp2_with fail
    refine (iIsGraduation_any _ _ _ l _ Hl.out hn hs hr).mono ?_
    rintro e w1 ⟨rfl, b1⟩
    clear hl
    go_wp2_with fail
    refine (marksOf_any _ _ _ l _ Hl.out hn12 ((hs.over b1).wider b1.size) hg).mono ?_
    rintro e w2 ⟨v, rfl, hown, b2⟩
    obtain ⟨A', c', rfl⟩ := ownShape hown
    go_wp2_with fail
    go_ret2
    exact ⟨endTwo Hv.out, b1.trans (b2.mono b1.size)⟩
  · have Hv := Lib.hid (show rCount l = (0, 1) by rw [rCount, if_neg h])
    have Hl := Lib.hid hl
    go_enter Try.func11, Try.ntmps11
    go_wp2_with fail
    refine (iIsGraduation_any _ _ _ l _ Hl.out hn hs hr).mono ?_
    rintro e w1 ⟨rfl, b1⟩
    clear hl
    go_wp2_with fail
    go_ret2
    exact ⟨endTwo Hv.out, b1⟩
set_option maxHeartbeats 1000000 in
theorem sCountMarks_any (A : Option Addr) (n c : Nat) (l : List (Int × Int × Int)) (w : World) (hl : l.length = n) (hn : n ≤ 1048576) (hs : Sees w w.heap.size A (cells3 l)) (hr : I64s3 l) :
    Calls Try.prog 12 #[.slice A n c] w fun e w' => e = .returned (.tuple #[.int .i64 (rCount l).1, .int .i64 (rCount l).2]) ∧ Below w.heap.size w w' := by
  by_cases h : gradB l = true
  · obtain ⟨hg, h1, h2⟩ := gradB_in h
    have Hv := Lib.hid (show rCount l = (countOf l, 0) by rw [rCount, if_pos h])
    have hn12 : n ≤ 12 := by omega
    have hcb := countOf_bd hg
    rw [hl] at hcb
    have Hl := Lib.hid hl
    go_enter Try.func12, Try.ntmps12
    go_wp2_with fail
    refine (sIsGraduation_any _ _ _ l _ Hl.out hn hs hr).mono ?_
    rintro e w1 ⟨rfl, b1⟩
    go_wp2_with fail
    go_loopw [4, 5] (fun s i wr => ∃ (k : Nat) (t : Int), k ≤ n ∧ i = .int .i64 k ∧ s = .int .i64 t ∧ 0 ≤ t ∧ t ≤ 9000 * (k : Int) ∧ t + countOf (l.drop k) = countOf l ∧ Below w.heap.size w wr) (fun _ i _ => n - (intOf i).toNat)
    case atStart => exact ⟨0, 0, Nat.zero_le _, rfl, rfl, by omega, by omega, by simp, b1⟩
    case round =>
      obtain ⟨k, t, hk, rfl, rfl, ht1, ht2, ht3, hB⟩ := hrel
      have Ht := Lib.hid ht3
      clear ht3
      by_cases hlt : k < n
      · obtain ⟨b, off, p, rfl, hb, hp, c0, c1, c2⟩ := (hs.over hB).three (k := k) (by omega)
        have hst := stepsOf_bd (hg p (List.mem_of_getElem? hp))
        obtain ⟨g1, g2, g3, g4, _⟩ := hg p (List.mem_of_getElem? hp)
        have Hp := Lib.hid hp
        unfold stepsOf at hst
        have q1 : IntKind.i64.wrap (p.2.1 - p.1) = p.2.1 - p.1 := IntWalk.i64_in _ (by omega)
        clear hp hs hg hl hr
        go_wp2_with fail
        go_quiet (fail)
        go_wp2
        go_roundw
        case rel =>
          refine ⟨k + 1, _, by omega, by go_num, rfl, by omega, by omega, ?_, belowDraws hB nq⟩
          rw [← Ht.out, drop_at Hp.out, countOf, stepsOf]
          omega
        case measure => simp [intOf]; omega
      · obtain rfl : k = n := by omega
        have e : t = countOf l := by
          have := Ht.out
          rw [List.drop_of_length_le (by omega), countOf] at this
          omega
        subst e
        clear hl
        go_wp2
        go_ret2
        exact ⟨endTwo Hv.out, hB⟩
  · have Hv := Lib.hid (show rCount l = (0, 1) by rw [rCount, if_neg h])
    have Hl := Lib.hid hl
    go_enter Try.func12, Try.ntmps12
    go_wp2_with fail
    refine (sIsGraduation_any _ _ _ l _ Hl.out hn hs hr).mono ?_
    rintro e w1 ⟨rfl, b1⟩
    clear hl
    go_wp2_with fail
    go_ret2
    exact ⟨endTwo Hv.out, b1⟩

theorem upTo_mem {to step : Int} (hs : 1 ≤ step) (x : Int) : ∀ (f : Nat) (n : Int), (to - n).toNat ≤ f → (x ∈ upTo to step n ↔ n ≤ x ∧ x < to ∧ (x - n) % step = 0)
  | 0, n, h => by
    rw [upTo_end (by omega)]
    simp
    omega
  | f + 1, n, h => by
    by_cases hlt : n < to
    · rw [upTo_step hs hlt, List.mem_cons, upTo_mem hs x f (n + step) (by omega)]
      constructor
      · rintro (rfl | ⟨h1, h2, h3⟩)
        · exact ⟨Int.le_refl _, hlt, by simp⟩
        · refine ⟨by omega, h2, ?_⟩
          rw [show x - n = (x - (n + step)) + step by omega, Int.add_emod_right]
          exact h3
      · rintro ⟨h1, h2, h3⟩
        by_cases hx : x = n
        · exact .inl hx
        · right
          have hle : step ≤ x - n := by
            by_cases hc : x - n < step
            · rw [Int.emod_eq_of_lt (by omega) hc] at h3
              omega
            · omega
          refine ⟨by omega, h2, ?_⟩
          rw [show x - n = (x - (n + step)) + step by omega, Int.add_emod_right] at h3
          exact h3
    · rw [upTo_end (by omega)]
      simp
      omega
def inPart (x : Int) (p : Int × Int × Int) : Prop := p.1 ≤ x ∧ x < p.2.1 ∧ (x - p.1) % p.2.2 = 0
theorem marks_mem {l : List (Int × Int × Int)} (h : partsIn l) (x : Int) : x ∈ marks l ↔ ∃ p ∈ l, inPart x p := by
  simp only [marks, List.mem_flatMap]
  constructor
  · rintro ⟨p, hp, hx⟩
    exact ⟨p, hp, (upTo_mem (h p hp).2.2.2.1 x _ _ (Nat.le_refl _)).1 hx⟩
  · rintro ⟨p, hp, hx⟩
    exact ⟨p, hp, (upTo_mem (h p hp).2.2.2.1 x _ _ (Nat.le_refl _)).2 hx⟩
def rMark (l : List (Int × Int × Int)) (x : Int) : Bool × Int := if gradB l = true then (decide (x ∈ marks l), 0) else (false, 1)
set_option maxHeartbeats 400000 in
theorem iIsMark_any (A : Option Addr) (n c : Nat) (l : List (Int × Int × Int)) (x : Int) (w : World) (hl : l.length = n) (hn : n ≤ 1048576) (hs : Sees w w.heap.size A (cells3 l)) (hr : I64s3 l) :
    Calls Try.prog 20 #[.slice A n c, .int .i64 x] w fun e w' => e = .returned (.tuple #[.bool (rMark l x).1, .int .i64 (rMark l x).2]) ∧ Below w.heap.size w w' := by
  by_cases h : gradB l = true
  · obtain ⟨hg, h1, h2⟩ := gradB_in h
    have Hv := Lib.hid (show rMark l x = (decide (x ∈ marks l), 0) by rw [rMark, if_pos h])
    have Hl := Lib.hid hl
    have hn12 : n ≤ 12 := by omega
    have hml := marks_length hg
    go_enter Try.func20, Try.ntmps20
    go_wp2_with fail
    refine (iIsGraduation_any _ _ _ l _ Hl.out hn hs hr).mono ?_
    rintro e w1 ⟨rfl, b1⟩
    clear hl
    go_wp2_with fail
    refine (marksOf_any _ _ _ l _ Hl.out hn12 ((hs.over b1).wider b1.size) hg).mono ?_
    rintro e w2 ⟨v, rfl, hown, b2⟩
    obtain ⟨A', c', rfl⟩ := ownShape hown
    go_wp2_with fail
    refine (contains_any _ _ _ (marks l) _ _ _ rfl (by omega) (Sees.ofOwn hown)).mono ?_
    rintro e w3 ⟨rfl, rfl⟩
    go_wp2_with fail
    go_ret2
    exact ⟨endBoolInt Hv.out, b1.trans (b2.mono b1.size)⟩
  · have Hv := Lib.hid (show rMark l x = (false, 1) by rw [rMark, if_neg h])
    have Hl := Lib.hid hl
    go_enter Try.func20, Try.ntmps20
    go_wp2_with fail
    refine (iIsGraduation_any _ _ _ l _ Hl.out hn hs hr).mono ?_
    rintro e w1 ⟨rfl, b1⟩
    clear hl
    go_wp2_with fail
    go_ret2
    exact ⟨endBoolInt Hv.out, b1⟩
set_option maxHeartbeats 1000000 in
theorem sIsMark_any (A : Option Addr) (n c : Nat) (l : List (Int × Int × Int)) (x : Int) (w : World) (hl : l.length = n) (hn : n ≤ 1048576) (hs : Sees w w.heap.size A (cells3 l)) (hr : I64s3 l) (hx : I64 x) :
    Calls Try.prog 21 #[.slice A n c, .int .i64 x] w fun e w' => e = .returned (.tuple #[.bool (rMark l x).1, .int .i64 (rMark l x).2]) ∧ Below w.heap.size w w' := by
  unfold I64 at hx
  obtain ⟨x1, x2⟩ := hx
  by_cases h : gradB l = true
  · obtain ⟨hg, h1, h2⟩ := gradB_in h
    have Hv := Lib.hid (show rMark l x = (decide (x ∈ marks l), 0) by rw [rMark, if_pos h])
    have hmm := marks_mem hg x
    have Hm := Lib.hid hmm
    clear hmm
    have hn12 : n ≤ 12 := by omega
    have Hl := Lib.hid hl
    go_enter Try.func21, Try.ntmps21
    go_wp2_with fail
    refine (sIsGraduation_any _ _ _ l _ Hl.out hn hs hr).mono ?_
    rintro e w1 ⟨rfl, b1⟩
    go_wp2_with fail
    go_loopw [6] (fun i wr => ∃ k : Nat, k ≤ n ∧ i = .int .i64 k ∧ (∀ p ∈ l.take k, ¬ inPart x p) ∧ Below w.heap.size w wr) (fun i _ => n - (intOf i).toNat)
    case atStart => exact ⟨0, Nat.zero_le _, rfl, fun p hp => by simp at hp, b1⟩
    case round =>
      obtain ⟨k, hk, rfl, hno, hB⟩ := hrel
      have Hno := Lib.hid hno
      clear hno
      by_cases hlt : k < n
      · obtain ⟨b, off, p, rfl, hb, hp, c0, c1, c2⟩ := (hs.over hB).three (k := k) (by omega)
        obtain ⟨g1, g2, g3, g4, _⟩ := hg p (List.mem_of_getElem? hp)
        have Hp := Lib.hid hp
        have Ht := Lib.hid (show l.take (k + 1) = l.take k ++ [p] by rw [List.take_add_one, hp]; rfl)
        have Hin := Lib.hid (List.mem_of_getElem? hp)
        clear hp hs hg hl hr
        by_cases t1 : p.1 ≤ x
        · by_cases t2 : x < p.2.1
          · have q1 : IntKind.i64.wrap (x - p.1) = x - p.1 := IntWalk.i64_in _ (by omega)
            by_cases t3 : (x - p.1) % p.2.2 = 0
            · have T3 := Lib.hid t3
              have t3' : ((x - p.1) % p.2.2 == 0) = true := by simp [t3]
              clear t3
              go_wp2_with fail
              go_quiet (fail)
              go_wp2
              go_ret2
              exact ⟨endBoolInt (Hv.out.trans (by rw [decide_eq_true (Hm.out.2 ⟨p, Hin.out, t1, t2, T3.out⟩)])), belowDraws hB nq⟩
            · have T3 := Lib.hid t3
              have t3' : ((x - p.1) % p.2.2 == 0) = false := by simp [t3]
              clear t3
              go_wp2_with fail
              go_quiet (fail)
              go_wp2
              go_roundw
              case rel =>
                refine ⟨k + 1, by omega, by go_num, ?_, belowDraws hB nq⟩
                rw [Ht.out]
                intro q hq
                rcases List.mem_append.1 hq with hq | hq
                · exact Hno.out q hq
                · simp at hq; subst hq; exact fun h => T3.out h.2.2
              case measure => simp [intOf]; omega
          · have d2 : decide (x < p.2.1) = false := by simpa using t2
            go_wp2_with fail
            go_quiet (fail)
            go_wp2
            go_roundw
            case rel =>
              refine ⟨k + 1, by omega, by go_num, ?_, belowDraws hB nq⟩
              rw [Ht.out]
              intro q hq
              rcases List.mem_append.1 hq with hq | hq
              · exact Hno.out q hq
              · simp at hq; subst hq; exact fun h => by have := h.2.1; omega
            case measure => simp [intOf]; omega
        · have d1 : decide (p.1 ≤ x) = false := by simpa using t1
          go_wp2_with fail
          go_quiet (fail)
          go_wp2
          go_roundw
          case rel =>
            refine ⟨k + 1, by omega, by go_num, ?_, belowDraws hB nq⟩
            rw [Ht.out]
            intro q hq
            rcases List.mem_append.1 hq with hq | hq
            · exact Hno.out q hq
            · simp at hq; subst hq; exact fun h => by have := h.1; omega
          case measure => simp [intOf]; omega
      · obtain rfl : k = n := by omega
        have Hz := Lib.hid (show ¬ ∃ p ∈ l, inPart x p by
          rintro ⟨p, hp, hi⟩
          exact Hno.out p (by rw [List.take_of_length_le (by omega)]; exact hp) hi)
        clear hl
        go_wp2
        go_ret2
        exact ⟨endBoolInt (Hv.out.trans (by rw [decide_eq_false (fun hh => Hz.out (Hm.out.1 hh))])), hB⟩
  · have Hv := Lib.hid (show rMark l x = (false, 1) by rw [rMark, if_neg h])
    have Hl := Lib.hid hl
    go_enter Try.func21, Try.ntmps21
    go_wp2_with fail
    refine (sIsGraduation_any _ _ _ l _ Hl.out hn hs hr).mono ?_
    rintro e w1 ⟨rfl, b1⟩
    clear hl
    go_wp2_with fail
    go_ret2
    exact ⟨endBoolInt Hv.out, b1⟩
end Go.Proofs.Ytkblmcpklpmobaa
