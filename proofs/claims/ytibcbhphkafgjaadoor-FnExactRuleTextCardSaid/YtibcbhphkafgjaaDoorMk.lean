/- The marks of a graduation (layer 7): the lists that both functions make. No condition. -/
import Derived.Test.YtibcbhphkafgjaaDoorGrad
import Derived.Outline
namespace Go.Proofs.YtibcbhphkafgjaaDoor
open Go.RowKit
set_option linter.unusedVariables false

/-- the numbers n, n + step .. below 'to' -/
def climb (to step : Int) : Nat → Int → List Int
  | 0, _ => []
  | f + 1, n => if n < to then n :: climb to step f (n + step) else []
def upTo (to step n : Int) : List Int := climb to step (to - n).toNat n
theorem climb_more {to step : Int} (hs : 1 ≤ step) : ∀ (f g : Nat) (n : Int), (to - n).toNat ≤ f → (to - n).toNat ≤ g → climb to step f n = climb to step g n
  | 0, 0, _, _, _ => rfl
  | 0, g + 1, n, h, _ => by rw [climb, climb, if_neg (by omega)]
  | f + 1, 0, n, _, h => by rw [climb, climb, if_neg (by omega)]
  | f + 1, g + 1, n, h, h' => by
    rw [climb, climb]
    by_cases hn : n < to
    · rw [if_pos hn, if_pos hn, climb_more hs f g (n + step) (by omega) (by omega)]
    · rw [if_neg hn, if_neg hn]
theorem upTo_step {to step n : Int} (hs : 1 ≤ step) (hn : n < to) : upTo to step n = n :: upTo to step (n + step) := by
  unfold upTo
  obtain ⟨f, hf⟩ : ∃ f, (to - n).toNat = f + 1 := ⟨(to - n).toNat - 1, by omega⟩
  rw [hf, climb, if_pos hn, climb_more hs f (to - (n + step)).toNat (n + step) (by omega) (Nat.le_refl _)]
theorem upTo_end {to step n : Int} (hn : to ≤ n) : upTo to step n = [] := by
  unfold upTo
  rw [show (to - n).toNat = 0 by omega, climb]
theorem climb_length (to step : Int) (f : Nat) (n : Int) : (climb to step f n).length ≤ f := by
  induction f generalizing n with
  | zero => simp [climb]
  | succ f ih =>
    rw [climb]
    split
    · have := ih (n + step); simp; omega
    · simp
def marksP (p : Int × Int × Int) : List Int := upTo p.2.1 p.2.2 p.1
def marks (l : List (Int × Int × Int)) : List Int := l.flatMap marksP
/-- a part that can stand in a graduation -/
def partIn (p : Int × Int × Int) : Prop := 1000 ≤ p.1 ∧ p.1 < p.2.1 ∧ p.2.1 ≤ 10000 ∧ 1 ≤ p.2.2 ∧ (p.2.1 - p.1) % p.2.2 = 0
def partsIn (l : List (Int × Int × Int)) : Prop := ∀ p ∈ l, partIn p
theorem partIn_step {p : Int × Int × Int} (h : partIn p) : p.2.2 ≤ 9000 := by
  obtain ⟨h1, h2, h3, h4, h5⟩ := h
  by_cases hc : p.2.1 - p.1 < p.2.2
  · rw [Int.emod_eq_of_lt (by omega) hc] at h5
    omega
  · omega
theorem gradRun_in : ∀ (l : List (Int × Int × Int)) (a b : Int), 1000 ≤ a → gradRun a l = some b → partsIn l
  | [], _, _, _, _ => fun p hp => by cases hp
  | p :: r, a, b, ha, h => by
    rw [gradRun] at h
    split at h
    · rename_i hk
      obtain ⟨h1, h2, h3, h4, h5⟩ := hk
      intro q hq
      rcases List.mem_cons.1 hq with rfl | hq
      · exact ⟨by omega, h2, h3, h4, h5⟩
      · exact gradRun_in r p.2.1 b (by omega) h q hq
    · cases h
theorem gradB_in {l : List (Int × Int × Int)} (h : gradB l = true) : partsIn l ∧ 1 ≤ l.length ∧ l.length ≤ 12 := by
  simp only [gradB, Bool.and_eq_true, decide_eq_true_eq] at h
  exact ⟨gradRun_in l 1000 10000 (by omega) h.2, h.1.1, h.1.2⟩
theorem marksP_length {p : Int × Int × Int} (h : partIn p) : (marksP p).length ≤ 9000 := by
  obtain ⟨h1, h2, h3, h4, _⟩ := h
  have := climb_length p.2.1 p.2.2 (p.2.1 - p.1).toNat p.1
  unfold marksP upTo
  omega
theorem marks_length : ∀ {l : List (Int × Int × Int)}, partsIn l → (marks l).length ≤ 9000 * l.length
  | [], _ => by simp [marks]
  | p :: r, h => by
    have h1 := marksP_length (h p (List.mem_cons_self ..))
    have h2 := marks_length (l := r) (fun q hq => h q (List.mem_cons_of_mem _ hq))
    simp only [marks, List.flatMap_cons, List.length_append, List.length_cons] at *
    omega
theorem drop_at {l : List (Int × Int × Int)} {k : Nat} {p : Int × Int × Int} (hp : l[k]? = some p) : l.drop k = p :: l.drop (k + 1) := by
  obtain ⟨hk, e⟩ := List.getElem?_eq_some_iff.1 hp
  rw [List.drop_eq_getElem_cons hk, e]

/-- a row that the call owns and a block of another element type are two blocks -/
theorem ownNe {w : World} {base g : Nat} {e t : TypeId} {size n : Nat} {v : Value} {xs : List Value} {cs : Array Value} (h : w.ownsRow base e size v n xs) (hF : Full w g t cs) (hne : e ≠ t) : some g ≠ v.ownBlock := by
  rcases h.2 with ⟨rfl, _⟩ | ⟨g', cap, cur, rfl, _, hh, _⟩
  · simp [Value.ownBlock]
  · intro he
    simp only [Value.ownBlock, Option.some.injEq] at he
    subst he
    unfold Full at hF
    rw [hh] at hF
    injection hF with hF
    injection hF with _ h2
    exact hne h2
theorem ownShape {w : World} {base : Nat} {e : TypeId} {size n : Nat} {v : Value} {xs : List Value} (h : w.ownsRow base e size v n xs) : ∃ A c, v = .slice A n c := by
  rcases h.2 with ⟨rfl, rfl⟩ | ⟨g', cap, cur, rfl, _⟩
  · exact ⟨none, 0, rfl⟩
  · exact ⟨_, _, rfl⟩
theorem infoI64 : (Tryd.prog.info? 2).map (fun i => (i.zero, i.size, i.bytes)) = some (some (.int .i64 0), 1, 8) := by kernel_rfl
end Go.Proofs.YtibcbhphkafgjaaDoor
