/- The figures of a scale and the readings (layer 6). No condition. -/
import Derived.Test.YthnjiiodpjielaaPt
import Derived.Test.YthnjiiodpjielaaMk
import Derived.Test.YthnjiiodpjielaaOwn0
namespace Go.Proofs.Ythnjiiodpjielaa
open Go.RowKit
set_option linter.unusedVariables false
set_option linter.unusedSimpArgs false

/-- the cells of a slice of structs of two int64 fields -/
def cells2 : List (Int × Int) → List Value
  | [] => []
  | p :: r => .int .i64 p.1 :: .int .i64 p.2 :: cells2 r
theorem cells2_length (l : List (Int × Int)) : (cells2 l).length = 2 * l.length := by
  induction l with
  | nil => rfl
  | cons x r ih => simp only [cells2, List.length_cons, ih]; omega
theorem cells2_append (l r : List (Int × Int)) : cells2 (l ++ r) = cells2 l ++ cells2 r := by
  induction l with
  | nil => rfl
  | cons x l ih => simp only [List.cons_append, cells2, ih]
theorem cells2_at : ∀ (l : List (Int × Int)) (i : Nat) (p : Int × Int), l[i]? = some p → (cells2 l)[2 * i]? = some (.int .i64 p.1) ∧ (cells2 l)[2 * i + 1]? = some (.int .i64 p.2)
  | [], i, p, h => by simp at h
  | x :: r, 0, p, h => by simp at h; subst h; exact ⟨rfl, rfl⟩
  | x :: r, i + 1, p, h => by
    have ih := cells2_at r i p (by simpa using h)
    rw [show 2 * (i + 1) = 2 * i + 1 + 1 by omega]
    simp only [cells2, List.getElem?_cons_succ]
    exact ih
theorem Sees.two {w : World} {B : Nat} {A : Option Addr} {l : List (Int × Int)} (hs : Sees w B A (cells2 l)) {k : Nat} (hk : k < l.length) :
    ∃ b off p, A = some ⟨b, off, none⟩ ∧ b < B ∧ l[k]? = some p ∧ w.cell? ⟨b, off + k * 2, none⟩ = some (.int .i64 p.1) ∧ w.cell? ⟨b, off + k * 2 + 1, none⟩ = some (.int .i64 p.2) := by
  obtain ⟨b, off, e, hb, hcell⟩ := hs.addr (by rw [cells2_length]; omega)
  have hp : l[k]? = some l[k] := List.getElem?_eq_getElem hk
  obtain ⟨a0, a1⟩ := cells2_at l k _ hp
  refine ⟨b, off, l[k], e, hb, hp, ?_, ?_⟩
  · rw [show off + k * 2 = off + 2 * k by omega]; exact hcell _ _ a0
  · rw [show off + k * 2 + 1 = off + (2 * k + 1) by omega]; exact hcell _ _ a1
/-- figure number n of a scale -/
def figAt (n : Nat) : Int × Int := (1000 + 10 * ((n % 900 : Nat) : Int), ((n / 900 : Nat) : Int))
def figsN (N : Nat) : List (Int × Int) := (List.range N).map figAt
def nFigs (s : Int) : Nat := 900 * (decades s).toNat
theorem figsN_length (N : Nat) : (figsN N).length = N := by simp [figsN]
theorem figsN_snoc (N : Nat) : figsN (N + 1) = figsN N ++ [figAt N] := by simp [figsN, List.range_succ]
theorem figAt_of {k j : Nat} (h : j < 900) : figAt (900 * k + j) = (1000 + 10 * (j : Int), (k : Int)) := by
  unfold figAt
  rw [show (900 * k + j) % 900 = j by omega, show (900 * k + j) / 900 = k by omega]
theorem figAt_bd (n : Nat) : Dig (figAt n).1 ∧ 0 ≤ (figAt n).2 := by
  unfold figAt Dig
  exact ⟨⟨by simp only; omega, by simp only; omega⟩, by simp only; omega⟩
theorem figAt_tens {n : Nat} (h : n ≤ 2700) : (figAt n).2 ≤ 3 := by
  unfold figAt
  simp only
  omega
theorem nFigs_bd (s : Int) : 900 ≤ nFigs s ∧ nFigs s ≤ 2700 := by
  have := decades_bd s
  unfold nFigs
  omega
theorem figsN_at {N k : Nat} (h : k < N) : (figsN N)[k]? = some (figAt k) := by simp [figsN, h]
theorem infoFig : (Try.prog.info? 43).map (fun i => (i.zero, i.size, i.bytes)) = some (some (.agg #[.int .i64 0, .int .i64 0]), 2, 16) := by kernel_rfl
set_option maxRecDepth 100000 in
set_option maxHeartbeats 2000000 in
theorem figuresOf_any (s : Int) (w : World) (s1 : 0 ≤ s) (s2 : s ≤ 5) :
    Calls Try.prog 138 #[.int .i64 s] w fun e w' => ∃ v, e = .returned v ∧ w'.ownsRow w.heap.size 43 2 v (figsN (nFigs s)).length (cells2 (figsN (nFigs s))) ∧ Below w.heap.size w w' := by
  obtain ⟨i0, hi, hz0, hz1, hz2⟩ := info_parts infoFig
  obtain ⟨D, hD⟩ : ∃ D : Nat, decades s = (D : Int) := ⟨(decades s).toNat, by have := decades_bd s; omega⟩
  have hD2 : 1 ≤ D ∧ D ≤ 3 := by have := decades_bd s; omega
  have HD := Lib.hid (show nFigs s = 900 * D by unfold nFigs; rw [hD]; rfl)
  have DC := fun W => decadesOf_any s W s1 s2
  rw [hD] at DC
  clear hD
  go_enter Try.func138, Try.ntmps138
  go_wp2_with (go_at_call 88; refine (DC _).mono ?_; rintro e w' ⟨rfl, rfl⟩)
  go_loopw [3, 9] (fun v i wr => ∃ k : Nat, k ≤ D ∧ i = .int .i64 k ∧ wr.ownsRow w.heap.size 43 2 v (figsN (900 * k)).length (cells2 (figsN (900 * k))) ∧ Below w.heap.size w wr) (fun _ i _ => D - (intOf i).toNat)
  case atStart => exact ⟨0, Nat.zero_le _, rfl, (World.ownsRow_made w #[] 0 (Nat.le_refl _) (Nat.zero_le _) rfl).alloc _, by repeat' (first | exact Below.refl _ _ | assumption | refine Below.alloc ?_ (by first | omega | (simp; done) | (simp; omega)) _ | refine Below.drew ?_ | refine Below.setCell ?_ (by first | omega | (simp; done) | (simp; omega)) _)⟩
  case round =>
    obtain ⟨k, hk, rfl, hown0, hB0⟩ := hrel
    by_cases hlt : k < D
    · obtain ⟨wo, rfl⟩ : ∃ wo : World, wo = wr := ⟨_, rfl⟩
      have i0' : (k : Int) < (D : Int) := by omega
      clear DC
      go_wp2_with fail
      go_loopw [3, 5] (fun v x wr => ∃ j : Nat, j ≤ 900 ∧ x = .int .i64 (1000 + 10 * (j : Int)) ∧ wr.ownsRow w.heap.size 43 2 v (figsN (900 * k + j)).length (cells2 (figsN (900 * k + j))) ∧ Below w.heap.size w wr) (fun _ x _ => (10000 - intOf x).toNat)
      case atStart => exact ⟨0, Nat.zero_le _, rfl, hown0, hB0⟩
      case round =>
        obtain ⟨j, hj, rfl, hown, hB⟩ := hrel
        have hz := hB.size
        have hln : (figsN (900 * k + j)).length ≤ 2700 := by rw [figsN_length]; omega
        by_cases hlt2 : j < 900
        · have ht : (1000 + 10 * (j : Int)) < 10000 := by omega
          have HS := Lib.hid (show figsN (900 * k + (j + 1)) = figsN (900 * k + j) ++ [(1000 + 10 * (j : Int), (k : Int))] by rw [← figAt_of hlt2, ← figsN_snoc]; rfl)
          go_wp2_with (first | (at_builtin; refine wpList_append_own _ rfl _ _ 106 rfl w.heap.size 43 i0 (.agg #[.int .i64 0, .int .i64 0]) 2 16 Try.underlying106 hi hz0 hz1 hz2 rfl (by decide) _ _ _ rfl (hown.alloc _) ⟨wr.heap.size, 0, none⟩ 1 1 [.int .i64 (1000 + 10 * (j : Int)), .int .i64 k] rfl rfl ?_ ?_ ?_ ?_ ?_ ?_; exact newsNew _ _ _; (intro u hu; simp at hu; rcases hu with rfl | rfl <;> rfl); (unfold maxLen; omega); omega; (simp; omega); intro v' w1 hown1 hgr1 _; have hB1 := (hB.alloc hz _).grown hgr1 (by simp; omega) (fun k hk => (hown.lt k hk).1)))
          go_roundw
          case rel =>
            refine ⟨j + 1, by omega, by go_num, ?_, hB1⟩
            rw [HS.out, cells2_append, List.length_append]
            exact hown1
          case measure => simp [intOf]; omega
        · obtain rfl : j = 900 := by omega
          go_wp2_with fail
          go_roundw
          case rel => exact ⟨k + 1, by omega, by go_num, hown, hB⟩
          case measure => simp [intOf]; omega
    · obtain rfl : k = D := by omega
      go_wp2_with fail
      go_ret
      exact ⟨_, rfl, by rw [HD.out]; exact hown0, hB0⟩
end Go.Proofs.Ythnjiiodpjielaa
