/- Texts in plain Lean (layers 1 and 7): cutting at a byte, joining, numbers in decimal read by both ways. No program. No condition. -/
import Derived.Lib.SplitLaws
import Derived.Lib.Join
import Derived.Lib.ParseIntBTie
import Derived.Lib.ItoaNum
import Derived.Lib.ItoaLen
import Derived.Lib.Atoi
namespace Go.Proofs.YtibcbhphkafgjaaDoor
set_option linter.unusedVariables false
set_option linter.unusedSimpArgs false

/-- a list cut at a byte; 'cur' is the piece that has begun -/
def splF (c : UInt8) : List UInt8 → List UInt8 → List (List UInt8)
  | cur, [] => [cur]
  | cur, b :: l => if b = c then cur :: splF c [] l else splF c (cur ++ [b]) l
theorem splF_none {c : UInt8} : ∀ (l cur : List UInt8), c ∉ l → splF c cur l = [cur ++ l]
  | [], cur, _ => by simp [splF]
  | b :: l, cur, h => by
    have hb : b ≠ c := fun e => h (by simp [e])
    rw [splF, if_neg hb, splF_none l _ (fun e => h (by simp [e]))]
    simp
theorem splF_hit {c : UInt8} (r : List UInt8) : ∀ (a cur : List UInt8), c ∉ a → splF c cur (a ++ c :: r) = (cur ++ a) :: splF c [] r
  | [], cur, _ => by simp [splF]
  | b :: a, cur, h => by
    have hb : b ≠ c := fun e => h (by simp [e])
    rw [List.cons_append, splF, if_neg hb, splF_hit r a _ (fun e => h (by simp [e]))]
    simp
theorem splF_ne {c : UInt8} : ∀ (l cur : List UInt8), splF c cur l ≠ []
  | [], cur => by simp [splF]
  | b :: l, cur => by
    rw [splF]
    split
    · simp
    · exact splF_ne l _
theorem splF_len {c : UInt8} : ∀ (l cur : List UInt8), (splF c cur l).length ≤ l.length + 1
  | [], cur => by simp [splF]
  | b :: l, cur => by
    rw [splF]
    split
    · have := splF_len (c := c) l []
      simp; omega
    · have := splF_len (c := c) l (cur ++ [b])
      simp; omega
theorem splF_piece {c : UInt8} : ∀ (l cur p : List UInt8), p ∈ splF c cur l → p.length ≤ cur.length + l.length
  | [], cur, p, h => by simp [splF] at h; subst h; simp
  | b :: l, cur, p, h => by
    rw [splF] at h
    split at h
    · rcases List.mem_cons.1 h with h | h
      · subst h; omega
      · have := splF_piece l [] p h
        simp at this ⊢; omega
    · have := splF_piece l _ p h
      simp at this ⊢; omega
theorem index_one (c : UInt8) : ∀ s : List UInt8, (Lib.index s [c] = -1 ∧ c ∉ s) ∨ ∃ a r, s = a ++ c :: r ∧ c ∉ a ∧ Lib.index s [c] = a.length
  | [] => .inl ⟨by simp [Lib.index], by simp⟩
  | b :: l => by
    by_cases h : b = c
    · subst h
      exact .inr ⟨[], l, rfl, by simp, by rw [Lib.index]; simp [List.isPrefixOf]⟩
    · have hp : ([c] : List UInt8).isPrefixOf (b :: l) = false := by simp [List.isPrefixOf, Ne.symm h]
      have hix : Lib.index (b :: l) [c] = if Lib.index l [c] == -1 then -1 else Lib.index l [c] + 1 := by rw [Lib.index, hp]; simp
      rcases index_one c l with ⟨h1, h2⟩ | ⟨a, r, h1, h2, h3⟩
      · exact .inl ⟨by rw [hix, if_pos (beq_iff_eq.2 h1)], by simp [Ne.symm h, h2]⟩
      · refine .inr ⟨b :: a, r, by rw [h1]; rfl, by simp [Ne.symm h, h2], ?_⟩
        rw [hix, if_neg (fun e => by have := beq_iff_eq.1 e; omega), h3]
        simp
theorem splitK_splF (c : UInt8) : ∀ (k : Nat) (s : List UInt8), Lib.count s [c] = k → Lib.splitK [c] 0 k s = splF c [] s
  | 0, s, h => by
    rw [Lib.count_one, List.count_eq_zero] at h
    rw [splF_none s [] h]
    rfl
  | k + 1, s, h => by
    rcases index_one c s with ⟨h1, h2⟩ | ⟨a, r, h1, h2, h3⟩
    · rw [Lib.count_one, List.count_eq_zero.2 h2] at h
      omega
    · have hc : Lib.count r [c] = k := by
        rw [Lib.count_one] at h ⊢
        rw [h1, List.count_append, List.count_eq_zero.2 h2, List.count_cons_self] at h
        omega
      rw [Lib.splitK, if_neg (fun e => by have := beq_iff_eq.1 e; omega), h3]
      have e1 : s.take ((a.length : Int).toNat + 0) = a := by rw [h1]; simp
      have e2 : s.drop ((a.length : Int).toNat + [c].length) = r := by
        rw [h1, Int.toNat_natCast, List.length_singleton, List.drop_append]
        simp
      rw [e1, e2, splitK_splF c k r hc, h1, splF_hit r a [] h2]
      rfl
theorem join_two (x : List UInt8) {R : List (List UInt8)} (c : UInt8) (h : R ≠ []) : Lib.join (x :: R) [c] = x ++ c :: Lib.join R [c] := by
  cases R with
  | nil => exact absurd rfl h
  | cons y r =>
    rw [Lib.join_cons, Lib.join_cons]
    simp [Lib.joinTail]
theorem join_splF {c : UInt8} : ∀ (l cur : List UInt8), Lib.join (splF c cur l) [c] = cur ++ l
  | [], cur => by rw [splF, Lib.join_one]; simp
  | b :: l, cur => by
    rw [splF]
    split
    · rename_i h
      rw [join_two _ _ (splF_ne l []), join_splF l [], h]
      simp
    · rw [join_splF l _]
      simp
theorem splF_join {c : UInt8} : ∀ (ws : List (List UInt8)), ws ≠ [] → (∀ w ∈ ws, c ∉ w) → splF c [] (Lib.join ws [c]) = ws
  | [], h, _ => absurd rfl h
  | [w], _, h => by rw [Lib.join_one, splF_none w [] (h w (by simp))]; rfl
  | w :: v :: ws, _, h => by
    rw [join_two w c (by simp), splF_hit _ w [] (h w (by simp)), splF_join (v :: ws) (by simp) (fun x hx => h x (List.mem_cons_of_mem _ hx))]
    rfl
/-- one step of a loop over the bytes -/
theorem splF_at {c : UInt8} {l : List UInt8} {k : Nat} {b : UInt8} (cur : List UInt8) (h : l[k]? = some b) : splF c cur (l.drop k) = if b = c then cur :: splF c [] (l.drop (k + 1)) else splF c (cur ++ [b]) (l.drop (k + 1)) := by
  obtain ⟨hk, e⟩ := List.getElem?_eq_some_iff.1 h
  rw [List.drop_eq_getElem_cons hk, e, splF]

/-! ### numbers in decimal -/
theorem tDig (k : Nat) (h : k < 10) : (UInt8.ofNat (48 + k)).toNat = 48 + k := by rw [UInt8.toNat_ofNat']; omega
theorem tSmall {n : Nat} (h : n < 10) : Lib.decDigits n = [UInt8.ofNat (48 + n)] := by rw [Lib.decDigits, dif_pos h]
theorem tMore {n : Nat} (h : ¬ n < 10) : Lib.decDigits n = Lib.decDigits (n / 10) ++ [UInt8.ofNat (48 + n % 10)] := by rw [Lib.decDigits, dif_neg h]
theorem tDigits : ∀ (f n : Nat), n ≤ f → ∀ b ∈ Lib.decDigits n, 48 ≤ b.toNat ∧ b.toNat ≤ 57
  | 0, n, h, b, hb => by
    rw [tSmall (by omega), List.mem_singleton] at hb
    subst hb
    have := tDig n (by omega); omega
  | f + 1, n, h, b, hb => by
    by_cases h1 : n < 10
    · rw [tSmall h1, List.mem_singleton] at hb
      subst hb
      have := tDig n h1; omega
    · rw [tMore h1] at hb
      rcases List.mem_append.1 hb with hb | hb
      · exact tDigits f (n / 10) (by omega) b hb
      · rw [List.mem_singleton] at hb; subst hb
        have := tDig (n % 10) (by omega); omega
theorem tNe (n : Nat) : Lib.decDigits n ≠ [] := by
  by_cases h : n < 10
  · rw [tSmall h]; simp
  · rw [tMore h]; simp
theorem tDec (r : List UInt8) : ∀ (f n : Nat), n ≤ f → ∀ r, Lib.decFrom 0 (Lib.decDigits n ++ r) = Lib.decFrom n r
  | 0, n, h, r => by
    have hn : n = 0 := by omega
    subst hn
    rw [tSmall (by omega)]
    simp [Lib.decFrom, Lib.digitVal]
  | f + 1, n, h, r => by
    have hd : ∀ k, k < 10 → Lib.digitVal (UInt8.ofNat (48 + k)) = some k := fun k hk => by
      have := tDig k hk
      rw [Lib.digitVal, if_pos (by omega), this]
      simp
    by_cases h1 : n < 10
    · rw [tSmall h1]
      simp only [List.cons_append, List.nil_append, Lib.decFrom, hd n h1]
      simp
    · rw [tMore h1, List.append_assoc, tDec r f (n / 10) (by omega)]
      simp only [List.cons_append, List.nil_append, Lib.decFrom, hd (n % 10) (by omega)]
      congr 1
      omega
theorem tMag : ∀ (f n : Nat), n ≤ f → n ≤ 18446744073709551615 → ∀ r, Lib.parseUintM 18446744073709551615 0 (Lib.decDigits n ++ r) = Lib.parseUintM 18446744073709551615 n r
  | 0, n, h, _, r => by
    have hn : n = 0 := by omega
    subst hn
    rw [tSmall (by omega)]
    simp [Lib.parseUintM]
  | f + 1, n, h, hn, r => by
    have hd : ∀ k acc, k < 10 → acc * 10 + k ≤ 18446744073709551615 → ∀ t, Lib.parseUintM 18446744073709551615 acc (UInt8.ofNat (48 + k) :: t) = Lib.parseUintM 18446744073709551615 (acc * 10 + k) t := fun k acc hk hm t => by
      have := tDig k hk
      rw [Lib.parseUintM, if_pos (by omega), if_neg (by omega), if_neg (by omega), this]
      congr 1
      omega
    by_cases h1 : n < 10
    · rw [tSmall h1]
      simp only [List.cons_append, List.nil_append]
      rw [hd n 0 h1 (by omega)]
      congr 1
      omega
    · rw [tMore h1, List.append_assoc, tMag f (n / 10) (by omega) (by omega)]
      simp only [List.cons_append, List.nil_append]
      rw [hd (n % 10) (n / 10) (by omega) (by omega)]
      congr 1
      omega
theorem tUint {n : Nat} (h : n ≤ 18446744073709551615) : Lib.parseUintB 64 (Lib.decDigits n) = .ok n := by
  have := tMag n n (Nat.le_refl _) h []
  rw [List.append_nil] at this
  rw [Lib.parseUintB, if_neg (tNe n)]
  show Lib.parseUintM 18446744073709551615 0 _ = _
  rw [this]; rfl
theorem tParse {v : Int} (h0 : -9223372036854775808 ≤ v) (h1 : v ≤ 9223372036854775807) : Lib.parseIntB 64 (Lib.itoa v) = .ok v := by
  unfold Lib.itoa
  split
  · rename_i hv
    rw [Lib.parseIntB]
    simp only [show (45 : UInt8).toNat = 45 from rfl, show (45 : Nat) = 43 ∨ True from .inr trivial, or_true, if_true]
    rw [tUint (by omega)]
    simp only [not_true_eq_false, false_and, if_false, true_and]
    rw [if_neg (by omega)]
    congr 1
    omega
  · rename_i hv
    have ht := tUint (n := v.toNat) (by omega)
    have hd := tDigits v.toNat v.toNat (Nat.le_refl _)
    cases hl : Lib.decDigits v.toNat with
    | nil => exact absurd hl (tNe _)
    | cons c r =>
      rw [hl] at ht hd
      have hc := hd c (by simp)
      rw [Lib.parseIntB]
      have n1 : ¬ c.toNat = 43 := by omega
      have n2 : ¬ c.toNat = 45 := by omega
      have n3 : ¬ (2 ^ (64 - 1) ≤ v.toNat) := by simp; omega
      simp only [n1, n2, or_self, if_false, ht, n3, not_false_eq_true, true_and, false_and]
      exact congrArg Lib.NumEnd.ok (by omega)
/-- a number of at most thirteen digits, as the reference reads it -/
def valR (l : List UInt8) : Nat × Bool :=
  if 1 ≤ l.length ∧ l.length ≤ 13 then match Lib.decFrom 0 l with
    | some n => (n, decide (Lib.decDigits n = l))
    | none => (0, false)
  else (0, false)
theorem tPow {n : Nat} (h : (Lib.decDigits n).length ≤ 13) : n < 10000000000000 := by
  rw [Lib.decDigits_length] at h
  have := Lib.lt_pow_nDigits n
  have h2 : 10 ^ Lib.nDigits n ≤ 10 ^ 13 := Nat.pow_le_pow_right (by decide) h
  omega
theorem tLen {n : Nat} (h : n < 10000000000000) : (Lib.decDigits n).length ≤ 13 := by
  rw [Lib.decDigits_length]
  by_cases h0 : Lib.nDigits n ≤ 13
  · exact h0
  exfalso
  obtain ⟨k, hk⟩ : ∃ k, Lib.nDigits n = k + 1 := ⟨Lib.nDigits n - 1, by omega⟩
  by_cases hz : n < 10
  · rw [Lib.nDigits_small hz] at h0; omega
  · have hp : 10 ^ k ≤ n := by
      by_cases hp : 10 ^ k ≤ n
      · exact hp
      · exfalso
        have hlt : n < 10 ^ k := by omega
        have : ∀ (m u : Nat), u < 10 ^ m → 1 ≤ m → Lib.nDigits u ≤ m := by
          intro m
          induction m with
          | zero => intro u _ h; omega
          | succ m ih =>
            intro u hu _
            by_cases h10 : u < 10
            · rw [Lib.nDigits_small h10]; omega
            · rw [Lib.nDigits_big h10]
              by_cases hm : m = 0
              · subst hm; simp at hu; omega
              · have := ih (u / 10) (by rw [Nat.pow_succ] at hu; omega) (by omega)
                omega
        have := this k n hlt (by omega)
        omega
    have h3 : 10 ^ 13 ≤ 10 ^ k := Nat.pow_le_pow_right (by decide) (by omega)
    omega
theorem valR_ok {l : List UInt8} (h : (valR l).2 = true) : Lib.decDigits (valR l).1 = l ∧ (valR l).1 < 10000000000000 := by
  unfold valR at h ⊢
  split at h
  · rename_i hl
    rw [if_pos hl]
    cases hd : Lib.decFrom 0 l with
    | none => rw [hd] at h; cases h
    | some n =>
      rw [hd] at h
      have h : Lib.decDigits n = l := of_decide_eq_true h
      exact ⟨h, tPow (by rw [h]; exact hl.2)⟩
  · cases h
theorem valR_dec {n : Nat} (h : n < 10000000000000) : valR (Lib.decDigits n) = (n, true) := by
  have h1 : 1 ≤ (Lib.decDigits n).length := List.length_pos_iff.2 (tNe n)
  have h2 := tDec [] n n (Nat.le_refl _) []
  rw [List.append_nil] at h2
  rw [valR, if_pos ⟨h1, tLen h⟩, h2]
  simp [Lib.decFrom]
/-- a number with a sign, as the reference reads it -/
def sgnR (l : List UInt8) : Int × Bool :=
  if l.head? = some 45 then (-((valR (l.drop 1)).1 : Int), (valR (l.drop 1)).2 && decide (0 < (valR (l.drop 1)).1)) else ((valR l).1, (valR l).2)
/-- a number, as the program reads it -/
def numR (l : List UInt8) : Int × Bool :=
  match Lib.parseIntB 64 l with
  | .ok v => if Lib.itoa v = l then (v, true) else (0, false)
  | _ => (0, false)
theorem numR_ok {l : List UInt8} (h : (numR l).2 = true) : Lib.itoa (numR l).1 = l ∧ -9223372036854775808 ≤ (numR l).1 ∧ (numR l).1 ≤ 9223372036854775807 := by
  unfold numR at h ⊢
  rcases hp : Lib.parseIntB 64 l with v | _ | _
  · rw [hp] at h
    have hb := Lib.parseIntB_bounds hp
    by_cases hi : Lib.itoa v = l
    · simp only [hi, if_true]
      simp at hb
      exact ⟨trivial, by omega, by omega⟩
    · simp [hi] at h
  · rw [hp] at h; cases h
  · rw [hp] at h; cases h
theorem numR_itoa {v : Int} (h0 : -9223372036854775808 ≤ v) (h1 : v ≤ 9223372036854775807) : numR (Lib.itoa v) = (v, true) := by
  unfold numR
  rw [tParse h0 h1]
  simp
theorem sgnR_ok {l : List UInt8} (h : (sgnR l).2 = true) : Lib.itoa (sgnR l).1 = l ∧ -10000000000000 < (sgnR l).1 ∧ (sgnR l).1 < 10000000000000 := by
  unfold sgnR at h ⊢
  by_cases hh : l.head? = some 45
  · rw [if_pos hh] at h ⊢
    simp only [Bool.and_eq_true, decide_eq_true_eq] at h
    obtain ⟨h1, h2⟩ := h
    obtain ⟨h3, h4⟩ := valR_ok h1
    refine ⟨?_, by show _ < -((valR (l.drop 1)).1 : Int); omega, by show -((valR (l.drop 1)).1 : Int) < _; omega⟩
    rw [Lib.itoa, if_pos (by show -((valR (l.drop 1)).1 : Int) < 0; omega)]
    show 45 :: Lib.decDigits (-((valR (l.drop 1)).1 : Int)).natAbs = l
    rw [Int.natAbs_neg, Int.natAbs_natCast, h3]
    cases l with
    | nil => cases hh
    | cons b r => simp at hh; subst hh; rfl
  · rw [if_neg hh] at h ⊢
    obtain ⟨h3, h4⟩ := valR_ok h
    refine ⟨?_, by show _ < ((valR l).1 : Int); omega, by show ((valR l).1 : Int) < _; omega⟩
    rw [Lib.itoa, if_neg (by show ¬ ((valR l).1 : Int) < 0; omega)]
    show Lib.decDigits ((valR l).1 : Int).toNat = l
    rw [Int.toNat_natCast, h3]
theorem sgnR_itoa {v : Int} (h0 : -10000000000000 < v) (h1 : v < 10000000000000) : sgnR (Lib.itoa v) = (v, true) := by
  unfold Lib.itoa sgnR
  by_cases hv : v < 0
  · rw [if_pos hv, if_pos (show (45 :: Lib.decDigits v.natAbs).head? = some 45 from rfl)]
    have e : valR ((45 :: Lib.decDigits v.natAbs).drop 1) = (v.natAbs, true) := valR_dec (by omega)
    rw [e]
    refine Prod.ext ?_ ?_
    · show -((v.natAbs : Nat) : Int) = v; omega
    · show (true && decide (0 < v.natAbs)) = true
      rw [decide_eq_true (by omega)]; rfl
  · rw [if_neg hv]
    have hh : ¬ (Lib.decDigits v.toNat).head? = some 45 := fun e => by
      have := tDigits v.toNat v.toNat (Nat.le_refl _) 45 (List.mem_of_mem_head? (by rw [e]; rfl))
      simp at this
    rw [if_neg hh, valR_dec (by omega)]
    refine Prod.ext ?_ rfl
    show ((v.toNat : Nat) : Int) = v; omega
theorem sgn_num {l : List UInt8} (h : (sgnR l).2 = true) : numR l = sgnR l := by
  obtain ⟨h1, h2, h3⟩ := sgnR_ok h
  have := numR_itoa (v := (sgnR l).1) (by omega) (by omega)
  rw [h1] at this
  rw [this]
  exact Prod.ext rfl h.symm
theorem num_sgn {l : List UInt8} (h : (numR l).2 = true) (h0 : -10000000000000 < (numR l).1) (h9 : (numR l).1 < 10000000000000) : sgnR l = numR l := by
  obtain ⟨h1, h2, h3⟩ := numR_ok h
  have := sgnR_itoa h0 h9
  rw [h1] at this
  rw [this]
  exact Prod.ext rfl h.symm
theorem itoa_no {v : Int} {c : UInt8} (hc : c.toNat < 45 ∨ c.toNat = 47) : c ∉ Lib.itoa v := fun h => by
  unfold Lib.itoa at h
  split at h
  · rcases List.mem_cons.1 h with h | h
    · subst h; simp at hc
    · have := tDigits _ _ (Nat.le_refl _) c h; omega
  · have := tDigits _ _ (Nat.le_refl _) c h; omega

/-! ### rows of numbers, graduations -/
def numsA (f : List UInt8 → Int × Bool) : List Int → List (List UInt8) → Option (List Int)
  | out, [] => some out
  | out, w :: ws => if (f w).2 = true then numsA f (out ++ [(f w).1]) ws else none
def three : Option (List Int) → Option (Int × Int × Int)
  | some [a, b, c] => some (a, b, c)
  | _ => none
def partR (f : List UInt8 → Int × Bool) (w : List UInt8) : Option (Int × Int × Int) := three (numsA f [] (splF 47 [] w))
def gradA (f : List UInt8 → Int × Bool) : List (Int × Int × Int) → List (List UInt8) → Option (List (Int × Int × Int))
  | out, [] => some out
  | out, w :: ws => match partR f w with
    | some p => gradA f (out ++ [p]) ws
    | none => none
theorem numsA_acc (f : List UInt8 → Int × Bool) : ∀ (ws : List (List UInt8)) (out L : List Int), numsA f out ws = some L → ∃ M, L = out ++ M ∧ M.length = ws.length
  | [], out, L, h => ⟨[], by simp [numsA] at h; simp [h], rfl⟩
  | w :: ws, out, L, h => by
    rw [numsA] at h
    split at h
    · obtain ⟨M, hM, hl⟩ := numsA_acc f ws _ L h
      exact ⟨(f w).1 :: M, by rw [hM]; simp, by simp [hl]⟩
    · cases h
theorem numsA_sgn : ∀ (ws : List (List UInt8)) (out L : List Int), numsA sgnR out ws = some L → numsA numR out ws = some L
  | [], out, L, h => h
  | w :: ws, out, L, h => by
    rw [numsA] at h
    split at h
    · rename_i hw
      have e := sgn_num hw
      rw [numsA, e, if_pos hw]
      exact numsA_sgn ws _ L h
    · cases h
def Mid (v : Int) : Prop := -10000000000000 < v ∧ v < 10000000000000
theorem numsA_num : ∀ (ws : List (List UInt8)) (out L : List Int), numsA numR out ws = some L → (∀ v ∈ L, Mid v) → numsA sgnR out ws = some L
  | [], out, L, h, _ => h
  | w :: ws, out, L, h, hL => by
    rw [numsA] at h
    split at h
    · rename_i hw
      obtain ⟨M, hM, _⟩ := numsA_acc _ ws _ L h
      have hm := hL (numR w).1 (by rw [hM]; simp)
      have e := num_sgn hw hm.1 hm.2
      rw [numsA, e, if_pos hw]
      exact numsA_num ws _ L h hL
    · cases h
theorem three_some {o : Option (List Int)} {p : Int × Int × Int} (h : three o = some p) : o = some [p.1, p.2.1, p.2.2] := by
  match o, h with
  | some [a, b, c], h => simp [three] at h; subst h; rfl
theorem partR_sgn {w : List UInt8} {p : Int × Int × Int} (h : partR sgnR w = some p) : partR numR w = some p := by
  have := numsA_sgn _ _ _ (three_some h)
  rw [partR, this]; rfl
theorem partR_num {w : List UInt8} {p : Int × Int × Int} (h : partR numR w = some p) (h1 : Mid p.1) (h2 : Mid p.2.1) (h3 : Mid p.2.2) : partR sgnR w = some p := by
  have := numsA_num _ _ _ (three_some h) (by intro v hv; simp at hv; rcases hv with rfl | rfl | rfl <;> assumption)
  rw [partR, this]; rfl
theorem gradA_acc (f : List UInt8 → Int × Bool) : ∀ (ws : List (List UInt8)) (out L : List (Int × Int × Int)), gradA f out ws = some L → ∃ M, L = out ++ M ∧ M.length = ws.length
  | [], out, L, h => ⟨[], by simp [gradA] at h; simp [h], rfl⟩
  | w :: ws, out, L, h => by
    rw [gradA] at h
    split at h
    · rename_i p _
      obtain ⟨M, hM, hl⟩ := gradA_acc f ws _ L h
      exact ⟨p :: M, by rw [hM]; simp, by simp [hl]⟩
    · cases h
theorem gradA_sgn : ∀ (ws : List (List UInt8)) (out L : List (Int × Int × Int)), gradA sgnR out ws = some L → gradA numR out ws = some L
  | [], out, L, h => h
  | w :: ws, out, L, h => by
    rw [gradA] at h
    split at h
    · rename_i p hp
      rw [gradA, partR_sgn hp]
      exact gradA_sgn ws _ L h
    · cases h
theorem gradA_num : ∀ (ws : List (List UInt8)) (out L : List (Int × Int × Int)), gradA numR out ws = some L → (∀ p ∈ L, Mid p.1 ∧ Mid p.2.1 ∧ Mid p.2.2) → gradA sgnR out ws = some L
  | [], out, L, h, _ => h
  | w :: ws, out, L, h, hL => by
    rw [gradA] at h
    split at h
    · rename_i p hp
      obtain ⟨M, hM, _⟩ := gradA_acc _ ws _ L h
      obtain ⟨h1, h2, h3⟩ := hL p (by rw [hM]; simp)
      rw [gradA, partR_num hp h1 h2 h3]
      exact gradA_num ws _ L h hL
    · cases h
/-- the text of a part, of a graduation -/
def partT (p : Int × Int × Int) : List UInt8 := Lib.join [Lib.itoa p.1, Lib.itoa p.2.1, Lib.itoa p.2.2] [47]
def gradT (G : List (Int × Int × Int)) : List UInt8 := Lib.join (G.map partT) [32]
theorem partT_eq (p : Int × Int × Int) : partT p = Lib.itoa p.1 ++ 47 :: (Lib.itoa p.2.1 ++ 47 :: Lib.itoa p.2.2) := by
  rw [partT, join_two _ _ (by simp), join_two _ _ (by simp), Lib.join_one]
theorem partT_no (p : Int × Int × Int) : (32 : UInt8) ∉ partT p := fun h => by
  rw [partT_eq] at h
  have h1 : ∀ v, (32 : UInt8) ∉ Lib.itoa v := fun v => itoa_no (.inl (by decide))
  simp [h1] at h
def I64p (p : Int × Int × Int) : Prop := (-9223372036854775808 ≤ p.1 ∧ p.1 ≤ 9223372036854775807) ∧ (-9223372036854775808 ≤ p.2.1 ∧ p.2.1 ≤ 9223372036854775807) ∧ -9223372036854775808 ≤ p.2.2 ∧ p.2.2 ≤ 9223372036854775807
theorem partR_text {p : Int × Int × Int} (h : I64p p) : partR numR (partT p) = some p := by
  obtain ⟨h1, h2, h3⟩ := h
  rw [partR, partT, splF_join _ (by simp) (by intro w hw; simp at hw; rcases hw with rfl | rfl | rfl <;> exact itoa_no (.inr rfl))]
  simp only [numsA, numR_itoa h1.1 h1.2, numR_itoa h2.1 h2.2, numR_itoa h3.1 h3.2]
  rfl
theorem numsA_text : ∀ (ws : List (List UInt8)) (out L : List Int), numsA numR out ws = some L → L.map Lib.itoa = out.map Lib.itoa ++ ws ∧ ∀ v ∈ L, v ∈ out ∨ (-9223372036854775808 ≤ v ∧ v ≤ 9223372036854775807)
  | [], out, L, h => by simp [numsA] at h; subst h; exact ⟨by simp, fun v hv => .inl hv⟩
  | w :: ws, out, L, h => by
    rw [numsA] at h
    split at h
    · rename_i hw
      obtain ⟨e1, e2, e3⟩ := numR_ok hw
      obtain ⟨h1, h2⟩ := numsA_text ws _ L h
      refine ⟨by rw [h1]; simp [e1], fun v hv => ?_⟩
      rcases h2 v hv with h | h
      · rcases List.mem_append.1 h with h | h
        · exact .inl h
        · simp at h; subst h; exact .inr ⟨e2, e3⟩
      · exact .inr h
    · cases h
theorem text_partR {w : List UInt8} {p : Int × Int × Int} (h : partR numR w = some p) : partT p = w ∧ I64p p := by
  obtain ⟨h1, h2⟩ := numsA_text _ _ _ (three_some h)
  have h1 : [Lib.itoa p.1, Lib.itoa p.2.1, Lib.itoa p.2.2] = splF 47 [] w := by simpa using h1
  refine ⟨by rw [partT, h1, join_splF]; rfl, ?_⟩
  have g := fun v hv => (h2 v hv).resolve_left (by simp)
  exact ⟨g _ (by simp), g _ (by simp), g _ (by simp)⟩
theorem gradA_text : ∀ (G out : List (Int × Int × Int)), (∀ p ∈ G, I64p p) → gradA numR out (G.map partT) = some (out ++ G)
  | [], out, _ => by simp [gradA]
  | p :: G, out, h => by
    rw [List.map_cons, gradA, partR_text (h p (by simp))]
    show gradA numR (out ++ [p]) (G.map partT) = _
    rw [gradA_text G _ (fun q hq => h q (List.mem_cons_of_mem _ hq))]
    simp
theorem text_gradA : ∀ (ws : List (List UInt8)) (out G : List (Int × Int × Int)), gradA numR out ws = some G → G.map partT = out.map partT ++ ws
  | [], out, G, h => by simp [gradA] at h; subst h; simp
  | w :: ws, out, G, h => by
    rw [gradA] at h
    split at h
    · rename_i p hp
      rw [text_gradA ws _ G h]
      simp [(text_partR hp).1]
    · cases h
/-- a text of words read back -/
theorem read_text {G : List (Int × Int × Int)} (h : G ≠ []) (hI : ∀ p ∈ G, I64p p) : gradA numR [] (splF 32 [] (gradT G)) = some G := by
  rw [gradT, splF_join _ (by simpa using h) (by intro w hw; obtain ⟨p, _, rfl⟩ := List.mem_map.1 hw; exact partT_no p), gradA_text G [] hI]
  rfl
theorem text_read {l : List UInt8} {G : List (Int × Int × Int)} (h : gradA numR [] (splF 32 [] l) = some G) : gradT G = l := by
  rw [gradT, text_gradA _ _ _ h]
  show Lib.join ([] ++ splF 32 [] l) [32] = l
  rw [List.nil_append, join_splF]; rfl
/-- lengths of texts -/
theorem partT_len {p : Int × Int × Int} (h : I64p p) : (partT p).length ≤ 65 := by
  obtain ⟨h1, h2, h3⟩ := h
  rw [partT_eq]
  have e1 := Lib.itoa_length_le _ h1.1 h1.2
  have e2 := Lib.itoa_length_le _ h2.1 h2.2
  have e3 := Lib.itoa_length_le _ h3.1 h3.2
  simp; omega
theorem gradT_len : ∀ {G : List (Int × Int × Int)}, (∀ p ∈ G, I64p p) → (gradT G).length ≤ 66 * G.length
  | [], _ => by simp [gradT, Lib.join_nil]
  | [p], h => by
    have := partT_len (h p (by simp))
    show (Lib.join [partT p] [32]).length ≤ _
    rw [Lib.join_one]; simp; omega
  | p :: q :: G, h => by
    have h1 := partT_len (h p (by simp))
    have h2 := gradT_len (G := q :: G) (fun x hx => h x (List.mem_cons_of_mem _ hx))
    have e : gradT (p :: q :: G) = partT p ++ 32 :: gradT (q :: G) := join_two _ _ (by simp)
    rw [e]
    simp at h2 ⊢
    omega
end Go.Proofs.YtibcbhphkafgjaaDoor
