/- The law FnApart (layer 8). No condition. -/
import Derived.Test.YtkblmcpklpmobaaKp3
import Derived.Test.YtkblmcpklpmobaaDr6
import Derived.Test.YtkblmcpklpmobaaLike
namespace Go.Proofs.Ytkblmcpklpmobaa
open Go.RowKit
set_option linter.unusedVariables false
set_option linter.unusedSimpArgs false

theorem rKeep_ok {l : List (Int × Int × Int)} {d : Int} {M : List Int} (h : rKeep l d = (M, 0)) : ∃ K : List Nat, M = kept K l.length ∧ (∀ k ∈ K, k < l.length) ∧ (∀ a b : Nat, a ∈ K → b ∈ K → a ≠ b → nearB l d a b = false) ∧ (∀ k, k < l.length → k ∉ K → ∃ a ∈ K, nearB l d a k = true) ∧ ∀ p ∈ l, -1000000000000 ≤ p.2.1 ∧ p.2.1 ≤ 1000000000000 := by
  rw [rKeep] at h
  split at h
  · rename_i h0
    split at h
    · rename_i h1
      simp only [Prod.mk.injEq, and_true] at h
      rw [Bool.and_eq_true] at h1
      have hh := List.all_eq_true.1 h1.2
      have inv := kK_inv l d 5
      refine ⟨kK l d, h.symm, fun k hk => (inv.2.1 k hk).1, inv.2.2.1, fun k hk hn => ?_, (ckT_zero h0).2.2⟩
      have hx : l[k]? = some l[k] := List.getElem?_eq_getElem hk
      have h4 := inB_iff.1 (hh _ (List.getElem_mem hk))
      rw [← hgt_at hx] at h4
      exact inv.2.2.2 k hk (.inl (by have := h4.1; omega)) h4.2 hn
    · simp at h
  · rename_i h0
    simp only [Prod.mk.injEq] at h
    exact absurd h.2 h0
/-- whether one of these numbers, another than i, is near to i -/
def nearTo (l : List (Int × Int × Int)) (d : Int) (i : Nat) (M : List Int) : Bool := M.any fun x => decide (x ≠ (i : Int)) && nearB l d i x.toNat
theorem nearTo_next {l : List (Int × Int × Int)} {d : Int} {i j k : Nat} {M : List Int} (h : M[j]? = some (k : Int)) : nearTo l d i (M.take (j + 1)) = (nearTo l d i (M.take j) || (decide ((k : Int) ≠ (i : Int)) && nearB l d i k)) := by
  rw [List.take_add_one, h, nearTo, List.any_append]
  simp [nearTo]
theorem nearTo_all {l : List (Int × Int × Int)} {d : Int} {i : Nat} {K : List Nat} (hi : i < l.length) (h1 : ∀ k ∈ K, k < l.length) (h2 : ∀ a b : Nat, a ∈ K → b ∈ K → a ≠ b → nearB l d a b = false) (h3 : ∀ k, k < l.length → k ∉ K → ∃ a ∈ K, nearB l d a k = true) :
    nearTo l d i (kept K l.length) = !decide ((i : Int) ∈ kept K l.length) := by
  by_cases hk : i ∈ K
  · rw [decide_eq_true (kept_mem.2 ⟨i, rfl, hi, hk⟩), nearTo, Bool.not_true, List.any_eq_false]
    intro x hx
    obtain ⟨k, rfl, _, hkK⟩ := kept_mem.1 hx
    by_cases e : k = i
    · simp [e]
    · have := h2 i k hk hkK (fun h => e h.symm)
      simp [this]
  · have hn : ¬ (i : Int) ∈ kept K l.length := by
      intro h
      obtain ⟨k, e, _, hkK⟩ := kept_mem.1 h
      obtain rfl : i = k := by omega
      exact hk hkK
    obtain ⟨a, ha, hr⟩ := h3 i hi hk
    rw [decide_eq_false hn, nearTo, Bool.not_false, List.any_eq_true]
    refine ⟨(a : Int), kept_mem.2 ⟨a, rfl, h1 a ha, ha⟩, ?_⟩
    have hne : a ≠ i := fun e => hk (e ▸ ha)
    rw [nearB_sym] at hr
    show (decide ((a : Int) ≠ (i : Int)) && nearB l d i ((a : Int)).toNat) = true
    rw [Int.toNat_natCast, hr, decide_eq_true (by omega)]
    rfl
theorem Sees.placesA {w : World} {B : Nat} {A : Option Addr} {T : List (Int × Int × Int)} (h : Sees w B A (cells3 T)) (hT : 0 < T.length) : ∃ b off, A = some ⟨b, off, none⟩ ∧ b < B ∧ ∀ k, k < T.length → w.cell? ⟨b, off + k * 3 + 1, none⟩ = some (.int .i64 (plc T k)) := by
  obtain ⟨b, off, rfl, hb, hc⟩ := h.addr (by rw [cells3_length]; omega)
  refine ⟨b, off, rfl, hb, fun k hk => ?_⟩
  have hp : T[k]? = some T[k] := List.getElem?_eq_getElem hk
  have := (cells3_at T k _ hp).2.1
  rw [Nat.mul_comm] at this
  rw [plc_at hp]
  exact hc _ _ this
set_option maxHeartbeats 400000 in
theorem hasInt_any (A : Option Addr) (n c : Nat) (l : List Int) (x : Int) (w : World) (B : Nat) (hl : l.length = n) (hn : n ≤ 9223372036854775807) (hs : Sees w B A (l.map (Value.int .i64))) :
    Calls Try.prog 60 #[.slice A n c, .int .i64 x] w fun e w' => e = .returned (.bool (decide (x ∈ l))) ∧ w = w' := by
  go_enter Try.func60, Try.ntmps60
  go_wp2
  go_loop [5] (fun i => ∃ k : Nat, k ≤ n ∧ i = .int .i64 k ∧ ¬ x ∈ l.take k) (fun i => n - (intOf i).toNat)
  case atStart => exact ⟨0, Nat.zero_le _, rfl, by simp⟩
  case round =>
    obtain ⟨k, hk, rfl, hf⟩ := hrel
    have Hf := Lib.hid hf
    have Hl := Lib.hid hl
    clear hf
    by_cases hlt : k < n
    · obtain ⟨b, off, y, rfl, hb, hp, c0⟩ := hs.cellOf (k := k) (by omega)
      have Hp := Lib.hid hp
      clear hp hs hl
      by_cases hx : y = x
      · have Hr := Lib.hid (show decide (x ∈ l) = true from decide_eq_true (by rw [← hx]; exact List.mem_of_getElem? Hp.out))
        subst hx
        go_wp2
        go_ret
        exact ⟨endBool Hr.out.symm, rfl⟩
      · have Hn := Lib.hid (show ¬ x ∈ l.take (k + 1) by
          rw [List.take_add_one, Hp.out]
          simp only [Option.toList, List.mem_append, List.mem_singleton, not_or]
          exact ⟨Hf.out, fun h => hx h.symm⟩)
        have t : (y == x) = false := by simpa using hx
        go_wp2
        go_round
        case rel => exact ⟨k + 1, by omega, by go_num, Hn.out⟩
        case measure => simp [intOf]; omega
    · obtain rfl : k = n := by omega
      have Hr := Lib.hid (show decide (x ∈ l) = false from decide_eq_false (by have := Hf.out; rwa [List.take_of_length_le (by omega)] at this))
      clear hl
      go_wp2
      go_ret
      exact ⟨endBool Hr.out.symm, rfl⟩
set_option maxRecDepth 100000 in
set_option maxHeartbeats 16000000 in
theorem fnApart_walk (A : Option Addr) (n c : Nat) (l : List Int) (w : World) (hl : l.length = n) (_hc : n ≤ c) (hm : c ≤ maxLen) (hs : Sees w w.heap.size A (l.map (Value.int .u8))) (h8 : U8s l) :
    Calls Try.prog 8 #[.slice A n c] w fun e w' => e = .returned (.bool true) ∧ Below w.heap.size w w' := by
  unfold maxLen at hm
  have BG := fun W => big_small A n c W (by omega)
  by_cases hbig : 4096 < n
  · rw [show decide (4096 < n) = true from decide_eq_true hbig] at BG
    go_enter Try.func8, Try.ntmps8
    go_wp2_with (go_at_call 9; refine (BG _).mono ?_; rintro e w' ⟨rfl, rfl⟩)
    go_ret
    exact ⟨rfl, Below.refl _ _⟩
  · rw [show decide (4096 < n) = false from decide_eq_false hbig] at BG
    have hn : n ≤ 1048576 := by omega
    go_enter Try.func8, Try.ntmps8
    go_wp2_with (go_at_call 9; refine (BG _).mono ?_; rintro e w' ⟨rfl, rfl⟩)
    clear BG
    go_wp2_with fail
    refine ((DrawKeepApart_any A n c l _ hl hn h8 hs).mono fun e w' h => GivesTN.one h).mono ?_
    rintro e w1 ⟨a, T, d, rfl, id, a12, aI, oa, hb1⟩
    obtain ⟨aA, ac, rfl⟩ := ownShape oa
    have B1 : Below w.heap.size w w1 := (Below.refl w.heap.size w).trans (hb1.mono (Below.refl w.heap.size w).size)
    clear hb1
    have I1 := fun W hW => iKeepApart_any aA T.length ac T d W rfl (by omega) hW
    have S1 := fun W hW => sKeepApart_any aA T.length ac T d W rfl (by omega) hW
    have hML := rKeep_len T d
    obtain ⟨⟨M, code⟩, H1⟩ : ∃ p, Hid (rKeep T d = p) := ⟨_, Lib.hid rfl⟩
    rw [H1.out] at I1 S1 hML
    simp only at I1 S1 hML
    go_wp2_with fail
    refine (I1 _ (Sees.ofOwn oa)).mono ?_
    rintro e w2 ⟨u, rfl, o1, hb2⟩
    replace oa := ownOver oa hb2
    obtain ⟨uA, uc, rfl⟩ := ownShape o1
    have B2 : Below w.heap.size w w2 := B1.trans (hb2.mono B1.size)
    clear hb2
    go_wp2_with fail
    refine (S1 _ (Sees.ofOwn oa)).mono ?_
    rintro e w3 ⟨m, rfl, o2, hb3⟩
    replace oa := ownOver oa hb3
    replace o1 := ownOver o1 hb3
    obtain ⟨mA, mc, rfl⟩ := ownShape o2
    have B3 : Below w.heap.size w w3 := B2.trans (hb3.mono B2.size)
    clear hb3
    have LK := fun (_ : True) => likeInts_same uA mA M.length uc mc M w3 rfl (by omega) (Sees.ofOwn o1) (Sees.ofOwn o2)
    clear I1 S1 hl h8 hs
    by_cases hc : code = 0
    · have t1 : (code != 0) = false := by simpa using hc
      obtain ⟨K, hMK, k1, k2, k3, hpl⟩ := rKeep_ok (H1.out.trans (by rw [hc]))
      clear hc H1
      have HA := Lib.hid (fun i (hi : i < T.length) => show nearTo T d i M = !decide ((i : Int) ∈ M) by rw [hMK]; exact nearTo_all hi k1 k2 k3)
      have HMM := Lib.hid (fun x (hx : x ∈ M) => show ∃ k : Nat, x = (k : Int) ∧ k < T.length by rw [hMK] at hx; obtain ⟨k, e, hk, _⟩ := kept_mem.1 hx; exact ⟨k, e, hk⟩)
      have HPL := Lib.hid (show ∀ a, a < T.length → -1000000000000 ≤ plc T a ∧ plc T a ≤ 1000000000000 from fun a ha => by
        have hx : T[a]? = some T[a] := List.getElem?_eq_getElem ha
        rw [plc_at hx]
        exact hpl _ (List.getElem_mem _))
      clear hMK k1 k2 k3 hpl
      go_wp2_with (go_at_call 22; (with_reducible refine (LK trivial).mono ?_); rintro e w4 ⟨rfl, hb4⟩)
      have sa := Sees.ofOwn (ownOver oa hb4)
      have su := Sees.ofOwn (ownOver o1 hb4)
      have sm := Sees.ofOwn (ownOver o2 hb4)
      have B4 := B3.trans (hb4.mono B3.size)
      clear oa o1 o2 LK hb4
      obtain ⟨w0, rfl⟩ : ∃ W : World, W = w4 := ⟨_, rfl⟩
      go_loopw [9] (fun iv wr => ∃ i q : Nat, iv = .int .i64 i ∧ i ≤ T.length ∧ wr = w0.drewN q) (fun iv _ => T.length - (intOf iv).toNat)
      case atStart => exact ⟨0, 0, rfl, Nat.zero_le _, rfl⟩
      case round =>
        obtain ⟨i, q, rfl, hi, hW⟩ := hrel
        obtain ⟨wi, rfl⟩ : ∃ W : World, W = wr := ⟨_, rfl⟩
        have HW := Lib.hid hW
        clear hW
        by_cases hlt : i < T.length
        · obtain ⟨tb, tof, rfl, htb, hac⟩ := sa.placesA (by omega)
          have HAC := Lib.hid hac
          have i0 : (0 : Int) ≤ (i : Int) := by omega
          have i1 : (i : Int) < (T.length : Int) := by omega
          clear hac
          go_wp2_with fail
          go_loopw [10, 11] (fun b jv wr => ∃ (j q2 : Nat) (S : Bool), b = .bool S ∧ jv = .int .i64 j ∧ j ≤ M.length ∧ S = nearTo T d i (M.take j) ∧ wr = w0.drewN q2) (fun _ jv _ => M.length - (intOf jv).toNat)
          case atStart => exact ⟨0, q, false, rfl, rfl, Nat.zero_le _, rfl, HW.out⟩
          case round =>
            obtain ⟨j, q2, S, rfl, rfl, hj, hS, hW2⟩ := hrel
            obtain ⟨wj, rfl⟩ : ∃ W : World, W = wr := ⟨_, rfl⟩
            have HS := Lib.hid hS
            have HW2 := Lib.hid hW2
            clear hS hW2
            by_cases hlj : j < M.length
            · obtain ⟨mb, mo, x, rfl, hmb, hx, c0⟩ := sm.one (k := j) hlj
              obtain ⟨k, rfl, hk⟩ := HMM.out x (List.mem_of_getElem? hx)
              have HN := Lib.hid (nearTo_next (l := T) (d := d) (i := i) hx)
              have cj : wj.cell? ⟨mb, mo + j, none⟩ = some (.int .i64 (k : Int)) := by rw [HW2.out]; exact c0
              have ck : wj.cell? ⟨tb, tof + k * 3 + 1, none⟩ = some (.int .i64 (plc T k)) := by rw [HW2.out]; exact HAC.out k hk
              have ci : wj.cell? ⟨tb, tof + i * 3 + 1, none⟩ = some (.int .i64 (plc T i)) := by rw [HW2.out]; exact HAC.out i hlt
              have bk := HPL.out k hk
              have bi := HPL.out i hlt
              have HNB := Lib.hid (show nearB T d i k = decide (max (plc T i - plc T k) (-(plc T i - plc T k)) < d) from rfl)
              have j0 : (0 : Int) ≤ (j : Int) := by omega
              have j1 : (j : Int) < (M.length : Int) := by omega
              have k0 : (0 : Int) ≤ (k : Int) := by omega
              have k1 : (k : Int) < (T.length : Int) := by omega
              clear hx c0
              generalize plc T k = pk at *
              generalize plc T i = pi at *
              cases S with
              | true =>
                have HQ := Lib.hid (show true = nearTo T d i (M.take (j + 1)) by rw [HN.out, ← HS.out]; rfl)
                clear HS HN HNB
                have e1 : IntKind.i64.wrap (pi - pk) = pi - pk := IntWalk.i64_in _ (by omega)
                go_wp2_with fail
                go_quiet (fail)
                clear e1
                go_wp2_with fail
                go_roundw
                case rel => exact ⟨j + 1, q2 + nq, _, rfl, by go_num, by omega, HQ.out, by rw [HW2.out, World.drewN_drewN]⟩
                case measure => simp [intOf]; omega
              | false =>
                by_cases hki : (k : Int) = (i : Int)
                · have HQ := Lib.hid (show false = nearTo T d i (M.take (j + 1)) by rw [HN.out, ← HS.out, hki]; simp)
                  have t2 : ((k : Int) != (i : Int)) = false := by simpa using hki
                  clear HS HN HNB hki
                  have e1 : IntKind.i64.wrap (pi - pk) = pi - pk := IntWalk.i64_in _ (by omega)
                  go_wp2_with fail
                  go_quiet (fail)
                  clear e1
                  go_wp2_with fail
                  go_roundw
                  case rel => exact ⟨j + 1, q2 + nq, _, rfl, by go_num, by omega, HQ.out, by rw [HW2.out, World.drewN_drewN]⟩
                  case measure => simp [intOf]; omega
                · have t2 : ((k : Int) != (i : Int)) = true := by simpa using hki
                  by_cases hn : max (pi - pk) (-(pi - pk)) < d
                  · have HQ := Lib.hid (show true = nearTo T d i (M.take (j + 1)) by rw [HN.out, ← HS.out, HNB.out, decide_eq_true hn, decide_eq_true hki]; rfl)
                    clear HS HN HNB hki
                    by_cases cs : 0 ≤ pi - pk
                    · have e1 : IntKind.i64.wrap (pi - pk) = pi - pk := IntWalk.i64_in _ (by omega)
                      go_wp2_with fail
                      go_quiet (fail)
                      clear e1
                      go_wp2_with fail
                      go_roundw
                      case rel => exact ⟨j + 1, q2 + nq, _, rfl, by go_num, by omega, HQ.out, by rw [HW2.out, World.drewN_drewN]⟩
                      case measure => simp [intOf]; omega
                    · have e1 : IntKind.i64.wrap (pi - pk) = pi - pk := IntWalk.i64_in _ (by omega)
                      go_wp2_with fail
                      go_quiet (fail)
                      clear e1
                      go_wp2_with fail
                      go_roundw
                      case rel => exact ⟨j + 1, q2 + nq, _, rfl, by go_num, by omega, HQ.out, by rw [HW2.out, World.drewN_drewN]⟩
                      case measure => simp [intOf]; omega
                  · have HQ := Lib.hid (show false = nearTo T d i (M.take (j + 1)) by rw [HN.out, ← HS.out, HNB.out, decide_eq_false hn]; simp)
                    have hdn : decide (max (pi - pk) (-(pi - pk)) < d) = false := decide_eq_false hn
                    clear HS HN HNB hki
                    by_cases cs : 0 ≤ pi - pk
                    · have e1 : IntKind.i64.wrap (pi - pk) = pi - pk := IntWalk.i64_in _ (by omega)
                      go_wp2_with fail
                      go_quiet (fail)
                      clear e1
                      go_wp2_with fail
                      go_roundw
                      case rel => exact ⟨j + 1, q2 + nq, _, rfl, by go_num, by omega, HQ.out, by rw [HW2.out, World.drewN_drewN]⟩
                      case measure => simp [intOf]; omega
                    · have e1 : IntKind.i64.wrap (pi - pk) = pi - pk := IntWalk.i64_in _ (by omega)
                      go_wp2_with fail
                      go_quiet (fail)
                      clear e1
                      go_wp2_with fail
                      go_roundw
                      case rel => exact ⟨j + 1, q2 + nq, _, rfl, by go_num, by omega, HQ.out, by rw [HW2.out, World.drewN_drewN]⟩
                      case measure => simp [intOf]; omega
            · have hjm : M.take j = M := List.take_of_length_le (by omega)
              have HS2 := Lib.hid (show S = !decide ((i : Int) ∈ M) by rw [HS.out, hjm]; exact HA.out i hlt)
              have HI := fun (_ : True) => hasInt_any uA M.length uc M (i : Int) wj w0.heap.size rfl (by omega) (by rw [HW2.out]; exact su.draws _)
              have HJ := Lib.hid (show j = M.length by omega)
              clear HS hjm
              obtain ⟨hb, hhb⟩ : ∃ b : Bool, decide ((i : Int) ∈ M) = b := ⟨_, rfl⟩
              rw [hhb] at HI
              have HS3 := Lib.hid (show S = !hb by rw [HS2.out, hhb])
              clear hhb HS2
              cases hb with
              | true =>
                obtain rfl : S = false := HS3.out
                go_wp2_with (go_at_call 60; (with_reducible refine (HI trivial).mono ?_); rintro e w' ⟨rfl, rfl⟩)
                go_roundw
                case rel => exact ⟨i + 1, q2, by go_num, by omega, HW2.out⟩
                case measure => simp [intOf]; omega
              | false =>
                obtain rfl : S = true := HS3.out
                go_wp2_with (go_at_call 60; (with_reducible refine (HI trivial).mono ?_); rintro e w' ⟨rfl, rfl⟩)
                go_roundw
                case rel => exact ⟨i + 1, q2, by go_num, by omega, HW2.out⟩
                case measure => simp [intOf]; omega
        · have HI := Lib.hid (show i = T.length by omega)
          go_wp2_with fail
          go_ret
          exact ⟨rfl, by rw [HW.out]; exact belowDraws B4 _⟩
    · have t1 : (code != 0) = true := by simpa using hc
      clear hc H1
      go_wp2_with (go_at_call 22; (with_reducible refine (LK trivial).mono ?_); rintro e w4 ⟨rfl, hb4⟩)
      go_ret
      exact ⟨rfl, B3.trans (hb4.mono B3.size)⟩
end Go.Proofs.Ytkblmcpklpmobaa
