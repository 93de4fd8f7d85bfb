/- The reference's TicksOf (layer 8). No condition. -/
import Derived.Test.YtkblmcpklpmobaaTo
namespace Go.Proofs.Ytkblmcpklpmobaa
open Go.RowKit
set_option linter.unusedVariables false
set_option linter.unusedSimpArgs false

def tickAt (s len n : Int) : Int × Int × Int := (n, mid s len n, heightOf n)
def ticksIn (M : List Int) (s len : Int) : List (Int × Int × Int) := stabSort plcOf (M.map (tickAt s len))
theorem ticksIn_length (M : List Int) (s len : Int) : (ticksIn M s len).length = M.length := by rw [ticksIn, stabSort_length, List.length_map]
theorem ticksIn_srt (M : List Int) (s len : Int) : Srt plcOf (ticksIn M s len) 0 (ticksIn M s len).length := (stabSort_ok _).2
theorem ticksIn_mem {M : List Int} {s len : Int} {q : Int × Int × Int} (h : q ∈ ticksIn M s len) : ∃ x ∈ M, q = tickAt s len x := by
  rw [ticksIn, stabSort_mem, List.mem_map] at h
  obtain ⟨x, hx, rfl⟩ := h
  exact ⟨x, hx, rfl⟩
theorem ticksIn_step {M : List Int} {s len y : Int} {T : List (Int × Int × Int)} (h1 : Stab plcOf (ticksIn M s len ++ [tickAt s len y]) T) (h2 : Srt plcOf T 0 T.length) : T = ticksIn (M ++ [y]) s len := by
  refine stabSort_eq (Stab.trans ?_ h1) h2
  rw [List.map_append]
  exact (stabSort_ok _).1.app (Stab.refl _)
def rTicks (l : List (Int × Int × Int)) (s len lo hi : Int) : List (Int × Int × Int) × Int := if gradB l = true then (if (inB s 0 5 && inB len 1 100000 && inB lo 1000 9999 && inB hi 1000 9999) = true then (if (keepL lo hi (marks l)).length ≤ 150 then (ticksIn (keepL lo hi (marks l)) s len, 0) else ([], 3)) else ([], 2)) else ([], 1)
theorem rTicks_len (l : List (Int × Int × Int)) (s len lo hi : Int) : (rTicks l s len lo hi).1.length ≤ 1048576 := by
  unfold rTicks
  split
  · split
    · split
      · rw [ticksIn_length]; omega
      · simp
    · simp
  · simp
theorem rise_take {M : List Int} (h : M.Pairwise (· < ·)) {j : Nat} {y : Int} (hy : M[j]? = some y) : ∀ x ∈ M.take j, x < y := by
  intro x hx
  rw [List.mem_iff_getElem?] at hx
  obtain ⟨t, ht⟩ := hx
  rw [List.getElem?_take] at ht
  split at ht
  · rename_i htj
    obtain ⟨h1, rfl⟩ := List.getElem?_eq_some_iff.1 ht
    obtain ⟨h2, rfl⟩ := List.getElem?_eq_some_iff.1 hy
    exact List.pairwise_iff_getElem.1 h t j h1 h2 htj
  · cases ht
set_option maxRecDepth 100000 in
set_option maxHeartbeats 4000000 in
theorem sTicksOf_any (A : Option Addr) (n c : Nat) (l : List (Int × Int × Int)) (sc len lo hi : Int) (w : World) (hl : l.length = n) (hn : n ≤ 1048576) (hs : Sees w w.heap.size A (cells3 l)) (hr : I64s3 l) :
    Calls Try.prog 44 #[.slice A n c, .int .i64 sc, .int .i64 len, .int .i64 lo, .int .i64 hi] w (GivesS 51 3 (rTicks l sc len lo hi).1.length (cells3 (rTicks l sc len lo hi).1) (rTicks l sc len lo hi).2 w) := by
  have Hl := Lib.hid hl
  by_cases h : gradB l = true
  · by_cases g0 : inB sc 0 5 = true
    · by_cases g3 : inB len 1 100000 = true
      · by_cases g1 : inB lo 1000 9999 = true
        · by_cases g2 : inB hi 1000 9999 = true
          · obtain ⟨hg, h1, h2⟩ := gradB_in h
            have Hw := Lib.hid (show rTicks l sc len lo hi = _ by rw [rTicks, if_pos h, g0, g3, g1, g2, Bool.and_self, Bool.and_self, Bool.and_self, if_pos rfl])
            have hn12 : n ≤ 12 := by omega
            have hml := marks_length hg
            have MK := fun W hW => l07Marks_any A n c l W Hl.out hn12 hW hg
            have I := fun W hW => sIsGraduation_any A n c l W Hl.out hn hW hr
            rw [h] at I
            obtain ⟨i0, hi', hz0, hz1, hz2⟩ := info_parts infoI64
            have hlm : (marks l).length ≤ 108000 := by omega
            have HR := Lib.hid (keepL_rise (lo := lo) (hi := hi) (marks_rise h))
            have hfirst := marks_first h
            have HIN := Lib.hid (show ∀ x ∈ keepL lo hi (marks l), 1000 ≤ x ∧ x ≤ 9999 from fun x hx => by have := (keepL_mem hx).2; have := inB_iff.1 g1; have := inB_iff.1 g2; omega)
            have hpos : 0 < (marks l).length := (List.getElem?_eq_some_iff.1 hfirst).1
            have ln := inB_iff.1 g3
            generalize marks l = m at *
            clear hg h h1 h2 hl hml hfirst
            go_enter Try.func44, Try.ntmps44
            go_wp2_with fail
            refine (I _ hs).mono ?_
            rintro e w1 ⟨rfl, b1⟩
            go_wp2_with (first
              | (go_at_call 85; refine (sIsScale_any _ _).mono ?_; rintro e w' ⟨rfl, rfl⟩)
              | (go_at_call 86; refine (l05Length_any _ _).mono ?_; rintro e w' ⟨rfl, rfl⟩)
              | (go_at_call 68; refine (l01In_any _ _ _ _).mono ?_; rintro e w' ⟨rfl, rfl⟩))
            refine (MK _ (((hs.over b1).wider b1.size).block (by omega) _ |>.wider (by simp))).mono ?_
            rintro e w2 ⟨va, rfl, hown, b2⟩
            rcases ownRow hown with ⟨_, hn0, _⟩ | ⟨ga, capa, cur, rfl, hbg, hF2, hmc, hcm, hsz, htk⟩
            · omega
            have hcur := Lib.hid (show ∀ q x, m[q]? = some x → cur[q]? = some (Value.int .i64 x) from fun q x hx => by
              have hq := (List.getElem?_eq_some_iff.1 hx).1
              have h2 : (m.map (Value.int .i64))[q]? = some (.int .i64 x) := by rw [List.getElem?_map, hx]; rfl
              rw [← htk, List.getElem?_take, if_pos (by omega)] at h2
              simpa using h2)
            have B1 : Below w1.heap.size w1 w2 := Below.trans (by repeat' (first | (with_reducible exact Below.refl _ _) | (with_reducible assumption) | (with_reducible refine Below.alloc ?_ ?_ _) | (with_reducible refine Below.drew ?_) | (with_reducible refine belowDraws ?_ _) | (with_reducible refine Below.setCell ?_ ?_ _) | omega | (simp; done) | (simp; omega))) (b2.mono (by simp))
            have hz12 := B1.size
            have oM := ownOver (World.ownsRow_made (base := w1.heap.size) (e := 2) (size := 1) w1 #[] 0 (Nat.le_refl _) (Nat.zero_le _) rfl) b2
            simp only [World.size_alloc] at hbg
            have hz1w := b1.size
            clear hs I MK htk hsz hown b2
            go_wp2_with fail
            go_loopw [12, 14] (fun v i wr => ∃ k : Nat, k ≤ m.length ∧ i = .int .i64 k ∧ wr.ownsRow w1.heap.size 2 1 v (keepL lo hi (m.take k)).length ((keepL lo hi (m.take k)).map (Value.int .i64)) ∧ Full wr ga 2 cur ∧ some ga ≠ v.ownBlock ∧ Below w1.heap.size w1 wr) (fun _ i _ => m.length - (intOf i).toNat)
            case atStart => exact ⟨0, Nat.zero_le _, rfl, oM, hF2, (by simp [Value.ownBlock]; omega), B1⟩
            case round =>
              obtain ⟨k, hk, rfl, hown2, hFr, hne, hB2⟩ := hrel
              have hz2' := hB2.size
              have hgr := hFr.inside
              by_cases hlt : k < m.length
              · obtain ⟨y, hy⟩ : ∃ y, m[k]? = some y := ⟨_, List.getElem?_eq_getElem hlt⟩
                have c0 : wr.cell? ⟨ga, k, none⟩ = some (.int .i64 y) := (hFr.at_ k).trans (hcur.out k y hy)
                have hll : (keepL lo hi (m.take k)).length ≤ 108000 := Nat.le_trans (keepL_length _ _ _) (by rw [List.length_take]; omega)
                have Hp := Lib.hid hy
                have j0 : (0 : Int) ≤ (k : Int) := by omega
                have j1 : (k : Int) < (m.length : Int) := by omega
                have HFr := Lib.hid hFr
                clear hy hFr hF2 oM
                by_cases ho : outB lo hi y = true
                · have HN := Lib.hid (keepL_no Hp.out ho)
                  have hin : inB y lo hi = false := by rw [outB_inB, ho]; rfl
                  go_wp2_with (first
                    | (go_at_call 68; refine (l01In_any _ _ _ _).mono ?_; rintro e w' ⟨rfl, rfl⟩))
                  go_roundw
                  case rel => exact ⟨k + 1, by omega, by go_num, by rw [HN.out]; exact hown2, HFr.out, hne, hB2⟩
                  case measure => simp [intOf]; omega
                · have ho : outB lo hi y = false := by simpa using ho
                  have HY := Lib.hid (keepL_yes Hp.out ho)
                  have hin : inB y lo hi = true := by rw [outB_inB, ho]; rfl
                  go_wp2_with (first
                    | (go_at_call 68; refine (l01In_any _ _ _ _).mono ?_; rintro e w' ⟨rfl, rfl⟩)
                    | (at_builtin; refine wpList_append_own_at _ rfl _ _ 30 rfl w1.heap.size 2 i0 (.int .i64 0) 1 8 Try.underlying30 hi' hz0 hz1 hz2 rfl (by decide) _ _ _ rfl (hown2.alloc _) ⟨wr.heap.size, 0, none⟩ 1 1 [.int .i64 y] rfl rfl ?_ ?_ ?_ ?_ ?_ ?_; exact cell_one_new _ _ _; (intro u hu; simp at hu; subst hu; rfl); (unfold maxLen; omega); omega; (simp; omega); intro v' w4 hown1 hgr1 _ hat1))
                  go_roundw
                  case rel =>
                    refine ⟨k + 1, by omega, by go_num, ?_, Full.grow (HFr.out.block _) hgr1 hne, ?_, (hB2.alloc hz2' (.cells #[.int .i64 y] 2)).grown hgr1 (by simp; omega) (fun k hk => (hown2.lt k hk).1)⟩
                    · rw [HY.out, List.map_append, List.length_append]
                      exact hown1
                    · rcases hat1 with e | e
                      · rw [e]; exact hne
                      · rw [e]; intro e2; injection e2 with e2; simp at e2; omega
                  case measure => simp [intOf]; omega
              · obtain rfl : k = m.length := by omega
                rw [List.take_length] at hown2
                have hml2 := keepL_length lo hi m
                have BB : Below w.heap.size w wr := b1.trans (hB2.mono hz1w)
                obtain ⟨wB, rfl⟩ : ∃ wB : World, wB = wr := ⟨_, rfl⟩
                clear B1 hB2 hF2 hFr oM hlm hpos hmc hne
                generalize keepL lo hi m = M at *
                obtain ⟨vM, cM, rfl⟩ := ownShape hown2
                have SM := Sees.ofOwn hown2
                clear hown2
                by_cases h150 : M.length ≤ 150
                · have Hv := Lib.hid (Hw.out.trans (if_pos h150))
                  clear Hw
                  go_wp2_with fail
                  go_loopw [15, 16] (fun v i wr => ∃ j : Nat, j ≤ M.length ∧ i = .int .i64 j ∧ wr.ownsRow wB.heap.size 51 3 v (ticksIn (M.take j) sc len).length (cells3 (ticksIn (M.take j) sc len)) ∧ Below wB.heap.size wB wr) (fun _ i _ => M.length - (intOf i).toNat)
                  case atStart => exact ⟨0, Nat.zero_le _, rfl, World.ownsRow_made wB #[] 0 (Nat.le_refl _) (Nat.zero_le _) rfl, (Below.refl _ _).alloc (Nat.le_refl _) _⟩
                  case round =>
                    obtain ⟨j, hj, rfl, hownT, hBr⟩ := hrel
                    have zr := hBr.size
                    by_cases hlt : j < M.length
                    · obtain ⟨mb, mo, y, rfl, hmb, hy, c0⟩ := SM.one (k := j) hlt
                      have d0 := (hBr.cell (p := ⟨mb, mo + j, none⟩) hmb).trans c0
                      have hyb := HIN.out y (List.mem_of_getElem? hy)
                      have hy1 := hyb.1
                      have hy2 := hyb.2
                      have MD := fun W => l07MiddleM_any sc y len W ⟨hy1, hy2⟩ ln.1 ln.2
                      have hmr : mb < wr.heap.size := by omega
                      have HMT := Lib.hid (show ∀ q ∈ ticksIn (M.take j) sc len, q.1 < y from fun q hq => by
                        obtain ⟨x, hx, rfl⟩ := ticksIn_mem hq
                        exact rise_take HR.out hy x hx)
                      have HST := Lib.hid (ticksIn_srt (M.take j) sc len)
                      have hTl : (ticksIn (M.take j) sc len).length ≤ 1000 := by rw [ticksIn_length, List.length_take]; omega
                      have HSTEP := Lib.hid (show ∀ T, Stab plcOf (ticksIn (M.take j) sc len ++ [(y, mid sc len y, heightOf y)]) T → Srt plcOf T 0 T.length → T = ticksIn (M.take (j + 1)) sc len from fun T a b => by
                        rw [List.take_add_one, hy]; exact ticksIn_step a b)
                      have i0' : (0 : Int) ≤ (j : Int) := by omega
                      have i1' : (j : Int) < (M.length : Int) := by omega
                      have Hy := Lib.hid hy
                      obtain ⟨A3, c3, rfl⟩ := ownShape hownT
                      clear hy hyb c0 SM
                      generalize mid sc len y = md at *
                      have hgo := heightOf_bd y
                      go_wp2_with fail
                      go_region_held3 (fun w' => w'.cell? ⟨mb, mo + j, none⟩ = some (.int .i64 y)) (go_keep) (first
                        | (go_at_call 88; (with_reducible refine (MD _).mono ?_); rintro e w3 ⟨rfl, hb3⟩; have hB3 : Below wr.heap.size wr w3 := Below.trans (by repeat' (first | (with_reducible exact Below.refl _ _) | (with_reducible assumption) | (with_reducible refine Below.alloc ?_ ?_ _) | (with_reducible refine Below.drew ?_) | (with_reducible refine belowDraws ?_ _) | (with_reducible refine Below.setCell ?_ ?_ _) | omega | (simp; done) | (simp; omega))) (hb3.mono (by first | omega | (simp; done) | (simp; omega))); have q3 := (hB3.cell (p := ⟨mb, mo + j, none⟩) hmr).trans d0; have z3 := hB3.size; clear hb3)
                        | (go_at_call 89; (with_reducible refine (l08Height_any _ _ hy1 hy2).mono ?_); rintro e w' ⟨rfl, rfl⟩)
                        | (go_at_call 87; (with_reducible refine (l08Put_any _ wB.heap.size (ticksIn (M.take j) sc len) _ _ _ _ hTl (ownOver hownT (by repeat' (first | (with_reducible exact Below.refl _ _) | (with_reducible assumption) | (with_reducible refine Below.alloc ?_ ?_ _) | (with_reducible refine Below.drew ?_) | (with_reducible refine belowDraws ?_ _) | (with_reducible refine Below.setCell ?_ ?_ _) | omega | (simp; done) | (simp; omega)))) ?_ HMT.out HST.out).mono ?_); (focus (first | omega | (simp; omega))); rintro e w5 ⟨v5, T5, rfl, st5, sr5, o5, hb5⟩; have ST5 := Lib.hid st5; have SR5 := Lib.hid sr5; have hB5 : Below wr.heap.size wr w5 := Below.trans (by repeat' (first | (with_reducible exact Below.refl _ _) | (with_reducible assumption) | (with_reducible refine Below.alloc ?_ ?_ _) | (with_reducible refine Below.drew ?_) | (with_reducible refine belowDraws ?_ _) | (with_reducible refine Below.setCell ?_ ?_ _) | omega | (simp; done) | (simp; omega))) (hb5.mono (by first | omega | (simp; done) | (simp; omega))); have q5 := (hB5.cell (p := ⟨mb, mo + j, none⟩) hmr).trans d0; clear hb5 st5 sr5))
                      all_goals go_wp2_with fail
                      all_goals go_roundw
                      all_goals first
                        | (case rel => exact ⟨j + 1, by omega, by go_num, by rw [← HSTEP.out T5 ST5.out SR5.out]; exact ownLower o5 (by omega), hBr.trans (hB5.mono zr)⟩)
                        | (case measure => simp [intOf]; omega)
                    · obtain rfl : j = M.length := by omega
                      rw [List.take_length] at hownT
                      obtain ⟨A3, c3, rfl⟩ := ownShape hownT
                      go_wp2_with fail
                      go_ret2
                      rw [Hv.out]
                      exact ⟨_, rfl, ownLower hownT (by omega), BB.trans (hBr.mono (by omega))⟩
                · have Hv := Lib.hid (Hw.out.trans (if_neg h150))
                  clear Hw
                  go_wp2_with fail
                  go_ret2
                  rw [Hv.out]
                  exact ⟨_, rfl, World.ownsRow_nil _ _ _ _, BB⟩
          · have g2' : inB hi 1000 9999 = false := by simpa using g2
            have Hv := Lib.hid (show rTicks l sc len lo hi = ([], 2) by rw [rTicks, if_pos h, if_neg (by simp [g2'])])
            have I := fun W hW => sIsGraduation_any A n c l W Hl.out hn hW hr
            rw [h] at I
            clear h hl
            go_enter Try.func44, Try.ntmps44
            go_wp2_with fail
            refine (I _ hs).mono ?_
            rintro e w1 ⟨rfl, b1⟩
            go_wp2_with (first
              | (go_at_call 85; refine (sIsScale_any _ _).mono ?_; rintro e w' ⟨rfl, rfl⟩)
              | (go_at_call 86; refine (l05Length_any _ _).mono ?_; rintro e w' ⟨rfl, rfl⟩)
              | (go_at_call 68; refine (l01In_any _ _ _ _).mono ?_; rintro e w' ⟨rfl, rfl⟩))
            go_ret2
            rw [Hv.out]
            exact ⟨_, rfl, World.ownsRow_nil _ _ _ _, b1⟩
        · have g1' : inB lo 1000 9999 = false := by simpa using g1
          have Hv := Lib.hid (show rTicks l sc len lo hi = ([], 2) by rw [rTicks, if_pos h, if_neg (by simp [g1'])])
          have I := fun W hW => sIsGraduation_any A n c l W Hl.out hn hW hr
          rw [h] at I
          clear h hl
          go_enter Try.func44, Try.ntmps44
          go_wp2_with fail
          refine (I _ hs).mono ?_
          rintro e w1 ⟨rfl, b1⟩
          go_wp2_with (first
            | (go_at_call 85; refine (sIsScale_any _ _).mono ?_; rintro e w' ⟨rfl, rfl⟩)
            | (go_at_call 86; refine (l05Length_any _ _).mono ?_; rintro e w' ⟨rfl, rfl⟩)
            | (go_at_call 68; refine (l01In_any _ _ _ _).mono ?_; rintro e w' ⟨rfl, rfl⟩))
          go_ret2
          rw [Hv.out]
          exact ⟨_, rfl, World.ownsRow_nil _ _ _ _, b1⟩
      · have g3' : inB len 1 100000 = false := by simpa using g3
        have Hv := Lib.hid (show rTicks l sc len lo hi = ([], 2) by rw [rTicks, if_pos h, if_neg (by simp [g3'])])
        have I := fun W hW => sIsGraduation_any A n c l W Hl.out hn hW hr
        rw [h] at I
        clear h hl
        go_enter Try.func44, Try.ntmps44
        go_wp2_with fail
        refine (I _ hs).mono ?_
        rintro e w1 ⟨rfl, b1⟩
        go_wp2_with (first
          | (go_at_call 85; refine (sIsScale_any _ _).mono ?_; rintro e w' ⟨rfl, rfl⟩)
          | (go_at_call 86; refine (l05Length_any _ _).mono ?_; rintro e w' ⟨rfl, rfl⟩)
          | (go_at_call 68; refine (l01In_any _ _ _ _).mono ?_; rintro e w' ⟨rfl, rfl⟩))
        go_ret2
        rw [Hv.out]
        exact ⟨_, rfl, World.ownsRow_nil _ _ _ _, b1⟩
    · have g0' : inB sc 0 5 = false := by simpa using g0
      have Hv := Lib.hid (show rTicks l sc len lo hi = ([], 2) by rw [rTicks, if_pos h, if_neg (by simp [g0'])])
      have I := fun W hW => sIsGraduation_any A n c l W Hl.out hn hW hr
      rw [h] at I
      clear h hl
      go_enter Try.func44, Try.ntmps44
      go_wp2_with fail
      refine (I _ hs).mono ?_
      rintro e w1 ⟨rfl, b1⟩
      go_wp2_with (first
        | (go_at_call 85; refine (sIsScale_any _ _).mono ?_; rintro e w' ⟨rfl, rfl⟩)
        | (go_at_call 86; refine (l05Length_any _ _).mono ?_; rintro e w' ⟨rfl, rfl⟩)
        | (go_at_call 68; refine (l01In_any _ _ _ _).mono ?_; rintro e w' ⟨rfl, rfl⟩))
      go_ret2
      rw [Hv.out]
      exact ⟨_, rfl, World.ownsRow_nil _ _ _ _, b1⟩
  · have h : gradB l = false := by simpa using h
    have Hv := Lib.hid (show rTicks l sc len lo hi = ([], 1) by rw [rTicks, if_neg (by simp [h])])
    have I := fun W hW => sIsGraduation_any A n c l W Hl.out hn hW hr
    rw [h] at I
    clear h hl
    go_enter Try.func44, Try.ntmps44
    go_wp2_with fail
    refine (I _ hs).mono ?_
    rintro e w1 ⟨rfl, b1⟩
    go_wp2_with (first
      | (go_at_call 85; refine (sIsScale_any _ _).mono ?_; rintro e w' ⟨rfl, rfl⟩)
      | (go_at_call 86; refine (l05Length_any _ _).mono ?_; rintro e w' ⟨rfl, rfl⟩)
      | (go_at_call 68; refine (l01In_any _ _ _ _).mono ?_; rintro e w' ⟨rfl, rfl⟩))
    go_ret2
    rw [Hv.out]
    exact ⟨_, rfl, World.ownsRow_nil _ _ _ _, b1⟩
end Go.Proofs.Ytkblmcpklpmobaa
