/- 'FnGraduationTexts' of the Go program returns true for every input, and its arguments read afterwards as they did. No condition. -/
import Derived.Test.YtibcbhphkafgjaaDoorRows
import Derived.Test.YtibcbhphkafgjaaDoorTie
import Derived.Test.YtibcbhphkafgjaaDoorCards
import Derived.ProofKit
import Derived.LaidMore
import Derived.OpenShut
import Derived.Stop.Joined
import Derived.SevenTiedAt
import Derived.Lib.LaidTab
import Derived.Lay
import Derived.LaidOnce
import Derived.Lib.ItoaNum
import Derived.Stop.LaidErr
import Derived.LaidLaws
import Derived.ShapedOpen
import Derived.Test.YtibcbhphkafgjaaDoorTw
import Derived.Test.YtibcbhphkafgjaaDoorOpen
namespace Go.Proofs.YtibcbhphkafgjaaDoor.fnGraduationTexts
open Go.ChangeShapes Go.WideShapes Go.ChangeAt Go.RowKit Go.Joins Go.Deep
open Go.ChangeMaps (open_string shut_string)
set_option linter.unusedVariables false

theorem own : ownKnob Tryd.prog.godebug = none := by kernel_rfl
theorem laidOut : laidOutB Tryd.prog = true := by kernel_rfl

/-- what the row's condition gives the walk: the table of powers -/
theorem tab {W : World} (h : laidMetH Tryd.prog Rows.fnGraduationTextsRow.laid W) : Lib.TabIs Tryd.prog W "internal/strconv.uint64pow10" .u64 Lib.pow10Tab := by
  rw [MakeChecks.laidMetH_plain _ _ _ (by kernel_rfl)] at h
  obtain ⟨ps, ⟨_, _, _, _, _, _, _, _, _, _, ⟨_, _, _, _, _, _, _, _, _, _, ⟨g', t', cs, fuel, p, q, hg', ht', hvar, hd, _⟩, _⟩, _⟩, _⟩ := h
  obtain rfl := Option.some.inj ((show Tryd.prog.globalNamed "internal/strconv.uint64pow10" = some 0 by kernel_rfl).symm.trans hg')
  obtain rfl := Option.some.inj ((show (Tryd.prog.globals[0]?).map (·.type) = some 118 by kernel_rfl).symm.trans ht')
  unfold Lib.TabIs
  rw [hvar, ← Lib.cells_of_tab Tryd.underlying118 Tryd.underlying103 (by kernel_rfl) (by kernel_rfl) hd]
theorem gSyn : Tryd.prog.globalNamed "strconv.ErrSyntax" = some 4 := by kernel_rfl
theorem gSynT : (Tryd.prog.globals[4]?).map (·.type) = some 90 := by kernel_rfl
theorem gRng : Tryd.prog.globalNamed "strconv.ErrRange" = some 5 := by kernel_rfl
theorem gRngT : (Tryd.prog.globals[5]?).map (·.type) = some 90 := by kernel_rfl
theorem cellsE : Tryd.prog.cellsOf 146 = 1 := by kernel_rfl
theorem cellsS : Tryd.prog.cellsOf 9 = 1 := by kernel_rfl
theorem star : "*" ++ "errors.errorString" = "*errors.errorString" := by decide
theorem rowE (u : TypeId) (h : Tryd.prog.typeName? 3 u = some "*errors.errorString") : u = 144 :=
  typeName_ptr_named (nm := "errors.errorString") (by rw [star]; kernel_rfl) (by kernel_rfl) (by decide) u (by rw [star]; exact h)
theorem env {W : World} (h : laidMetH Tryd.prog Rows.fnGraduationTextsRow.laid W) (hs : W.ShapedOpen Tryd.prog) : EnvT W := by
  have hT := tab h
  rw [MakeChecks.laidMetH_plain _ _ _ (by kernel_rfl)] at h
  obtain ⟨a0, sa, hva, _, _, _⟩ := laid_sentinel (h.tail.tail.tail.tail) gRng gRngT Tryd.underlying90 rowE Tryd.underlying144 Tryd.underlying146 rfl rfl Tryd.underlying9 cellsE cellsS
  obtain ⟨b0, sb, hvb, _, _, _⟩ := laid_sentinel (h.tail.tail.tail.tail.tail) gSyn gSynT Tryd.underlying90 rowE Tryd.underlying144 Tryd.underlying146 rfl rfl Tryd.underlying9 cellsE cellsS
  exact ⟨hT, ⟨_, _, hvb⟩, ⟨_, _, hva⟩, splitS.s1_3 W hs⟩
theorem laidHeap {l : List (String × DataW Unit)} {w w' : World} (e : w.heap = w'.heap) (h : laidMetH Tryd.prog l w) : laidMetH Tryd.prog l w' := h.of_heap e
set_option maxRecDepth 100000 in
theorem lifted (os : Os) (started : os.Started) (H : Type) (enc : TypeId × Value → H) :
    ReturnsInHanded {} Tryd.checked os 6 .any (fun w args => (Rows.fnGraduationTextsSpec.pre enc Tryd.prog Tryd.f6 [] false w args ∧ laidMetH Tryd.prog Rows.fnGraduationTextsRow.laid w) ∧ sizedMet enc Tryd.prog Tryd.f6 (OpenSpec.ofChange Rows.fnGraduationTextsSpec) false w args)
      (Rows.fnGraduationTextsSpec.post enc Tryd.prog Tryd.f6 false true false false) := by
  refine returnsInHanded_of_calls (C := Tryd.checked) own started (by kernel_rfl)
    (ChangeSpec.witness_shaped (enc := enc) (C := Tryd.checked) (os := os) (X := fun w _ => laidMetH Tryd.prog Rows.fnGraduationTextsRow.laid w) false (World.laidAll Tryd.prog os Rows.fnGraduationTextsRow.laid) #[.slice none 0 0] 8 (World.laidAll_os _ _ _)
      (World.shaped_of_ZipB (by kernel_rfl) (by kernel_rfl)) (by kernel_rfl) (by kernel_rfl) (by kernel_rfl)
      (by rw [MakeChecks.laidMetH_plain _ _ _ (by kernel_rfl)]; exact laidMet_laidAll _ (by kernel_rfl) (by kernel_rfl))) ?_
  intro w0 tape inp _ hshape _ hok hpre _
  obtain ⟨_, _, _, fnx, hfnx, _, _, _, _, hval1⟩ := hok
  obtain rfl : fnx = Tryd.f6 := Option.some.inj (hfnx.symm.trans Tryd.func6)
  obtain ⟨⟨⟨ds, gs, before, hW1, _⟩, hL1⟩, _⟩ := hpre
  have hW0 := DataW.Whole.of_heap (w' := w0.forCall tape inp) (by rfl) hW1
  have hL0 := laidHeap (w' := w0.forCall tape inp) (by rfl) hL1
  suffices hall : Calls Tryd.prog 6 inp.args (w0.forCall tape inp) fun e W' => ∃ v, e = .returned v ∧ Rows.fnGraduationTextsSpec.post enc Tryd.prog Tryd.f6 false true false false (w0.forCall tape inp) inp.args v W' from
    hall.mono fun e W' ⟨v, he, hp⟩ => by subst he; exact ChangeSpec.post_blind hp
  generalize w0.forCall tape inp = W at *
  generalize inp.args = args at *
  generalize w0.heap.size = base at *
  have hval0 := hval1
  have hW := hW0
  have hL := hL0
  clear hval1 hW0 hL0 hW1 hL1
  have hval : ∀ (j : Nat) t v, Tryd.f6.params[j]? = some t → args[j]? = some v → Value.okWide Tryd.prog W .any base t v := hval0
  have hW' := hW
  obtain ⟨p, q, hA0, hV, rfl, hfz, hnd⟩ := hW
  have hA : DataW.TrodAll enc Tryd.prog W 0 (fun _ => true) true Tryd.f6.params.toList args.toList ds p := hA0
  rw [Tryd.params6] at hA hval
  obtain ⟨v0, vs0, d0, ds0, p0, q0, hargs, rfl, rfl, h0, r0⟩ := trodAll_cons hA
  obtain ⟨rfl, rfl, rfl⟩ := trodAll_nil r0
  obtain rfl : args = #[v0] := by cases args; simp_all
  obtain ⟨rfl, rfl⟩ := trodVars_none hV
  have k0 := h0
  have lt0 : ∀ x ∈ p0, x.block < W.heap.size := by obtain ⟨m, hm⟩ := k0; exact DataW.trod_lt m _ _ _ hm
  obtain ⟨A0, n0, c0, l0, rfl, hl0, hc0, hm0, hr0, hx0⟩ : ∃ (A : Option Addr) (n c : Nat) (l : List Int), v0 = .slice A n c ∧ l.length = n ∧ n ≤ c ∧ c ≤ maxLen ∧ Sees W W.heap.size A (l.map (Value.int .u8)) ∧ U8s l := by
    obtain ⟨A, n, c, rfl⟩ := okWide_slice Tryd.underlying43 (hval 0 43 v0 rfl rfl)
    obtain ⟨fuel, hf⟩ := h0
    exact open_u8s Tryd.underlying43 Tryd.underlying5 (by kernel_rfl) (by simpa [Value.cells] using hf)
  clear hA0 hval0
  refine (fnGraduationTexts_walk A0 n0 c0 l0 W hl0 hc0 hm0 hr0 hx0 (env hL hshape)).mono fun e W' ⟨he, bel⟩ => ?_
  subst he
  exact ⟨_, rfl, _, _, _, [], _, [], hW', trodAll_mk1 (shut_bool Tryd.underlying4 _), (trodAll_cons_mk (Below.trod laidOut (by kernel_rfl) (of_decide_eq_true (by kernel_rfl)) k0 bel lt0) trodAll_mk0), rfl, bel.frame _, fun h => by cases h⟩

theorem row_holds : Rows.FnGraduationTextsSaid :=
  OpenClaim.holds_of_wide 6 Tryd.f6 rfl rfl rfl rfl rfl rfl rfl ⟨rfl, rfl, rfl, rfl, rfl⟩ rfl rfl rfl rfl rfl (by kernel_rfl) Tryd.func6 (by kernel_rfl)
    (of_decide_eq_true (by kernel_rfl)) (by unfold Func.isWrapper; first | (rw [if_pos (by decide +kernel)]; kernel_rfl) | (rw [if_neg (by decide +kernel)]; exact ⟨rfl, rfl⟩))
    (fun os started H enc _ => lifted os started H enc)
/-- THE STATEMENT -/
theorem proved : Rows.FnGraduationTextsCardSaid :=
  Claim7.holds_tied_plain_at .later [] [.data, .data, .data, .data, .sentinel, .sentinel, .pinned] true (true, "da4db1d02ee69e18595d4b21d3bbda77e65c3d8d99ebc3b53fdcdeb874c0fb2c") true
    row_holds (fun _ h => by cases h) (by kernel_rfl) (fun _ h => by cases h) fnGraduationTexts_row_tie rfl ⟨rfl, rfl⟩ (by kernel_rfl) rfl
    (fun f fn hf hfn => by
      obtain rfl : f = 6 := Option.some.inj ((show Tryd.prog.funcNamed Tryd.f6.name = some 6 by kernel_rfl).symm.trans hf) |>.symm
      obtain rfl : fn = Tryd.f6 := (Option.some.inj (Tryd.func6.symm.trans hfn)).symm
      exact ⟨by kernel_rfl, fun j t ht => by
        rw [Tryd.params6] at ht
        have hm : t ∈ [43] := by simpa using Array.mem_of_getElem? ht
        have hall : ([43].all fun u => !Tryd.prog.wantsStandIn u) = true := by kernel_rfl
        exact (show Tryd.prog.wantsStandIn t = false by simpa using List.all_eq_true.1 hall t hm)⟩)
    (by kernel_rfl)
#print axioms proved
end Go.Proofs.YtibcbhphkafgjaaDoor.fnGraduationTexts
