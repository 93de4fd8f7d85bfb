/- One number read (layer 1): the program's way (strconv.ParseInt) and the reference's. No condition but the variables. -/
import Derived.Test.YtibcbhphkafgjaaDoorTd
import Derived.Test.YtibcbhphkafgjaaDoorDc
import Derived.Shelf.Strconv.ErrVarParseInt
import Derived.Shelf.Strings.SplitShaped
namespace Go.Proofs.YtibcbhphkafgjaaDoor
open Go.RowKit
set_option linter.unusedVariables false
set_option linter.unusedSimpArgs false

theorem var_over {w v : World} {nm : String} {g : Nat} {x : Array Value} (hg : Tryd.prog.globalNamed nm = some g) (h : w.var? Tryd.prog nm = some x) (hb : Below w.heap.size w v) : v.var? Tryd.prog nm = some x := by
  simp only [World.var?, hg, Option.bind_some] at h ⊢
  cases hx : w.heap[g]? with
  | none => simp [hx] at h
  | some o =>
    rw [hb.block g (Array.getElem?_eq_some_iff.1 hx).1]
    exact h
/-- what reading asks of a world: the table, the two errors' variables, bytealg's number -/
structure EnvT (w : World) : Prop where
  tab : TabT w
  syn : ∃ tp p, w.var? Tryd.prog "strconv.ErrSyntax" = some #[.iface tp p]
  rng : ∃ tp p, w.var? Tryd.prog "strconv.ErrRange" = some #[.iface tp p]
  len : ∃ m, w.cell? ⟨splitS_ren.g 1, 0, none⟩ = some (.int .i64 m)
theorem EnvT.over {w v : World} (h : EnvT w) (hb : Below w.heap.size w v) : EnvT v := by
  obtain ⟨h1, ⟨t2, p2, h2⟩, ⟨t3, p3, h3⟩, ⟨m, h4⟩⟩ := h
  refine ⟨h1.over hb, ⟨t2, p2, var_over parseS.m15 h2 hb⟩, ⟨t3, p3, var_over parseS.m16 h3 hb⟩, ⟨m, ?_⟩⟩
  rw [hb.cell (p := ⟨splitS_ren.g 1, 0, none⟩) (World.block_lt_of_cell? w _ h4)]
  exact h4
theorem numR_of_ok {l : List UInt8} {v : Int} (h : Lib.parseIntB 64 l = .ok v) (hi : Lib.itoa v = l) : numR l = (v, true) := by
  unfold numR
  rw [h]
  simp [hi]
theorem numR_of_no {l : List UInt8} {v : Int} (h : Lib.parseIntB 64 l = .ok v) (hi : ¬ Lib.itoa v = l) : numR l = (0, false) := by
  unfold numR
  rw [h]
  simp [hi]
theorem numR_of_not {l : List UInt8} (h : ∀ v, Lib.parseIntB 64 l ≠ .ok v) : numR l = (0, false) := by
  unfold numR
  rcases hp : Lib.parseIntB 64 l with v | _ | _
  · exact absurd hp (h v)
  · rfl
  · rfl
theorem endNum {p : Int × Bool} {x : Int} {y : Bool} (h : p = (x, y)) : Ending.returned (.tuple #[.int .i64 x, .bool y]) = .returned (.tuple #[.int .i64 p.1, .bool p.2]) := by subst h; rfl
theorem bytesW_below {w w' : World} {T : TypeId} (h : w' = w ∨ ∃ t, w' = Lib.bytesWorld w T t) : Below w.heap.size w w' := by
  rcases h with rfl | ⟨t, rfl⟩
  · exact Below.refl _ _
  · exact Lib.bytesWorld_below _ _ _
set_option maxRecDepth 100000 in
set_option maxHeartbeats 2000000 in
theorem number_any (l : List UInt8) (w : World) (hl : l.length ≤ 2000000) (hE : EnvT w) :
    Calls Tryd.prog 62 #[.string ⟨l.toArray⟩] w fun e w' => e = .returned (.tuple #[.int .i64 (numR l).1, .bool (numR l).2]) ∧ Below w.heap.size w w' := by
  have hsz : (⟨l.toArray⟩ : ByteArray).size = l.length := by simp [ByteArray.size]
  have hs1 : (⟨l.toArray⟩ : ByteArray).size ≤ 9223372036854775806 := by omega
  have hs2 : (⟨l.toArray⟩ : ByteArray).size ≤ 281474976710656 := by omega
  rcases hp : Lib.parseIntB 64 l with v | _ | _
  · have C := Any.strconv_ParseInt_10_at64_ok parseS ⟨l.toArray⟩ hs1 v hp w
    have hb := Lib.parseIntB_bounds hp
    simp at hb
    have D := fun W (hW : TabT W) => decI_any v W (by omega) (by omega) hW
    by_cases hi : Lib.itoa v = l
    · have Hv := Lib.hid (numR_of_ok hp hi)
      have t1 : (Lib.itoa v == l) = true := by simp [hi]
      clear hp hi hsz hs1 hs2
      go_enter Tryd.func62, Tryd.ntmps62
      go_wp2_with fail
      refine C.mono ?_
      rintro e w1 ⟨rfl, hw1⟩
      have hb1 := bytesW_below hw1
      clear hw1
      go_wp2_with fail
      refine (D _ (hE.tab.over hb1)).mono ?_
      rintro e w2 ⟨rfl, hb2⟩
      go_wp2_with fail
      go_ret2
      exact ⟨endNum Hv.out, hb1.trans (hb2.mono hb1.size)⟩
    · have Hv := Lib.hid (numR_of_no hp hi)
      have t1 : (Lib.itoa v == l) = false := by simpa using hi
      clear hp hi hsz hs1 hs2
      go_enter Tryd.func62, Tryd.ntmps62
      go_wp2_with fail
      refine C.mono ?_
      rintro e w1 ⟨rfl, hw1⟩
      have hb1 := bytesW_below hw1
      clear hw1
      go_wp2_with fail
      refine (D _ (hE.tab.over hb1)).mono ?_
      rintro e w2 ⟨rfl, hb2⟩
      go_wp2_with fail
      go_ret2
      exact ⟨endNum Hv.out, hb1.trans (hb2.mono hb1.size)⟩
  · obtain ⟨tp, p, hv⟩ := hE.syn
    have C := Any.strconv_ParseInt_10_at64_syntax_var parseS ⟨l.toArray⟩ hs2 hp tp p w hv
    have Hv := Lib.hid (numR_of_not (l := l) (fun v e => by rw [hp] at e; cases e))
    clear hp hsz hs1 hs2 hv
    go_enter Tryd.func62, Tryd.ntmps62
    go_wp2_with fail
    refine C.mono ?_
    rintro e w1 ⟨N, rfl, _, _, hb1⟩
    go_wp2_with fail
    go_ret2
    exact ⟨endNum Hv.out, hb1⟩
  · obtain ⟨tp, p, hv⟩ := hE.rng
    have C := Any.strconv_ParseInt_10_at64_range_var parseS ⟨l.toArray⟩ hs2 hp tp p w hv
    have Hv := Lib.hid (numR_of_not (l := l) (fun v e => by rw [hp] at e; cases e))
    clear hp hsz hs1 hs2 hv
    go_enter Tryd.func62, Tryd.ntmps62
    go_wp2_with fail
    refine C.mono ?_
    rintro e w1 ⟨N, rfl, _, _, hb1⟩
    go_wp2_with fail
    go_ret2
    exact ⟨endNum Hv.out, hb1⟩
end Go.Proofs.YtibcbhphkafgjaaDoor
