/- The laws on IsRule and HasScale (layer 11). No condition. -/
import Derived.Test.YthnjiiodpjielaaRule3
import Derived.Deep.RegionWith
namespace Go.Proofs.Ythnjiiodpjielaa
open Go.RowKit
set_option linter.unusedVariables false

def onScales (slide : Bool) (ls lt : List Int) : List Int := if slide = true then lt else ls
def rHas (a : Int) (ls lt : List Int) (slide : Bool) (x : Int) : Bool × Int := if ruleB a ls lt = true then (decide (x ∈ onScales slide ls lt), 0) else (false, 1)
set_option maxHeartbeats 400000 in
theorem hasScale_any (a : Int) (As : Option Addr) (ns cs : Nat) (ls : List Int) (At : Option Addr) (nt ct : Nat) (lt : List Int) (slide : Bool) (x : Int) (w : World) (hls : ls.length = ns) (hcs : ns ≤ cs) (hns : ns ≤ 1048576) (hrs : Sees w w.heap.size As (ls.map (Value.int .i64))) (hlt : lt.length = nt) (hct : nt ≤ ct) (hnt : nt ≤ 1048576) (hrt : Sees w w.heap.size At (lt.map (Value.int .i64))) :
    Calls Try.prog 128 #[.agg #[.int .i64 a, .slice As ns cs, .slice At nt ct], .bool slide, .int .i64 x] w fun e w' => e = .returned (.bool (decide (x ∈ onScales slide ls lt))) ∧ w.alloc (.cells #[.int .i64 a, .slice As ns cs, .slice At nt ct] 84) = w' := by
  have k1 := hrs.block (Nat.le_refl _) (.cells #[.int .i64 a, .slice As ns cs, .slice At nt ct] 84)
  have k2 := hrt.block (Nat.le_refl _) (.cells #[.int .i64 a, .slice As ns cs, .slice At nt ct] 84)
  have Hls := Lib.hid hls
  have Hlt := Lib.hid hlt
  clear hls hlt hrs hrt
  cases slide
  · go_enter Try.func128, Try.ntmps128
    go_wp2_with (go_at_call 173; refine (contains_any _ _ _ ls _ _ _ Hls.out (by omega) k1).mono ?_; rintro e w' ⟨rfl, rfl⟩)
    go_ret
    exact ⟨rfl, rfl⟩
  · go_enter Try.func128, Try.ntmps128
    go_wp2_with (go_at_call 173; refine (contains_any _ _ _ lt _ _ _ Hlt.out (by omega) k2).mono ?_; rintro e w' ⟨rfl, rfl⟩)
    go_ret
    exact ⟨rfl, rfl⟩
set_option maxHeartbeats 400000 in
theorem l11On_any (a : Int) (As : Option Addr) (ns cs : Nat) (At : Option Addr) (nt ct : Nat) (slide : Bool) (w : World) :
    Calls Try.prog 168 #[.agg #[.int .i64 a, .slice As ns cs, .slice At nt ct], .bool slide] w fun e w' => e = .returned (if slide = true then .slice At nt ct else .slice As ns cs) ∧ w.alloc (.cells #[.int .i64 a, .slice As ns cs, .slice At nt ct] 84) = w' := by
  cases slide
  · go_enter Try.func168, Try.ntmps168
    go_wp2
    go_ret
    exact ⟨rfl, rfl⟩
  · go_enter Try.func168, Try.ntmps168
    go_wp2
    go_ret
    exact ⟨rfl, rfl⟩
end Go.Proofs.Ythnjiiodpjielaa
