/- Ticks (layer 8): the code of a list of ticks, and TicksBetween. No condition. -/
import Derived.Test.YtpbhncgjnmaojaaGreatDoorSl
import Derived.Test.YtpbhncgjnmaojaaGreatDoorMk2
namespace Go.Proofs.YtpbhncgjnmaojaaGreatDoor
open Go.RowKit
set_option linter.unusedVariables false

def isV (x : Int) : Bool := inB x (-1000000000000) 1000000000000
def placesV (l : List (Int × Int × Int)) : Bool := l.all fun t => isV t.2.1
theorem placesV_next {l : List (Int × Int × Int)} {k : Nat} {p : Int × Int × Int} (hp : l[k]? = some p) (h : inB p.2.1 (-1000000000000) 1000000000000 = true) (ht : placesV (l.take k) = true) : placesV (l.take (k + 1)) = true := by
  unfold placesV at *
  rw [List.take_add_one, hp, List.all_append, ht]
  simpa [isV] using h
theorem placesV_no {l : List (Int × Int × Int)} {k : Nat} {p : Int × Int × Int} (hp : l[k]? = some p) (h : inB p.2.1 (-1000000000000) 1000000000000 = false) : placesV l = false :=
  List.all_eq_false.2 ⟨p, List.mem_of_getElem? hp, by simp [isV, h]⟩
def ckT (l : List (Int × Int × Int)) (ys : List Int) : Int := if 150 < l.length then 3 else if (ys.all isV && placesV l) = true then 0 else 2
theorem all_at {α : Type} {l : List α} {f : α → Bool} {k : Nat} {p : α} (hp : l[k]? = some p) (h : f p = false) : l.all f = false :=
  List.all_eq_false.2 ⟨p, List.mem_of_getElem? hp, by simp [h]⟩
theorem all_next {α : Type} {l : List α} {f : α → Bool} {k : Nat} {p : α} (hp : l[k]? = some p) (h : f p = true) (ht : (l.take k).all f = true) : (l.take (k + 1)).all f = true := by
  rw [List.take_add_one, hp, List.all_append, ht]
  simp [h]
theorem take_next {α : Type} {l : List α} {k : Nat} {p : α} (hp : l[k]? = some p) : l.take (k + 1) = l.take k ++ [p] := by
  rw [List.take_add_one, hp]; rfl
end Go.Proofs.YtpbhncgjnmaojaaGreatDoor
