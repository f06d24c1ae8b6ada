import Derived.Test.YtkijhgplmikboaaGreatDoorPlanSame
import Derived.Test.YtkijhgplmikboaaGreatDoorTie
import Derived.Test.YtkijhgplmikboaaGreatDoorCards
import Derived.SevenTiedAt
set_option linter.all false
set_option maxHeartbeats 4000000
namespace Go.Proofs.YtkijhgplmikboaaGreatDoor.PlanSameCard
open Go
set_option maxRecDepth 100000 in
theorem proved : Rows.PlanSameCardSaid :=
  Claim7.holds_tied_plain_at .later [] [.data, .data, .data] true (true, "e82f45c621237125aebd0d3d0a7f4a3d6b63f0614ab040db2c3764bc1590902b") false
    PlanSame.proved (fun _ h => by cases h) (by kernel_rfl) (fun _ h => by cases h) planSame_row_tie rfl ⟨rfl, rfl⟩ (by kernel_rfl) rfl
    (fun f fn hf hfn => by
      obtain rfl : f = 4 := Option.some.inj ((show Tryz.prog.funcNamed "eyrie/eyrielaw15.PlanSame" = some 4 by kernel_rfl).symm.trans hf) |>.symm
      obtain rfl : fn = Tryz.f4 := (Option.some.inj (Tryz.func4.symm.trans hfn)).symm
      exact ⟨by kernel_rfl, fun j t ht => by
        have hm : t ∈ Tryz.f4.params.toList := by simpa using Array.mem_of_getElem? ht
        have hall : (Tryz.f4.params.toList.all fun u => !Tryz.prog.wantsStandIn u) = true := by kernel_rfl
        have := List.all_eq_true.1 hall t hm
        exact (show Tryz.prog.wantsStandIn t = false by simpa only [Bool.not_eq_true'] using this)⟩)
    (by kernel_rfl)
#print axioms proved
end Go.Proofs.YtkijhgplmikboaaGreatDoor.PlanSameCard
