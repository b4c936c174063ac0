/- A world that meets the rows' condition on the two listed tables: laid by the library's own function; and that world's shape. -/
import Derived.Test.YtngccjeicolcpaaGreatDoorRows
import Derived.Test.YtngccjeicolcpaaGreatDoorFacts
import GoSem.ClaimSevenParts
import GoSem.ClaimWrapper
import Derived.Lay
import Derived.MakeChecks
import Derived.LaidMore
import Derived.LaidLaws
import Derived.KernelRfl
namespace Go.Proofs.YtngccjeicolcpaaGreatDoor.Met
open Go
def laid : List (String × DataW Unit) := [("unicode/utf8.acceptRanges", Rows.laid_unicode_utf8_acceptRanges), ("unicode/utf8.first", Rows.laid_unicode_utf8_first)]
noncomputable def world (os : Os) : World := World.laidAll Tryz.prog os laid
theorem world_os (os : Os) : (world os).os = os := World.laidAll_os _ _ _
set_option maxRecDepth 100000 in
theorem met (os : Os) (args : Array Value) : laidMetH Tryz.prog laid ((world os).forCall (fun _ _ => 0) ⟨#[], args, []⟩).memory := by
  rw [MakeChecks.laidMetH_plain _ _ _ (by kernel_rfl)]
  exact laidMet_laidAll args (by kernel_rfl) (by kernel_rfl)
set_option maxRecDepth 100000 in
theorem shaped (os : Os) (args : Array Value) : ((world os).forCall (fun _ _ => 0) ⟨#[], args, []⟩).Shaped Tryz.prog :=
  World.shaped_of_ZipB (by kernel_rfl) (by kernel_rfl)
theorem mainIs_of {P : Program} {r : List (List Char)} (h : wordsSigns P.initOrder.toList = Facts.w0 :: Facts.w1 :: r) : P.mainIs = some (true, "87ef1adabec95bcc500c293081fbd3922396630c80178f059b228d2d6c94b358".toList) := by
  unfold Program.mainIs
  rw [h]
  kernel_rfl
theorem mainIs : Tryz.pinned.checked.prog.mainIs = some (true, "87ef1adabec95bcc500c293081fbd3922396630c80178f059b228d2d6c94b358".toList) := mainIs_of Facts.words
theorem looks : false = Tryz.pinned.checked.prog.looks [] := (by kernel_rfl : false = Tryz.prog.looks [])
theorem plain_at (l : Array TypeId) (h : (l.all fun t => !Tryz.prog.wantsStandIn t) = true) (j : Nat) (t : TypeId) (ht : l[j]? = some t) : Tryz.pinned.checked.prog.wantsStandIn t = false := by
  have hm : t ∈ l := Array.mem_of_getElem? ht
  have := Array.all_eq_true_iff_forall_mem.1 h t hm
  exact (show Tryz.prog.wantsStandIn t = false by simpa using this)
end Go.Proofs.YtngccjeicolcpaaGreatDoor.Met
