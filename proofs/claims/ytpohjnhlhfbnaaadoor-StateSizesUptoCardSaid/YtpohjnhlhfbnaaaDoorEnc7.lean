import Derived.Test.YtpohjnhlhfbnaaaDoorEnc5
namespace Go.Proofs.YtpohjnhlhfbnaaaDoor
open Go Go.EW
set_option linter.unusedSimpArgs false

theorem bsv_cons (c : UInt8) (r : List UInt8) : bsv (c :: r) = cb c :: bsv r := rfl
/-- A reader of a line that is handed over. -/
theorem Read_own (l : List UInt8) : ECalls Tryd.prog 45 [R 0 l] [RO l] fun y H' => H' = [none, some (RdO l 0 0)] ∧ y = Ptr 1 := by
  refine ecalls k_Read ?_
  simp [c_Read, R, RO, litc, -errV_0]
  refine finW _ (weak_still (p := 49) (k := 0) (o := 0) (ty := 5) (es := 1) (xs := bsv l) rfl (by simp) rfl) ?_
  exact fin [49] (by decide) rfl rfl rfl ⟨rfl, rfl⟩

end Go.Proofs.YtpohjnhlhfbnaaaDoor
