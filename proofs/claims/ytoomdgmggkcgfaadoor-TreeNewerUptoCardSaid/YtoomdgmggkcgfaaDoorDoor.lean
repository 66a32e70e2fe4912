import Derived.Test.YtoomdgmggkcgfaaDoorOpen
import Derived.Test.YtoomdgmggkcgfaaDoorCards
import Derived.Test.YtoomdgmggkcgfaaDoorTie
import Derived.LaidHandle
import Derived.Deep.DeepHandedRow
namespace Go.Proofs.YtoomdgmggkcgfaaDoor
open Go Go.EW Go.ChangeShapes Go.WideShapes Go.RowKit

theorem Dr.et : Tryd.prog.globalNamed "errors.errorType" = some 0 := by kernel_rfl
theorem Dr.rt : (Tryd.prog.cutTypes.find? (·.1 == "internal/reflectlite.rtype")).map (·.2) = some 146 := by kernel_rfl
theorem Dr.size : Tryd.prog.types.size = 228 := by kernel_rfl
theorem Dr.oneRow : ((List.range 228).filter fun t => Tryd.prog.rowNamed t [101, 114, 114, 111, 114]) = [35] := by kernel_rfl

/-- What the list of laid variables gives: the one cell of errors.errorType. -/
theorem handle_of_laid {W : World} (h : laidMetH Tryd.prog [("errors.errorType", Rows.laid_errors_errorType)] W) : W.cell? ⟨0, 0, none⟩ = some (.iface 146 (.agg #[.pointer (some ⟨2, 35, none⟩)])) := by
  have h' : laidMet Tryd.prog [] W ∧ handlesMet Tryd.prog [("errors.errorType", Rows.laid_errors_errorType)] W := h
  obtain ⟨name, u, ty, e1, e2, e3, e4, e5⟩ := h'.2 _ (List.mem_singleton.2 rfl)
  have en : name = [101, 114, 114, 111, 114] := (Option.some.inj e1).symm
  subst en
  obtain rfl := Option.some.inj (Dr.rt.symm.trans e2)
  have hm : ty ∈ (List.range 228).filter fun t => Tryd.prog.rowNamed t [101, 114, 114, 111, 114] := List.mem_filter.2 ⟨List.mem_range.2 (by rw [← Dr.size]; exact e3), e4⟩
  rw [Dr.oneRow] at hm
  obtain rfl := List.mem_singleton.1 hm
  have hh : typeHandle Tryd.prog 35 = .pointer (some ⟨2, 35, none⟩) := by kernel_rfl
  rw [hh] at e5
  simpa using World.var?_cell Dr.et e5 0

theorem glob_of_laid {W : World} (h : laidMetH Tryd.prog [("errors.errorType", Rows.laid_errors_errorType)] W) : GOK (Cx0 W) := by
  have hc := handle_of_laid h
  have hlt : 0 < W.heap.size := by
    rcases Nat.lt_or_ge 0 W.heap.size with h | h
    · exact h
    · simp [World.cell?, Array.getElem?_eq_none h] at hc
  intro g cs hg
  unfold gcells at hg
  split at hg
  · obtain rfl := Option.some.inj hg
    refine ⟨hlt, ?_⟩
    intro j x hx
    cases j with
    | zero =>
      simp only [List.getElem?_cons_zero, Option.some.injEq] at hx
      subst hx
      exact ⟨_, hc, FR.lit _ rfl⟩
    | succ j => simp at hx
  · simp at hg

/-- A world that meets the condition: the settled one, the variable's cell laid. -/
noncomputable def laidWorld (os : Os) : World :=
  let w0 := World.holding Tryd.prog os ⟨#[], #[], []⟩
  { w0 with heap := w0.heap.modify 0 fun
      | .cells _ t frozen => .cells #[.iface 146 (.agg #[.pointer (some ⟨2, 35, none⟩)])] t frozen
      | o => o }

end Go.Proofs.YtoomdgmggkcgfaaDoor
