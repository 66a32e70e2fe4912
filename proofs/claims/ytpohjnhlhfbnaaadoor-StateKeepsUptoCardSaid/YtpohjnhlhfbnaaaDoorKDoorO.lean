import Derived.Test.YtpohjnhlhfbnaaaDoorKOpen
import Derived.Test.YtpohjnhlhfbnaaaDoorCards
import Derived.Test.YtpohjnhlhfbnaaaDoorTie
import Derived.LaidHandle
import Derived.Deep.DeepHandedRow
import Derived.LaidLaws
namespace Go.Proofs.YtpohjnhlhfbnaaaDoor
open Go Go.EW Go.ChangeShapes Go.WideShapes Go.RowKit

/-! blake.order, cell by cell -/
theorem Dr.og : Tryd.prog.globalNamed "bayou/blake.order" = some 1 := by kernel_rfl
theorem Dr.ot : (Tryd.prog.globals[1]?).map (·.type) = some 198 := by kernel_rfl
theorem Dr.o1 : Tryd.prog.underlying 198 = some (.array 10 197) := by kernel_rfl
theorem Dr.o2 : Tryd.prog.underlying 197 = some (.array 16 5) := by kernel_rfl
theorem Dr.o3 : Tryd.prog.underlying 5 = some (.int .u8) := by kernel_rfl
theorem Dr.c2 : Tryd.prog.cellsOf 197 = 16 := by kernel_rfl
theorem Dr.c3 : Tryd.prog.cellsOf 5 = 1 := by kernel_rfl
def ordRow (i : Nat) : List (DataW Unit) := match (Rows.laid_bayou_blake_order : DataW Unit) with
  | .agg rs => match rs[i]? with
    | some (.agg ps) => ps
    | _ => []
  | _ => []
def ordRows : List (DataW Unit) := match (Rows.laid_bayou_blake_order : DataW Unit) with
  | .agg rs => rs
  | _ => []
def ordNum : Option (DataW Unit) → Option Int
  | some (.lit (.int .u8 n)) => some n
  | _ => none
theorem ord_eq : (Rows.laid_bayou_blake_order : DataW Unit) = .agg ordRows := rfl
theorem ord_row : ∀ i, i < 10 → ordRows[i]? = some (.agg (ordRow i)) := by
  intro i hi
  match i, hi with
  | 0, _ => rfl
  | 1, _ => rfl
  | 2, _ => rfl
  | 3, _ => rfl
  | 4, _ => rfl
  | 5, _ => rfl
  | 6, _ => rfl
  | 7, _ => rfl
  | 8, _ => rfl
  | 9, _ => rfl
  | n + 10, h => omega
theorem ord_num : ∀ i, i < 10 → ∀ j, j < 16 → ordNum (ordRow i)[j]? = ordN[i * 16 + j]? := by decide +kernel
theorem order_cells {W : World} {fuel : Nat} {cs : List Value} {p : List MemPlace} (h : DataW.trod (fun _ => ()) Tryd.prog W 0 (fun _ => true) false fuel 198 cs = some (Rows.laid_bayou_blake_order, p)) :
    ∀ i, i < 10 → ∀ j, j < 16 → ∀ n, ordN[i * 16 + j]? = some n → cs[i * 16 + j]? = some (.int .u8 n) := by
  obtain ⟨xs, m, _, hx, _, hxl, hrow⟩ := DataW.trod_array Dr.o1 h
  simp only [Prod.mk.injEq, ord_eq, DataW.agg.injEq] at hx
  intro i hi j hj n hn
  have h1 := hrow i hi
  have h2 : (xs.map (·.1))[i]? = some (.agg (ordRow i)) := by rw [← hx.1]; exact ord_row i hi
  rw [List.getElem?_map, Option.map_eq_some_iff] at h2
  obtain ⟨⟨d, pl⟩, hxi, rfl⟩ := h2
  rw [hxi, Dr.c2] at h1
  obtain ⟨ys, m', _, hy, _, hyl, hcell⟩ := DataW.trod_array Dr.o2 h1
  simp only [Prod.mk.injEq, DataW.agg.injEq] at hy
  have h3 := hcell j hj
  obtain ⟨⟨d', pl'⟩, hyj⟩ : ∃ y, ys[j]? = some y := ⟨ys[j]'(by omega), by simp [hyl, hj]⟩
  rw [hyj, Dr.c3] at h3
  obtain ⟨k, hk1, hk2, _⟩ := DataW.trod_int Dr.o3 h3
  simp only [Prod.mk.injEq] at hk2
  have h4 := ord_num i hi j hj
  have h5 : (ordRow i)[j]? = some (.lit (.int .u8 k)) := by rw [hy.1, List.getElem?_map, hyj, ← hk2.1]; rfl
  rw [h5, hn] at h4
  have h6 : k = n := Option.some.inj h4
  rw [h6] at hk1
  have h7 : (List.take 1 (List.drop (j * 1) (List.take 16 (List.drop (i * 16) cs))))[0]? = some (.int .u8 n) := by rw [hk1]; rfl
  rw [List.getElem?_take, if_pos (by omega), List.getElem?_drop, List.getElem?_take, if_pos (by omega), List.getElem?_drop] at h7
  simpa using h7
theorem ordN_len' : ordN.length = 160 := by decide +kernel
theorem order_glob {W : World} {cs : Array Value} {fuel : Nat} {p : List MemPlace} (hv : W.var? Tryd.prog "bayou/blake.order" = some cs) (h : DataW.trod (fun _ => ()) Tryd.prog W 0 (fun _ => true) false fuel 198 cs.toList = some (Rows.laid_bayou_blake_order, p)) :
    ∀ (j : Nat) (n : Int), ordN[j]? = some n → W.cell? ⟨1, j, none⟩ = some (.int .u8 n) := by
  intro j n hn
  have hj : j < 160 := by
    rw [← ordN_len']
    exact lt_of_get hn
  have h1 := order_cells h (j / 16) (by omega) (j % 16) (by omega) n (by rw [show j / 16 * 16 + j % 16 = j by omega]; exact hn)
  rw [show j / 16 * 16 + j % 16 = j by omega] at h1
  have h2 := World.var?_cell Dr.og hv j
  rw [h2]
  simpa using h1
/-- What the laid table gives. -/
theorem ord_of_met {W : World} (h : laidMet Tryd.prog [("bayou/blake.order", Rows.laid_bayou_blake_order)] W) : ∀ (j : Nat) (n : Int), ordN[j]? = some n → W.cell? ⟨1, j, none⟩ = some (.int .u8 n) := by
  obtain ⟨ps, ⟨g, t, cs, fuel, p, q, e1, e2, e3, e4, _⟩, _⟩ := h
  obtain rfl := Option.some.inj (Dr.og.symm.trans e1)
  obtain rfl := Option.some.inj (Dr.ot.symm.trans e2)
  exact order_glob e3 e4

abbrev Lai : List (String × DataW Unit) := [("bayou/blake.order", Rows.laid_bayou_blake_order)]
/-- The cells of blake.order. -/
def ordC : Array Value := (ordN.map fun n => Value.int .u8 n).toArray
theorem lt_of_cell {W : World} {b o : Nat} {v : Value} (hc : W.cell? ⟨b, o, none⟩ = some v) : b < W.heap.size := by
  rcases Nat.lt_or_ge b W.heap.size with h | h
  · exact h
  · simp [World.cell?, Array.getElem?_eq_none h] at hc

theorem glob_of_laid {W : World} (h : laidMetH Tryd.prog Lai W) : GOK (Cx0 W) := by
  have h' : laidMet Tryd.prog [("bayou/blake.order", Rows.laid_bayou_blake_order)] W := h
  have ho := ord_of_met h'
  intro g cs hg
  unfold gcells at hg
  split at hg
  · obtain rfl := Option.some.inj hg
    refine ⟨lt_of_cell (ho 0 0 rfl), ?_⟩
    intro j x hx
    rw [List.getElem?_map, Option.map_eq_some_iff] at hx
    obtain ⟨n, hn, rfl⟩ := hx
    exact ⟨_, ho j n hn, FR.lit _ rfl⟩
  · simp at hg

/-- A world that meets the condition: the settled one, the variable's cell laid. -/
noncomputable def laidWorld (os : Os) : World :=
  let w0 := World.holding Tryd.prog os ⟨#[], #[], []⟩
  { w0 with heap := w0.heap.modify 1 fun
      | .cells _ t frozen => .cells ordC t frozen
      | o => o }

end Go.Proofs.YtpohjnhlhfbnaaaDoor
