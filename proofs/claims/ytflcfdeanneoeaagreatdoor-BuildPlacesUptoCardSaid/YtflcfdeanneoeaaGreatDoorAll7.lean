import Derived.Test.YtflcfdeanneoeaaGreatDoorAll5
import Derived.WalkKit
import Derived.Deep.RegionLaw
import Derived.Lib.SliceRun
import Derived.Lib.Overlaps
import Derived.Lib.AppendZeros
import Derived.Lib.AppendZerosOnto
import Derived.Laws.Externs
import Derived.Test.YtflcfdeanneoeaaGreatDoorProg
import Derived.Test.YtflcfdeanneoeaaGreatDoorAll6
/- slices.Insert (one element) and slices.Delete (one element) on an own row, out of their walks ("roads"): what a program's own texts show by walking. -/
namespace Go.EW
set_option linter.unusedVariables false
set_option linter.unusedSimpArgs false
open Go Go.Lib
variable {P : Program}

/-- An operation 'copy(d, s)' whose run is known by an equation. -/
theorem wp_copy_runI (w : World) {o : Oper} {a : Act} {K : Act → World → Prop} {Q : Exit → Act → World → Prop} (d s : Operand) (t t' : TypeId)
    (ho : o.op = .call { callee := .builtin .copy, args := #[d, s], argTypes := #[t, t'] }) (v u : Value) (hd : a.eval d = v) (hs : a.eval s = u) {v' : Value} {w' : World}
    (hr : (Builtin.copy_ #[t, t'] o.type #[v, u]).run P w = .ok v' w') (h : K (a.put o.dst v') w') : o.wp P a w K Q := by
  unfold Oper.wp execOp
  simp only [ho, resolve, invoke, builtin, Sem.run_bind, Sem.run_pure, Result.andThen_ok, List.map_toArray, List.map_cons, List.map_nil, hd, hs, hr]
  exact h
theorem wpList_copy_runI (w : World) {ops : Array Oper} {rest : List Oper} {o : Oper} {a : Act} {Q : Exit → Act → World → Prop} (hgd : o.guard = none) (d s : Operand) (t t' : TypeId)
    (ho : o.op = .call { callee := .builtin .copy, args := #[d, s], argTypes := #[t, t'] }) (v u : Value) (hd : a.eval d = v) (hs : a.eval s = u) {v' : Value} {w' : World}
    (hr : (Builtin.copy_ #[t, t'] o.type #[v, u]).run P w = .ok v' w') (h : wpList P ops Q rest (a.put o.dst v') w') : wpList P ops Q (o :: rest) a w :=
  wpList_plain hgd fun _ hK => wp_copy_runI w d s t t' ho v u hd hs hr (hK _ _ h)
theorem step_copy_runI {ops : Array Oper} {o : Oper} {a : Act} {w : World} {K : Act → World → Prop} {Q : Exit → Act → World → Prop} {E : Prop}
    (hg : o.guard = none) (d x : Operand) (dT sT : TypeId) (hop : o.op = Op.call { callee := Callee.builtin Builtin.copy, args := #[d, x], argTypes := #[dT, sT] })
    (v u : Value) (hd : a.eval d = v) (hx : a.eval x = u) {v' : Value} {w' : World} (hr : (Builtin.copy_ #[dT, sT] o.type #[v, u]).run P w = .ok v' w') (hK : K (a.put o.dst v') w') :
    if Region.wanted o (yielded ops a.tmps) = true then Oper.wp P o a w K Q else E := by
  have hw : Region.wanted o (yielded ops a.tmps) = true := by simp [Region.wanted, hg]
  rw [if_pos hw]
  unfold Oper.wp
  simp [execOp, hop, resolve, invoke, builtin, hd, hx, hr, Result.andThen]
  exact hK
/-! ### the roads -/
def InsShift (P : Program) (f fov : FuncId) (tS : TypeId) (es : Nat) : Prop := ∀ (g n c i vb mc : Nat) (W1 W2 w : World), i < n → n + 1 ≤ c → c ≤ 9223372036854775807 →
  (∀ lb cb, (callFunc fov #[.slice (some ⟨vb, 0, none⟩) 1 mc, .slice (some ⟨g, (i + 1) * es, none⟩) lb cb]).run P w = .ok (.value (.bool false)) w) →
  (∀ ty, (Builtin.copy_ #[tS, tS] ty #[.slice (some ⟨g, (i + 1) * es, none⟩) (n - i) (c - (i + 1)), .slice (some ⟨g, i * es, none⟩) (n + 1 - i) (c - i)]).run P w.drew = .ok (goInt ((n - i : Nat) : Int)) W1) →
  (∀ ty, (Builtin.copy_ #[tS, tS] ty #[.slice (some ⟨g, i * es, none⟩) (n + 1 - i) (c - i), .slice (some ⟨vb, 0, none⟩) 1 mc]).run P W1 = .ok (goInt 1) W2) →
  Calls P f #[.slice (some ⟨g, 0, none⟩) n c, .int .i64 i, .slice (some ⟨vb, 0, none⟩) 1 mc] w fun e w' => e = .returned (.slice (some ⟨g, 0, none⟩) (n + 1) c) ∧ w' = W2
def InsGrow (P : Program) (f : FuncId) (tS tI : TypeId) (es : Nat) : Prop := ∀ (g n c i vb mc g2 C : Nat) (W1 W2 W3 w : World), i < n → n ≤ c → c < n + 1 → c ≤ 9223372036854775806 → n + 1 ≤ C → C ≤ 9223372036854775807 →
  (∀ ty, (Builtin.append_ #[tS, tI] ty #[.slice (some ⟨g, 0, none⟩) i c, .int .i64 ((n : Int) + 1 - (i : Int))]).run P w = .ok (.slice (some ⟨g2, 0, none⟩) (n + 1) C) W1) →
  (∀ ty, (Builtin.copy_ #[tS, tS] ty #[.slice (some ⟨g2, i * es, none⟩) (n + 1 - i) (C - i), .slice (some ⟨vb, 0, none⟩) 1 mc]).run P W1 = .ok (goInt 1) W2) →
  (∀ ty, (Builtin.copy_ #[tS, tS] ty #[.slice (some ⟨g2, (i + 1) * es, none⟩) (n - i) (C - (i + 1)), .slice (some ⟨g, i * es, none⟩) (n - i) (c - i)]).run P W2.drew = .ok (goInt ((n - i : Nat) : Int)) W3) →
  Calls P f #[.slice (some ⟨g, 0, none⟩) n c, .int .i64 i, .slice (some ⟨vb, 0, none⟩) 1 mc] w fun e w' => e = .returned (.slice (some ⟨g2, 0, none⟩) (n + 1) C) ∧ w' = W3
/-- What is known of a slice's element type. -/
structure ElemT (P : Program) (tS e : TypeId) (es bytes : Nat) (ti : TypeInfo) (z : Value) : Prop where
  u : P.underlying tS = some (.slice e)
  hi : P.info? e = some ti
  hz : ti.zero = some z
  hs : ti.size = es
  hb : ti.bytes = bytes
  zs : z.cells.size = es
  zo : ∀ u ∈ z.cells.toList, u.oneCell' = true
  pos : 0 < es

theorem elemT_of {P : Program} {tS e : TypeId} {es bytes : Nat} (hu : P.underlying tS = some (.slice e)) (hz : (zer P e).map (·.length) = some es) (hs : (P.info? e).map (·.size) = some es) (hb : (P.info? e).map (·.bytes) = some bytes) (hp : 0 < es) :
    ∃ ti z, ElemT P tS e es bytes ti z := by
  obtain ⟨zl, hz1, hz2⟩ := Option.map_eq_some_iff.1 hz
  obtain ⟨i', zv, hi', hzi, hzc, hone⟩ := zer_some hz1
  rw [hi'] at hs hb
  simp only [Option.map_some, Option.some.injEq] at hs hb
  refine ⟨i', zv, hu, hi', hzi, hs, hb, by rw [← hz2, ← hzc]; simp, ?_, hp⟩
  intro u hu'
  rw [hzc] at hu'
  exact hone u hu'
/-! ### as contracts -/
end Go.EW

set_option linter.unusedVariables false
set_option linter.unusedSimpArgs false
namespace Go.Proofs.YtflcfdeanneoeaaGreatDoor
open Go.RowKit Go.Lib Go.EW
namespace InsP

theorem elem : ∃ ti z, ElemT Tryz.prog 44 126 36 64 ti z := elemT_of (by kernel_rfl) (by kernel_rfl) (by kernel_rfl) (by kernel_rfl) (by decide)
theorem fov (w : World) (a b : Value) : (callFunc 160 #[a, b]).run Tryz.prog w = ((Extern.SlicesOverlaps.overlaps #[44, 44] #[4] #[a, b]).run Tryz.prog w).andThen fun v w' => .ok (.value v) w' := by
  rw [run_callFunc_extern Tryz.func160 (by kernel_rfl) (by kernel_rfl) (by kernel_rfl) (e := Extern.SlicesOverlaps.overlaps #[44, 44] #[4]) (by kernel_rfl)]

set_option maxHeartbeats 4000000 in
set_option maxRecDepth 100000 in
theorem shift : InsShift Tryz.prog 115 160 44 36 := by
  intro g n c i vb mc W1 W2 w hi hroom hc63 hov hc1 hc2
  have hz2 : ¬ ((i : Int) = (n : Int)) := by omega
  have hw1 : IntKind.i64.wrap ((i : Int) + 1) = (i : Int) + 1 := by rw [IntKind.wrap_i64]; omega
  have hw2 : IntKind.i64.wrap ((n : Int) + 1) = (n : Int) + 1 := by rw [IntKind.wrap_i64]; omega
  have hb1 : (0 : Int) ≤ (i : Int) + 1 := by omega
  have hin : i ≤ n := by omega
  have htn : ((i : Int) + 1).toNat = i + 1 := by omega
  have hb2 : ¬ (c = i + 1) := by omega
  have hb3 : (i : Int) ≤ (n : Int) + 1 := by omega
  have hb4 : ¬ (c = i) := by omega
  go_enter Tryz.func115, Tryz.ntmps115
  go_wp2_with (simp only [hov])
  go_region_law (refine step_copy_runI rfl _ _ 44 44 rfl _ _ (by simp [Act.eval, Act.put]) (by simp [Act.eval, Act.put]) (hc1 _) ?_)
  go_wp2_with (at_builtin; refine wpList_copy_runI _ rfl _ _ 44 44 rfl _ _ rfl rfl (hc2 _) ?_)
  go_ret
  exact ⟨rfl, rfl⟩

set_option maxHeartbeats 4000000 in
set_option maxRecDepth 100000 in
theorem grow : InsGrow Tryz.prog 115 44 3 36 := by
  intro g n c i vb mc g2 C W1 W2 W3 w hi hnc hroom hc63 hC hC63 hap hc1 hc2
  have hz2 : ¬ ((i : Int) = (n : Int)) := by omega
  have hz3 : (c : Int) < (n : Int) + 1 := by omega
  have hw1 : IntKind.i64.wrap ((i : Int) + 1) = (i : Int) + 1 := by rw [IntKind.wrap_i64]; omega
  have hw2 : IntKind.i64.wrap ((n : Int) + 1) = (n : Int) + 1 := by rw [IntKind.wrap_i64]; omega
  have hw3 : IntKind.i64.wrap ((n : Int) + 1 - (i : Int)) = (n : Int) + 1 - (i : Int) := by rw [IntKind.wrap_i64]; omega
  have hb1 : (0 : Int) ≤ (i : Int) + 1 := by omega
  have hin : i ≤ n := by omega
  have htn : ((i : Int) + 1).toNat = i + 1 := by omega
  have hb2 : ¬ (C = i + 1) := by omega
  have hb3 : (i : Int) ≤ (n : Int) := by omega
  have hb4 : ¬ (C = i) := by omega
  have hb5 : ¬ (c = i) := by omega
  have hb6 : (i : Int) ≤ (n : Int) + 1 := by omega
  go_enter Tryz.func115, Tryz.ntmps115
  go_wp2_with (first
    | (at_builtin; refine Lib.wpList_append_run _ rfl _ _ _ _ rfl _ _ rfl rfl _ _ (hap _) ?_)
    | (at_builtin; refine wpList_copy_runI _ rfl _ _ 44 44 rfl _ _ rfl rfl (hc1 _) ?_))
  go_region_law (refine step_copy_runI rfl _ _ 44 44 rfl _ _ (by simp [Act.eval, Act.put]) (by simp [Act.eval, Act.put]) (hc2 _) ?_)
  go_wp2
  go_ret
  exact ⟨rfl, rfl⟩

end InsP
end Go.Proofs.YtflcfdeanneoeaaGreatDoor

namespace Go.Proofs.YtflcfdeanneoeaaGreatDoor
open Go Go.EW
set_option linter.unusedSimpArgs false
set_option linter.unusedVariables false

@[simp] def l_CmpI_1 (_ : Unit) : List EOp := [⟨0, (some 4), none, (.q (.mov (.k (.int .i64 0)))), []⟩]
@[simp] def b_CmpI_2 (_ : Unit) : EB := reg0 (hid l_CmpI_1) 1
@[simp] def l_CmpI_3 (_ : Unit) : List EOp := [⟨0, (some 7), none, (.q (.mov (.t 0))), []⟩, ⟨1, (some 8), none, (.call 163 [(.t 7)]), []⟩, ⟨2, (some 5), none, (.q (.mov (.t 8))), []⟩]
@[simp] def b_CmpI_4 (_ : Unit) : EB := reg0 (hid l_CmpI_3) 3
@[simp] def l_CmpI_5 (_ : Unit) : List EOp := [⟨0, (some 9), none, (.q (.mov (.t 1))), []⟩, ⟨1, (some 10), none, (.call 163 [(.t 9)]), []⟩, ⟨2, (some 6), none, (.q (.mov (.t 10))), []⟩]
@[simp] def b_CmpI_6 (_ : Unit) : EB := reg0 (hid l_CmpI_5) 3
@[simp] def l_CmpI_7 (_ : Unit) : List EOp := [⟨0, (some 11), none, (.q (.mov (.t 5))), []⟩]
@[simp] def b_CmpI_8 (_ : Unit) : EB := reg0 (hid l_CmpI_7) 1
@[simp] def l_CmpI_9 (_ : Unit) : List EOp := [⟨0, (some 12), none, (.q (.mov (.t 6))), []⟩]
@[simp] def b_CmpI_10 (_ : Unit) : EB := reg0 (hid l_CmpI_9) 1
@[simp] def l_CmpI_11 (_ : Unit) : List EOp := [⟨0, (some 4), none, (.q (.mov (.k (.int .i64 0)))), []⟩]
@[simp] def b_CmpI_12 (_ : Unit) : EB := reg0 (hid l_CmpI_11) 1
@[simp] def b_CmpI_13 (_ : Unit) : EB := .seq (hid b_CmpI_12) .ret
@[simp] def b_CmpI_14 (_ : Unit) : EB := .cond (.t 12) (hid b_CmpI_13) .skip
@[simp] def b_CmpI_15 (_ : Unit) : EB := .seq (hid b_CmpI_10) (hid b_CmpI_14)
@[simp] def l_CmpI_16 (_ : Unit) : List EOp := [⟨0, (some 4), none, (.q (.mov (.k (.int .i64 (-1))))), []⟩]
@[simp] def b_CmpI_17 (_ : Unit) : EB := reg0 (hid l_CmpI_16) 1
@[simp] def b_CmpI_18 (_ : Unit) : EB := .seq (hid b_CmpI_17) .ret
@[simp] def b_CmpI_19 (_ : Unit) : EB := .seq (hid b_CmpI_15) (hid b_CmpI_18)
@[simp] def b_CmpI_20 (_ : Unit) : EB := .cond (.t 11) (hid b_CmpI_19) .skip
@[simp] def b_CmpI_21 (_ : Unit) : EB := .seq (hid b_CmpI_8) (hid b_CmpI_20)
@[simp] def l_CmpI_22 (_ : Unit) : List EOp := [⟨0, (some 13), none, (.q (.mov (.t 6))), []⟩]
@[simp] def b_CmpI_23 (_ : Unit) : EB := reg0 (hid l_CmpI_22) 1
@[simp] def l_CmpI_24 (_ : Unit) : List EOp := [⟨0, (some 4), none, (.q (.mov (.k (.int .i64 1)))), []⟩]
@[simp] def b_CmpI_25 (_ : Unit) : EB := reg0 (hid l_CmpI_24) 1
@[simp] def b_CmpI_26 (_ : Unit) : EB := .seq (hid b_CmpI_25) .ret
@[simp] def b_CmpI_27 (_ : Unit) : EB := .cond (.t 13) (hid b_CmpI_26) .skip
@[simp] def b_CmpI_28 (_ : Unit) : EB := .seq (hid b_CmpI_23) (hid b_CmpI_27)
@[simp] def l_CmpI_29 (_ : Unit) : List EOp := [⟨0, (some 14), none, (.q (.mov (.t 0))), []⟩, ⟨1, (some 15), none, (.q (.mov (.t 1))), []⟩, ⟨2, (some 16), none, (.q (.bin .lss (.t 14) (.t 15))), []⟩]
@[simp] def b_CmpI_30 (_ : Unit) : EB := reg0 (hid l_CmpI_29) 3
@[simp] def l_CmpI_31 (_ : Unit) : List EOp := [⟨0, (some 4), none, (.q (.mov (.k (.int .i64 (-1))))), []⟩]
@[simp] def b_CmpI_32 (_ : Unit) : EB := reg0 (hid l_CmpI_31) 1
@[simp] def b_CmpI_33 (_ : Unit) : EB := .seq (hid b_CmpI_32) .ret
@[simp] def b_CmpI_34 (_ : Unit) : EB := .cond (.t 16) (hid b_CmpI_33) .skip
@[simp] def b_CmpI_35 (_ : Unit) : EB := .seq (hid b_CmpI_30) (hid b_CmpI_34)
@[simp] def l_CmpI_36 (_ : Unit) : List EOp := [⟨0, (some 17), none, (.q (.mov (.t 0))), []⟩, ⟨1, (some 18), none, (.q (.mov (.t 1))), []⟩, ⟨2, (some 19), none, (.q (.bin .gtr (.t 17) (.t 18))), []⟩]
@[simp] def b_CmpI_37 (_ : Unit) : EB := reg0 (hid l_CmpI_36) 3
@[simp] def l_CmpI_38 (_ : Unit) : List EOp := [⟨0, (some 4), none, (.q (.mov (.k (.int .i64 1)))), []⟩]
@[simp] def b_CmpI_39 (_ : Unit) : EB := reg0 (hid l_CmpI_38) 1
@[simp] def b_CmpI_40 (_ : Unit) : EB := .seq (hid b_CmpI_39) .ret
@[simp] def b_CmpI_41 (_ : Unit) : EB := .cond (.t 19) (hid b_CmpI_40) .skip
@[simp] def b_CmpI_42 (_ : Unit) : EB := .seq (hid b_CmpI_37) (hid b_CmpI_41)
@[simp] def l_CmpI_43 (_ : Unit) : List EOp := [⟨0, (some 4), none, (.q (.mov (.k (.int .i64 0)))), []⟩]
@[simp] def b_CmpI_44 (_ : Unit) : EB := reg0 (hid l_CmpI_43) 1
@[simp] def b_CmpI_45 (_ : Unit) : EB := .seq (hid b_CmpI_44) .ret
@[simp] def b_CmpI_46 (_ : Unit) : EB := .seq (hid b_CmpI_42) (hid b_CmpI_45)
@[simp] def b_CmpI_47 (_ : Unit) : EB := .seq (hid b_CmpI_35) (hid b_CmpI_46)
@[simp] def b_CmpI_48 (_ : Unit) : EB := .seq (hid b_CmpI_28) (hid b_CmpI_47)
@[simp] def b_CmpI_49 (_ : Unit) : EB := .seq (hid b_CmpI_21) (hid b_CmpI_48)
@[simp] def b_CmpI_50 (_ : Unit) : EB := .seq (hid b_CmpI_6) (hid b_CmpI_49)
@[simp] def b_CmpI_51 (_ : Unit) : EB := .seq (hid b_CmpI_4) (hid b_CmpI_50)
@[simp] def b_CmpI_52 (_ : Unit) : EB := .seq (hid b_CmpI_2) (hid b_CmpI_51)
@[simp] def l_NaNI_1 (_ : Unit) : List EOp := [⟨0, (some 2), none, (.q (.mov (.k (.bool false)))), []⟩]
@[simp] def b_NaNI_2 (_ : Unit) : EB := reg0 (hid l_NaNI_1) 1
@[simp] def l_NaNI_3 (_ : Unit) : List EOp := [⟨0, (some 3), none, (.q (.mov (.t 0))), []⟩, ⟨1, (some 4), none, (.q (.mov (.t 0))), []⟩, ⟨2, (some 5), none, (.q (.bin .neq (.t 3) (.t 4))), []⟩, ⟨3, (some 2), none, (.q (.mov (.t 5))), []⟩]
@[simp] def b_NaNI_4 (_ : Unit) : EB := reg0 (hid l_NaNI_3) 4
@[simp] def b_NaNI_5 (_ : Unit) : EB := .seq (hid b_NaNI_4) .ret
@[simp] def b_NaNI_6 (_ : Unit) : EB := .seq (hid b_NaNI_2) (hid b_NaNI_5)
def c_NaNI : EB × List QOp × Nat := ((hid b_NaNI_6), [(.mov (.t 2))], 6)
theorem k_NaNI : cfun Tryz.prog 163 = some c_NaNI := by kernel_rfl

@[simp] def l_byPay_1 (_ : Unit) : List EOp := [⟨0, (some 2), none, (.q (.box 126 (.t 0))), []⟩, ⟨1, (some 4), none, (.q (.mov (.k (.int .i64 0)))), []⟩]
@[simp] def b_byPay_2 (_ : Unit) : EB := reg0 (hid l_byPay_1) 2
@[simp] def l_byPay_3 (_ : Unit) : List EOp := [⟨0, (some 5), none, (.q (.fad 0 (.t 2))), []⟩, ⟨1, (some 6), none, (.q (.ldc (.t 5))), []⟩, ⟨2, (some 7), none, (.q (.mov (.t 1))), []⟩, ⟨3, (some 8), none, (.call 159 [(.t 6), (.t 7)]), []⟩, ⟨4, (some 4), none, (.q (.mov (.t 8))), []⟩]
@[simp] def b_byPay_4 (_ : Unit) : EB := reg0 (hid l_byPay_3) 5
@[simp] def b_byPay_5 (_ : Unit) : EB := .seq (hid b_byPay_4) .ret
@[simp] def b_byPay_6 (_ : Unit) : EB := .seq (hid b_byPay_2) (hid b_byPay_5)
@[simp] def l_BinP_1 (_ : Unit) : List EOp := [⟨0, (some 6), none, (.q (.mov (.k (.int .i64 0)))), []⟩, ⟨1, (some 7), none, (.q (.mov (.k (.bool false)))), []⟩]
@[simp] def b_BinP_2 (_ : Unit) : EB := reg0 (hid l_BinP_1) 2
@[simp] def l_BinP_3 (_ : Unit) : List EOp := [⟨0, (some 12), none, (.q (.mov (.t 0))), []⟩, ⟨1, (some 13), none, (.q (.len (.t 12))), []⟩, ⟨2, (some 8), none, (.q (.mov (.t 13))), []⟩]
@[simp] def b_BinP_4 (_ : Unit) : EB := reg0 (hid l_BinP_3) 3
@[simp] def l_BinP_5 (_ : Unit) : List EOp := [⟨0, (some 14), none, (.q (.mov (.t 8))), []⟩, ⟨1, (some 9), none, (.q (.mov (.k (.int .i64 0)))), []⟩, ⟨2, (some 10), none, (.q (.mov (.t 14))), []⟩]
@[simp] def b_BinP_6 (_ : Unit) : EB := reg0 (hid l_BinP_5) 3
@[simp] def l_BinP_7 (_ : Unit) : List EOp := [⟨0, (some 15), none, (.q (.mov (.t 9))), []⟩, ⟨1, (some 16), none, (.q (.mov (.t 10))), []⟩, ⟨2, (some 17), none, (.q (.bin .lss (.t 15) (.t 16))), []⟩]
@[simp] def b_BinP_8 (_ : Unit) : EB := reg0 (hid l_BinP_7) 3
@[simp] def b_BinP_9 (_ : Unit) : EB := .cond (.t 17) .skip (.exit 0)
@[simp] def b_BinP_10 (_ : Unit) : EB := .seq (hid b_BinP_8) (hid b_BinP_9)
@[simp] def l_BinP_12 (_ : Unit) : List EOp := [⟨6, (some 11), none, (.q (.mov (.t 23))), []⟩]
@[simp] def l_BinP_11 (_ : Unit) : List EOp := ⟨0, (some 18), none, (.q (.mov (.t 9))), []⟩ :: ⟨1, (some 19), none, (.q (.mov (.t 10))), []⟩ :: ⟨2, (some 20), none, (.q (.bin .add (.t 18) (.t 19))), []⟩ :: ⟨3, (some 21), none, (.q (.cnv .u64 (.t 20))), []⟩ :: ⟨4, (some 22), none, (.q (.bin .shr (.t 21) (.k (.int .u64 1)))), []⟩ :: ⟨5, (some 23), none, (.q (.cnv .i64 (.t 22))), []⟩ :: hid l_BinP_12
@[simp] def b_BinP_13 (_ : Unit) : EB := reg0 (hid l_BinP_11) 7
@[simp] def l_BinP_15 (_ : Unit) : List EOp := [⟨6, (some 30), none, (.clo (.t 24) [(.t 28), (.t 29)]), []⟩, ⟨7, (some 31), none, (.q (.bin .lss (.t 30) (.k (.int .i64 0)))), []⟩]
@[simp] def l_BinP_14 (_ : Unit) : List EOp := ⟨0, (some 24), none, (.q (.mov (.t 2))), []⟩ :: ⟨1, (some 25), none, (.q (.mov (.t 0))), []⟩ :: ⟨2, (some 26), none, (.q (.mov (.t 11))), []⟩ :: ⟨3, (some 27), none, (.q (.isl 36 (.t 25) (.t 26))), []⟩ :: ⟨4, (some 28), none, (.q (.lda 36 (.t 27))), []⟩ :: ⟨5, (some 29), none, (.q (.mov (.t 1))), []⟩ :: hid l_BinP_15
@[simp] def b_BinP_16 (_ : Unit) : EB := reg0 (hid l_BinP_14) 8
@[simp] def l_BinP_17 (_ : Unit) : List EOp := [⟨0, (some 32), none, (.q (.mov (.t 11))), []⟩, ⟨1, (some 33), none, (.q (.bin .add (.t 32) (.k (.int .i64 1)))), []⟩, ⟨2, (some 9), none, (.q (.mov (.t 33))), []⟩]
@[simp] def b_BinP_18 (_ : Unit) : EB := reg0 (hid l_BinP_17) 3
@[simp] def l_BinP_19 (_ : Unit) : List EOp := [⟨0, (some 34), none, (.q (.mov (.t 11))), []⟩, ⟨1, (some 10), none, (.q (.mov (.t 34))), []⟩]
@[simp] def b_BinP_20 (_ : Unit) : EB := reg0 (hid l_BinP_19) 2
@[simp] def b_BinP_21 (_ : Unit) : EB := .cond (.t 31) (hid b_BinP_18) (hid b_BinP_20)
@[simp] def b_BinP_22 (_ : Unit) : EB := .seq (hid b_BinP_16) (hid b_BinP_21)
@[simp] def b_BinP_23 (_ : Unit) : EB := .seq (hid b_BinP_13) (hid b_BinP_22)
@[simp] def b_BinP_24 (_ : Unit) : EB := .block 1 (hid b_BinP_23)
@[simp] def b_BinP_25 (_ : Unit) : EB := .seq (hid b_BinP_10) (hid b_BinP_24)
@[simp] def b_BinP_26 (_ : Unit) : EB := .loop (hid b_BinP_25)
@[simp] def b_BinP_27 (_ : Unit) : EB := .block 0 (hid b_BinP_26)
@[simp] def l_BinP_30 (_ : Unit) : List EOp := [⟨12, (some 47), (some (39, true)), (.q (.bin .eql (.t 46) (.k (.int .i64 0)))), []⟩, ⟨13, (some 48), none, (.q (.pick (.t 39) (.t 47) (.k (.bool false)))), []⟩, ⟨14, (some 6), none, (.q (.mov (.t 35))), []⟩, ⟨15, (some 7), none, (.q (.mov (.t 48))), []⟩]
@[simp] def l_BinP_29 (_ : Unit) : List EOp := ⟨6, (some 41), (some (39, true)), (.q (.mov (.t 0))), []⟩ :: ⟨7, (some 42), (some (39, true)), (.q (.mov (.t 9))), []⟩ :: ⟨8, (some 43), (some (39, true)), (.q (.isl 36 (.t 41) (.t 42))), []⟩ :: ⟨9, (some 44), (some (39, true)), (.q (.lda 36 (.t 43))), []⟩ :: ⟨10, (some 45), (some (39, true)), (.q (.mov (.t 1))), []⟩ :: ⟨11, (some 46), (some (39, true)), (.clo (.t 40) [(.t 44), (.t 45)]), []⟩ :: hid l_BinP_30
@[simp] def l_BinP_28 (_ : Unit) : List EOp := ⟨0, (some 35), none, (.q (.mov (.t 9))), []⟩ :: ⟨1, (some 36), none, (.q (.mov (.t 9))), []⟩ :: ⟨2, (some 37), none, (.q (.mov (.t 8))), []⟩ :: ⟨3, (some 38), none, (.q (.bin .lss (.t 36) (.t 37))), []⟩ :: ⟨4, (some 39), none, (.q (.mov (.t 38))), []⟩ :: ⟨5, (some 40), (some (39, true)), (.q (.mov (.t 2))), []⟩ :: hid l_BinP_29
@[simp] def b_BinP_31 (_ : Unit) : EB := reg0 (hid l_BinP_28) 16
@[simp] def b_BinP_32 (_ : Unit) : EB := .seq (hid b_BinP_31) .ret
@[simp] def b_BinP_33 (_ : Unit) : EB := .seq (hid b_BinP_27) (hid b_BinP_32)
@[simp] def b_BinP_34 (_ : Unit) : EB := .seq (hid b_BinP_6) (hid b_BinP_33)
@[simp] def b_BinP_35 (_ : Unit) : EB := .seq (hid b_BinP_4) (hid b_BinP_34)
@[simp] def b_BinP_36 (_ : Unit) : EB := .seq (hid b_BinP_2) (hid b_BinP_35)
@[simp] def l_SAdd_1 (_ : Unit) : List EOp := [⟨0, (some 2), none, (.q (.box 47 (.t 0))), []⟩, ⟨1, (some 3), none, (.q (.box 126 (.t 1))), []⟩, ⟨2, (some 4), none, (.q (.alloc 47 [(.int .i64 0), (.int .i64 0), (.int .i64 0), (.slice none 0 0), (.slice none 0 0)])), []⟩, ⟨3, (some 5), none, (.q (.mov (.k .nilIface))), []⟩]
@[simp] def b_SAdd_2 (_ : Unit) : EB := reg0 (hid l_SAdd_1) 4
@[simp] def l_SAdd_4 (_ : Unit) : List EOp := [⟨6, none, none, (.fz (.sto 5 (.t 6) (.t 13))), []⟩, ⟨7, (some 7), none, (.q (.mov (.t 14))), []⟩]
@[simp] def l_SAdd_3 (_ : Unit) : List EOp := ⟨0, (some 11), none, (.q (.lda 5 (.t 2))), []⟩ :: ⟨1, (some 12), none, (.call 109 [(.t 11)]), []⟩ :: ⟨2, (some 10), none, (.q (.mov (.t 12))), []⟩ :: ⟨3, (some 13), none, (.q (.ext 0 (.t 10))), []⟩ :: ⟨4, (some 14), none, (.q (.ext 1 (.t 10))), []⟩ :: ⟨5, (some 6), none, (.q (.alloc 47 [(.int .i64 0), (.int .i64 0), (.int .i64 0), (.slice none 0 0), (.slice none 0 0)])), []⟩ :: hid l_SAdd_4
@[simp] def b_SAdd_5 (_ : Unit) : EB := reg0 (hid l_SAdd_3) 8
@[simp] def l_SAdd_6 (_ : Unit) : List EOp := [⟨0, (some 15), none, (.q (.mov (.t 7))), []⟩, ⟨1, (some 16), none, (.q (.eqi true (.t 15))), []⟩]
@[simp] def b_SAdd_7 (_ : Unit) : EB := reg0 (hid l_SAdd_6) 2
@[simp] def l_SAdd_8 (_ : Unit) : List EOp := [⟨0, (some 17), none, (.q (.build [(.int .i64 0), (.int .i64 0), (.int .i64 0), (.slice none 0 0), (.slice none 0 0)] [])), []⟩, ⟨1, (some 18), none, (.q (.mov (.t 7))), []⟩, ⟨2, none, none, (.fz (.sto 5 (.t 4) (.t 17))), []⟩, ⟨3, (some 5), none, (.q (.mov (.t 18))), []⟩]
@[simp] def b_SAdd_9 (_ : Unit) : EB := reg0 (hid l_SAdd_8) 4
@[simp] def b_SAdd_10 (_ : Unit) : EB := .seq (hid b_SAdd_9) .ret
@[simp] def b_SAdd_11 (_ : Unit) : EB := .cond (.t 16) (hid b_SAdd_10) .skip
@[simp] def b_SAdd_12 (_ : Unit) : EB := .seq (hid b_SAdd_7) (hid b_SAdd_11)
@[simp] def l_SAdd_14 (_ : Unit) : List EOp := [⟨6, (some 25), none, (.q (.ext 0 (.t 19))), []⟩, ⟨7, (some 26), none, (.q (.ext 1 (.t 19))), []⟩, ⟨8, (some 8), none, (.q (.mov (.t 25))), []⟩, ⟨9, (some 9), none, (.q (.mov (.t 26))), []⟩]
@[simp] def l_SAdd_13 (_ : Unit) : List EOp := ⟨0, (some 20), none, (.q (.fad 3 (.t 6))), []⟩ :: ⟨1, (some 21), none, (.q (.ldc (.t 20))), []⟩ :: ⟨2, (some 22), none, (.q (.fad 0 (.t 3))), []⟩ :: ⟨3, (some 23), none, (.q (.ldc (.t 22))), []⟩ :: ⟨4, (some 24), none, (.call 110 [(.t 21), (.t 23), (.k (.func (.func 111) #[] #[]))]), []⟩ :: ⟨5, (some 19), none, (.q (.mov (.t 24))), []⟩ :: hid l_SAdd_14
@[simp] def b_SAdd_15 (_ : Unit) : EB := reg0 (hid l_SAdd_13) 10
@[simp] def l_SAdd_16 (_ : Unit) : List EOp := [⟨0, (some 28), none, (.q (.fad 1 (.t 3))), []⟩, ⟨1, (some 29), none, (.q (.ldc (.t 28))), []⟩, ⟨2, (some 30), none, (.call 112 [(.t 29)]), []⟩, ⟨3, (some 31), none, (.q (.un .not (.t 30))), []⟩, ⟨4, (some 27), none, (.q (.mov (.t 31))), []⟩]
@[simp] def b_SAdd_17 (_ : Unit) : EB := reg0 (hid l_SAdd_16) 5
@[simp] def l_SAdd_18 (_ : Unit) : List EOp := [⟨0, (some 32), none, (.q (.build [(.int .i64 0), (.int .i64 0), (.int .i64 0), (.slice none 0 0), (.slice none 0 0)] [])), []⟩, ⟨1, (some 33), none, (.q (.mki 120 (.k (.int .i64 33)))), []⟩, ⟨2, none, none, (.fz (.sto 5 (.t 4) (.t 32))), []⟩, ⟨3, (some 5), none, (.q (.mov (.t 33))), []⟩]
@[simp] def b_SAdd_19 (_ : Unit) : EB := reg0 (hid l_SAdd_18) 4
@[simp] def b_SAdd_20 (_ : Unit) : EB := .seq (hid b_SAdd_19) .ret
@[simp] def l_SAdd_21 (_ : Unit) : List EOp := [⟨0, (some 35), none, (.q (.fad 2 (.t 3))), []⟩, ⟨1, (some 36), none, (.q (.ldc (.t 35))), []⟩, ⟨2, (some 37), none, (.q (.bin .lss (.t 36) (.k (.int .i64 10)))), []⟩, ⟨3, (some 34), none, (.q (.mov (.t 37))), []⟩]
@[simp] def b_SAdd_22 (_ : Unit) : EB := reg0 (hid l_SAdd_21) 4
@[simp] def l_SAdd_23 (_ : Unit) : List EOp := [⟨0, (some 38), none, (.q (.build [(.int .i64 0), (.int .i64 0), (.int .i64 0), (.slice none 0 0), (.slice none 0 0)] [])), []⟩, ⟨1, (some 39), none, (.q (.mki 120 (.k (.int .i64 27)))), []⟩, ⟨2, none, none, (.fz (.sto 5 (.t 4) (.t 38))), []⟩, ⟨3, (some 5), none, (.q (.mov (.t 39))), []⟩]
@[simp] def b_SAdd_24 (_ : Unit) : EB := reg0 (hid l_SAdd_23) 4
@[simp] def b_SAdd_25 (_ : Unit) : EB := .seq (hid b_SAdd_24) .ret
@[simp] def l_SAdd_26 (_ : Unit) : List EOp := [⟨0, (some 41), none, (.q (.lda 36 (.t 3))), []⟩, ⟨1, (some 42), none, (.call 113 [(.t 41)]), []⟩, ⟨2, (some 43), none, (.q (.un .not (.t 42))), []⟩, ⟨3, (some 40), none, (.q (.mov (.t 43))), []⟩]
@[simp] def b_SAdd_27 (_ : Unit) : EB := reg0 (hid l_SAdd_26) 4
@[simp] def l_SAdd_28 (_ : Unit) : List EOp := [⟨0, (some 44), none, (.q (.build [(.int .i64 0), (.int .i64 0), (.int .i64 0), (.slice none 0 0), (.slice none 0 0)] [])), []⟩, ⟨1, (some 45), none, (.q (.mki 120 (.k (.int .i64 1)))), []⟩, ⟨2, none, none, (.fz (.sto 5 (.t 4) (.t 44))), []⟩, ⟨3, (some 5), none, (.q (.mov (.t 45))), []⟩]
@[simp] def b_SAdd_29 (_ : Unit) : EB := reg0 (hid l_SAdd_28) 4
@[simp] def b_SAdd_30 (_ : Unit) : EB := .seq (hid b_SAdd_29) .ret
@[simp] def l_SAdd_31 (_ : Unit) : List EOp := [⟨0, (some 47), none, (.q (.mov (.t 9))), []⟩, ⟨1, (some 46), none, (.q (.mov (.t 47))), []⟩]
@[simp] def b_SAdd_32 (_ : Unit) : EB := reg0 (hid l_SAdd_31) 2
@[simp] def l_SAdd_33 (_ : Unit) : List EOp := [⟨0, (some 48), none, (.q (.build [(.int .i64 0), (.int .i64 0), (.int .i64 0), (.slice none 0 0), (.slice none 0 0)] [])), []⟩, ⟨1, (some 49), none, (.q (.mki 120 (.k (.int .i64 9)))), []⟩, ⟨2, none, none, (.fz (.sto 5 (.t 4) (.t 48))), []⟩, ⟨3, (some 5), none, (.q (.mov (.t 49))), []⟩]
@[simp] def b_SAdd_34 (_ : Unit) : EB := reg0 (hid l_SAdd_33) 4
@[simp] def b_SAdd_35 (_ : Unit) : EB := .seq (hid b_SAdd_34) .ret
@[simp] def l_SAdd_36 (_ : Unit) : List EOp := [⟨0, (some 51), none, (.q (.lda 5 (.t 6))), []⟩, ⟨1, (some 52), none, (.call 114 [(.t 51)]), []⟩, ⟨2, (some 53), none, (.q (.bin .geq (.t 52) (.k (.int .i64 8)))), []⟩, ⟨3, (some 50), none, (.q (.mov (.t 53))), []⟩]
@[simp] def b_SAdd_37 (_ : Unit) : EB := reg0 (hid l_SAdd_36) 4
@[simp] def l_SAdd_38 (_ : Unit) : List EOp := [⟨0, (some 54), none, (.q (.build [(.int .i64 0), (.int .i64 0), (.int .i64 0), (.slice none 0 0), (.slice none 0 0)] [])), []⟩, ⟨1, (some 55), none, (.q (.mki 120 (.k (.int .i64 30)))), []⟩, ⟨2, none, none, (.fz (.sto 5 (.t 4) (.t 54))), []⟩, ⟨3, (some 5), none, (.q (.mov (.t 55))), []⟩]
@[simp] def b_SAdd_39 (_ : Unit) : EB := reg0 (hid l_SAdd_38) 4
@[simp] def b_SAdd_40 (_ : Unit) : EB := .seq (hid b_SAdd_39) .ret
@[simp] def l_SAdd_42 (_ : Unit) : List EOp := [⟨6, (some 63), none, (.q (.ldc (.t 62))), []⟩, ⟨7, (some 64), none, (.q (.bin .lss (.t 61) (.t 63))), []⟩, ⟨8, (some 56), none, (.q (.mov (.t 64))), []⟩]
@[simp] def l_SAdd_41 (_ : Unit) : List EOp := ⟨0, (some 57), none, (.q (.fad 1 (.t 3))), []⟩ :: ⟨1, (some 58), none, (.q (.ldc (.t 57))), []⟩ :: ⟨2, (some 59), none, (.q (.fad 1 (.t 6))), []⟩ :: ⟨3, (some 60), none, (.q (.iad 2 1 (.t 59) (.t 58))), []⟩ :: ⟨4, (some 61), none, (.q (.ldc (.t 60))), []⟩ :: ⟨5, (some 62), none, (.q (.fad 2 (.t 3))), []⟩ :: hid l_SAdd_42
@[simp] def b_SAdd_43 (_ : Unit) : EB := reg0 (hid l_SAdd_41) 9
@[simp] def l_SAdd_44 (_ : Unit) : List EOp := [⟨0, (some 65), none, (.q (.build [(.int .i64 0), (.int .i64 0), (.int .i64 0), (.slice none 0 0), (.slice none 0 0)] [])), []⟩, ⟨1, (some 66), none, (.q (.mki 120 (.k (.int .i64 20)))), []⟩, ⟨2, none, none, (.fz (.sto 5 (.t 4) (.t 65))), []⟩, ⟨3, (some 5), none, (.q (.mov (.t 66))), []⟩]
@[simp] def b_SAdd_45 (_ : Unit) : EB := reg0 (hid l_SAdd_44) 4
@[simp] def b_SAdd_46 (_ : Unit) : EB := .seq (hid b_SAdd_45) .ret
@[simp] def b_SAdd_47 (_ : Unit) : EB := .cond (.t 56) (hid b_SAdd_46) .skip
@[simp] def b_SAdd_48 (_ : Unit) : EB := .seq (hid b_SAdd_43) (hid b_SAdd_47)
@[simp] def b_SAdd_49 (_ : Unit) : EB := .cond (.t 50) (hid b_SAdd_40) (hid b_SAdd_48)
@[simp] def b_SAdd_50 (_ : Unit) : EB := .seq (hid b_SAdd_37) (hid b_SAdd_49)
@[simp] def b_SAdd_51 (_ : Unit) : EB := .cond (.t 46) (hid b_SAdd_35) (hid b_SAdd_50)
@[simp] def b_SAdd_52 (_ : Unit) : EB := .seq (hid b_SAdd_32) (hid b_SAdd_51)
@[simp] def b_SAdd_53 (_ : Unit) : EB := .cond (.t 40) (hid b_SAdd_30) (hid b_SAdd_52)
@[simp] def b_SAdd_54 (_ : Unit) : EB := .seq (hid b_SAdd_27) (hid b_SAdd_53)
@[simp] def b_SAdd_55 (_ : Unit) : EB := .cond (.t 34) (hid b_SAdd_25) (hid b_SAdd_54)
@[simp] def b_SAdd_56 (_ : Unit) : EB := .seq (hid b_SAdd_22) (hid b_SAdd_55)
@[simp] def b_SAdd_57 (_ : Unit) : EB := .cond (.t 27) (hid b_SAdd_20) (hid b_SAdd_56)
@[simp] def b_SAdd_58 (_ : Unit) : EB := .seq (hid b_SAdd_17) (hid b_SAdd_57)
@[simp] def b_SAdd_59 (_ : Unit) : EB := .block 0 (hid b_SAdd_58)
@[simp] def l_SAdd_61 (_ : Unit) : List EOp := [⟨6, (some 73), none, (.q (.ldc (.t 72))), []⟩, ⟨7, (some 74), none, (.q (.bin .sub (.t 71) (.t 73))), []⟩, ⟨8, (some 75), none, (.q (.fad 1 (.t 6))), []⟩, ⟨9, (some 76), none, (.q (.iad 2 1 (.t 75) (.t 68))), []⟩, ⟨10, none, none, (.sto 1 (.t 76) (.t 74)), []⟩]
@[simp] def l_SAdd_60 (_ : Unit) : List EOp := ⟨0, (some 67), none, (.q (.fad 1 (.t 3))), []⟩ :: ⟨1, (some 68), none, (.q (.ldc (.t 67))), []⟩ :: ⟨2, (some 69), none, (.q (.fad 1 (.t 6))), []⟩ :: ⟨3, (some 70), none, (.q (.iad 2 1 (.t 69) (.t 68))), []⟩ :: ⟨4, (some 71), none, (.q (.ldc (.t 70))), []⟩ :: ⟨5, (some 72), none, (.q (.fad 2 (.t 3))), []⟩ :: hid l_SAdd_61
@[simp] def b_SAdd_62 (_ : Unit) : EB := reg0 (hid l_SAdd_60) 11
@[simp] def l_SAdd_64 (_ : Unit) : List EOp := [⟨6, (some 83), none, (.q (.fad 3 (.t 6))), []⟩, ⟨7, none, none, (.fz (.sto 1 (.t 83) (.t 82))), []⟩]
@[simp] def l_SAdd_63 (_ : Unit) : List EOp := ⟨0, (some 77), none, (.q (.fad 3 (.t 6))), []⟩ :: ⟨1, (some 78), none, (.q (.ldc (.t 77))), []⟩ :: ⟨2, (some 79), none, (.q (.mov (.t 8))), []⟩ :: ⟨3, (some 80), none, (.q (.lda 36 (.t 3))), []⟩ :: ⟨4, (some 81), none, (.q (.bsr 126 36 (([(.int .i64 0), (.int .i64 0), (.int .i64 0), (.int .i64 0)] : List Value) ++ zU8) 1 [(0, (.t 80))])), []⟩ :: ⟨5, (some 82), none, (.call 115 [(.t 78), (.t 79), (.t 81)]), []⟩ :: hid l_SAdd_64
@[simp] def b_SAdd_65 (_ : Unit) : EB := reg0 (hid l_SAdd_63) 8
@[simp] def l_SAdd_66 (_ : Unit) : List EOp := [⟨0, (some 84), none, (.q (.lda 5 (.t 6))), []⟩, ⟨1, none, none, (.fz (.sto 5 (.t 4) (.t 84))), []⟩, ⟨2, (some 5), none, (.q (.mov (.k .nilIface))), []⟩]
@[simp] def b_SAdd_67 (_ : Unit) : EB := reg0 (hid l_SAdd_66) 3
@[simp] def b_SAdd_68 (_ : Unit) : EB := .seq (hid b_SAdd_67) .ret
@[simp] def b_SAdd_69 (_ : Unit) : EB := .seq (hid b_SAdd_65) (hid b_SAdd_68)
@[simp] def b_SAdd_70 (_ : Unit) : EB := .seq (hid b_SAdd_62) (hid b_SAdd_69)
@[simp] def b_SAdd_71 (_ : Unit) : EB := .seq (hid b_SAdd_59) (hid b_SAdd_70)
@[simp] def b_SAdd_72 (_ : Unit) : EB := .seq (hid b_SAdd_15) (hid b_SAdd_71)
@[simp] def b_SAdd_73 (_ : Unit) : EB := .seq (hid b_SAdd_12) (hid b_SAdd_72)
@[simp] def b_SAdd_74 (_ : Unit) : EB := .seq (hid b_SAdd_5) (hid b_SAdd_73)
@[simp] def b_SAdd_75 (_ : Unit) : EB := .seq (hid b_SAdd_2) (hid b_SAdd_74)
@[simp] def l_Sslots_1 (_ : Unit) : List EOp := [⟨0, (some 1), none, (.q (.box 47 (.t 0))), []⟩, ⟨1, (some 2), none, (.q (.mov (.k (.int .i64 0)))), []⟩]
@[simp] def b_Sslots_2 (_ : Unit) : EB := reg0 (hid l_Sslots_1) 2
@[simp] def l_Sslots_4 (_ : Unit) : List EOp := [⟨6, (some 9), none, (.q (.bin .add (.t 5) (.t 8))), []⟩, ⟨7, (some 2), none, (.q (.mov (.t 9))), []⟩]
@[simp] def l_Sslots_3 (_ : Unit) : List EOp := ⟨0, (some 3), none, (.q (.fad 3 (.t 1))), []⟩ :: ⟨1, (some 4), none, (.q (.ldc (.t 3))), []⟩ :: ⟨2, (some 5), none, (.q (.len (.t 4))), []⟩ :: ⟨3, (some 6), none, (.q (.fad 4 (.t 1))), []⟩ :: ⟨4, (some 7), none, (.q (.ldc (.t 6))), []⟩ :: ⟨5, (some 8), none, (.q (.len (.t 7))), []⟩ :: hid l_Sslots_4
@[simp] def b_Sslots_5 (_ : Unit) : EB := reg0 (hid l_Sslots_3) 8
@[simp] def b_Sslots_6 (_ : Unit) : EB := .seq (hid b_Sslots_5) .ret
@[simp] def b_Sslots_7 (_ : Unit) : EB := .seq (hid b_Sslots_2) (hid b_Sslots_6)
@[simp] theorem conAll_payC (H : Nat → Option EO) (ids : List Nat) (p : Pay) : conAll H ids (payC p) = some (payC p) := by simp [payC]
@[simp] theorem strAll_payC (ids : List Nat) (p : Pay) : strAll ids (payC p) = some (payC p) := by simp [payC, strAll, strC]
@[simp] theorem frzAll_payC (p : Pay) : frzAll (payC p) = some (payF p) := by simp [payC, payF, frzAll, frz]
@[simp] theorem refs_payC (p : Pay) : (payC p).flatMap refsC = [] := by simp [payC]
@[simp] theorem fz_payC (ids : List Nat) (p : Pay) : (payC p).flatMap (fzC ids) = [] := by simp [payC]
@[simp] theorem ren_payC (g : Nat → Nat) (p : Pay) : (payC p).map (renC g) = payC p := by simp [payC]
theorem pc0 (p : Pay) : (payC p)[0]? = some (.fz (.lit (.int .i64 p.id))) := rfl
/-! ### places in a rising row -/
def posI (l : List Int) (x : Int) : Nat := (l.takeWhile fun k => decide (k < x)).length
theorem posI_le (l : List Int) (x : Int) : posI l x ≤ l.length := (List.takeWhile_sublist _).length_le
theorem posI_eq : ∀ {l : List Int} {x : Int} {i : Nat}, i ≤ l.length → (∀ k y, k < i → l[k]? = some y → y < x) → (∀ y, l[i]? = some y → x ≤ y) → posI l x = i
  | [], x, i, h, _, _ => by simp at h; subst h; rfl
  | a :: r, x, 0, _, _, h => by
    have := h a rfl
    simp [posI, List.takeWhile_cons, show ¬ a < x by omega]
  | a :: r, x, i + 1, h0, h1, h2 => by
    have := h1 0 a (by omega) rfl
    have ih := posI_eq (l := r) (x := x) (i := i) (by simpa using h0) (fun k y hk hy => h1 (k + 1) y (by omega) (by simpa using hy)) (fun y hy => h2 y (by simpa using hy))
    unfold posI at ih ⊢
    simp [List.takeWhile_cons, this, ih]
theorem NaNI_ok (a : Int) : ECalls Tryz.prog 163 [I .i64 a] [] fun y H' => H' = [] ∧ y = .lit (.bool false) := by
  refine ecalls k_NaNI ?_
  simp [c_NaNI, I]
  exact fin [] (by decide) rfl rfl rfl ⟨rfl, rfl⟩
@[simp] theorem errV_9 : Value.iface 120 (.int .i64 9) = errV 9 := rfl
@[simp] theorem errV_30 : Value.iface 120 (.int .i64 30) = errV 30 := rfl
@[simp] theorem errV_8 : Value.iface 120 (.int .i64 8) = errV 8 := rfl

end Go.Proofs.YtflcfdeanneoeaaGreatDoor

namespace Go.Proofs.YtflcfdeanneoeaaGreatDoor
open Go Go.EW
set_option linter.unusedSimpArgs false
set_option linter.unusedVariables false

end Go.Proofs.YtflcfdeanneoeaaGreatDoor

namespace Go.Proofs.YtflcfdeanneoeaaGreatDoor
open Go Go.EW
set_option linter.unusedSimpArgs false
set_option linter.unusedVariables false
/- Rising rows, one thing laid in or taken out: plain. -/

variable {α : Type}
end Go.Proofs.YtflcfdeanneoeaaGreatDoor

namespace Go.Proofs.YtflcfdeanneoeaaGreatDoor
open Go Go.EW
set_option linter.unusedSimpArgs false
set_option linter.unusedVariables false

end Go.Proofs.YtflcfdeanneoeaaGreatDoor

namespace Go.Proofs.YtflcfdeanneoeaaGreatDoor
open Go Go.EW
set_option linter.unusedSimpArgs false
set_option linter.unusedVariables false

@[simp] theorem conAll_holC (H : Nat → Option EO) (ids : List Nat) (p : Hol) : conAll H ids (holC p) = some (holC p) := by simp [holC]
@[simp] theorem strAll_holC (ids : List Nat) (p : Hol) : strAll ids (holC p) = some (holC p) := by simp [holC, strAll, strC]
@[simp] theorem frzAll_holC (p : Hol) : frzAll (holC p) = some (holF p) := by simp [holC, holF, frzAll, frz]
@[simp] theorem refs_holC (p : Hol) : (holC p).flatMap refsC = [] := by simp [holC]
@[simp] theorem fz_holC (ids : List Nat) (p : Hol) : (holC p).flatMap (fzC ids) = [] := by simp [holC]
@[simp] theorem ren_holC (g : Nat → Nat) (p : Hol) : (holC p).map (renC g) = holC p := by simp [holC]
theorem holL_lo : ∀ {o : Option Int} {l : List Hol}, holL o l = true → ∀ p ∈ l, ∀ q, o = some q → q < p.id
  | o, [], _, p, hp, q, _ => by simp at hp
  | o, a :: r, h, p, hp, q, hq => by
    simp only [holL, Bool.and_eq_true] at h
    have ha : q < a.id := by
      have := h.1.2
      rw [hq] at this
      exact of_decide_eq_true this
    rcases List.mem_cons.1 hp with rfl | hp
    · exact ha
    · have := holL_lo h.2 p hp a.id rfl
      omega
theorem holL_mem : ∀ {o : Option Int} {l : List Hol}, holL o l = true → ∀ p ∈ l, mayH p = true
  | o, [], _, p, hp => by simp at hp
  | o, q :: r, h, p, hp => by
    simp only [holL, Bool.and_eq_true] at h
    rcases List.mem_cons.1 hp with rfl | hp
    · exact h.1.1
    · exact holL_mem h.2 p hp
end Go.Proofs.YtflcfdeanneoeaaGreatDoor
