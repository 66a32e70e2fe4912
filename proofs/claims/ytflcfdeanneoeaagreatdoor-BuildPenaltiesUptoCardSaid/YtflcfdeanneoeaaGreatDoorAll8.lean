import Derived.Test.YtflcfdeanneoeaaGreatDoorAll7
import Derived.Test.YtflcfdeanneoeaaGreatDoorAll6
import Derived.WalkKit
import Derived.Deep.RegionLaw
import Derived.Lib.SliceRun
import Derived.Lib.Overlaps
import Derived.Lib.AppendZeros
import Derived.Lib.AppendZerosOnto
import Derived.Laws.Externs
import Derived.Test.YtflcfdeanneoeaaGreatDoorProg
set_option maxHeartbeats 64000000
namespace Go.Proofs.YtflcfdeanneoeaaGreatDoor
open Go Go.EW
set_option linter.unusedSimpArgs false
set_option linter.unusedVariables false
@[simp] def yl1et : UL | _ => [xQ 0 1 (.box 47 (.t 0)), xQ 1 2 (.alloc 47 [xZ, xZ, xZ, xS, xS]), xQ 2 3 (.mov (.k .nilIface))]
@[simp] def yb1eu : UB | _ => reg0 (hid yl1et) 3
@[simp] def yl1ev : UL | _ => [xG 6 11 8 false (.bin .eql (.t 10) (xK 1099511627776)), xQ 7 12 (.pick (.t 8) (.k (.bool true)) (.t 11))]
@[simp] def yl1ew : UL | _ => xQ 0 5 (.lda 5 (.t 1)) :: xO 1 6 (.call 69 [(.t 5)]) :: xQ 2 7 (.un .not (.t 6)) :: xM 3 8 7 :: xG 4 9 8 false (.fad 0 (.t 1)) :: xG 5 10 8 false (.ldc (.t 9)) :: hid yl1ev
@[simp] def yl1ex : UL | _ => [xQ 0 13 (.build [xZ, xZ, xZ, xS, xS] []), xQ 1 14 (.mki 120 (xK 1)), xN 2 (.fz (.sto 5 (.t 2) (.t 13))), xM 3 3 14]
@[simp] def yb1ey : UB | _ => reg0 (hid yl1ex) 4
@[simp] def yl1ez : UL | _ => [xQ 0 15 (.fad 0 (.t 1)), xQ 1 16 (.ldc (.t 15)), xQ 2 17 (.bin .add (.t 16) (xK 1)), xQ 3 18 (.fad 0 (.t 1)), xN 4 (.sto 1 (.t 18) (.t 17))]
@[simp] def yb1f0 : UB | _ => reg0 (hid yl1ez) 5
@[simp] def yl1f1 : UL | _ => [⟨5, (some 24), none, (.call 158 [(.t 23)]), [6]⟩, xN 7 (.fz (.sto 1 (.t 25) (.t 21))), xQ 8 26 (.fad 4 (.t 1)), xN 9 (.fz (.sto 1 (.t 26) (.t 24)))]
@[simp] def yl1f2 : UL | _ => xQ 0 19 (.fad 3 (.t 1)) :: xQ 1 20 (.ldc (.t 19)) :: xQ 3 22 (.fad 4 (.t 1)) :: xQ 4 23 (.ldc (.t 22)) :: ⟨2, (some 21), none, (.call 157 [(.t 20)]), [3, 4]⟩ :: xQ 6 25 (.fad 3 (.t 1)) :: hid yl1f1
@[simp] def yl1f3 : UL | _ => [xQ 0 27 (.fad 4 (.t 1)), xQ 1 28 (.ldc (.t 27)), xQ 2 29 (.len (.t 28)), xQ 3 30 (.mov (xK 0))]
@[simp] def yb1f4 : UB | _ => reg0 (hid yl1f3) 4
@[simp] def yl1f5 : UL | _ => [xQ 0 31 (.bin .lss (.t 30) (.t 29))]
@[simp] def yb1f6 : UB | _ => reg0 (hid yl1f5) 1
@[simp] def yl1f7 : UL | _ => [xM 0 32 30, xM 1 4 32]
@[simp] def yb1f8 : UB | _ => reg0 (hid yl1f7) 2
@[simp] def yl1f9 : UL | _ => [xN 12 (.fz (.sto 1 (.t 44) (.t 42)))]
@[simp] def yl1fa : UL | _ => xQ 6 39 (.isl 3 (.t 37) (.t 38)) :: xQ 7 40 (.fad 2 (.t 39)) :: xQ 8 41 (.ldc (.t 40)) :: ⟨9, (some 42), none, (.call 100 [(.t 41)]), [0, 1, 2]⟩ :: xQ 10 43 (.isl 3 (.t 34) (.t 35)) :: xQ 11 44 (.fad 2 (.t 43)) :: hid yl1f9
@[simp] def yl1fb : UL | _ => [xQ 0 45 (.bin .add (.t 30) (xK 1)), xM 1 30 45]
@[simp] def yb1fc : UB | _ => reg0 (hid yl1fb) 2
@[simp] def yl1fd : UL | _ => [xQ 0 46 (.lda 5 (.t 1)), xN 1 (.fz (.sto 5 (.t 2) (.t 46))), xQ 2 3 (.mov (.k .nilIface))]
@[simp] def yb1fe : UB | _ => reg0 (hid yl1fd) 3
@[simp] theorem errV_5 : Value.iface 120 (.int .i64 5) = errV 5 := rfl
@[simp] theorem errV_20 : Value.iface 120 (.int .i64 20) = errV 20 := rfl
@[simp] theorem errV_27 : Value.iface 120 (.int .i64 27) = errV 27 := rfl
@[simp] theorem errV_33 : Value.iface 120 (.int .i64 33) = errV 33 := rfl
def SE (q : Sta × Nat) : EV := .tup [.agg (staC q.1), .c (.fz (.lit (errV q.2)))]
end Go.Proofs.YtflcfdeanneoeaaGreatDoor
namespace Go.EW
set_option linter.unusedVariables false
set_option linter.unusedSimpArgs false
open Go Go.Lib
variable {P : Program}
theorem wp_copy_runI (w : World) {o : Oper} {a : Act} {K : Act → World → Prop} {Q : Exit → Act → World → Prop} (d s : Operand) (t t' : TypeId)
    (ho : o.op = .call { callee := .builtin .copy, args := #[d, s], argTypes := #[t, t'] }) (v u : Value) (hd : a.eval d = v) (hs : a.eval s = u) {v' : Value} {w' : World}
    (hr : (Builtin.copy_ #[t, t'] o.type #[v, u]).run P w = .ok v' w') (h : K (a.put o.dst v') w') : o.wp P a w K Q := by
  unfold Oper.wp execOp
  simp only [ho, resolve, invoke, builtin, Sem.run_bind, Sem.run_pure, Result.andThen_ok, List.map_toArray, List.map_cons, List.map_nil, hd, hs, hr]
  exact h
theorem wpList_copy_runI (w : World) {ops : Array Oper} {rest : List Oper} {o : Oper} {a : Act} {Q : Exit → Act → World → Prop} (hgd : o.guard = none) (d s : Operand) (t t' : TypeId)
    (ho : o.op = .call { callee := .builtin .copy, args := #[d, s], argTypes := #[t, t'] }) (v u : Value) (hd : a.eval d = v) (hs : a.eval s = u) {v' : Value} {w' : World}
    (hr : (Builtin.copy_ #[t, t'] o.type #[v, u]).run P w = .ok v' w') (h : wpList P ops Q rest (a.put o.dst v') w') : wpList P ops Q (o :: rest) a w :=
  wpList_plain hgd fun _ hK => wp_copy_runI w d s t t' ho v u hd hs hr (hK _ _ h)
theorem step_copy_runI {ops : Array Oper} {o : Oper} {a : Act} {w : World} {K : Act → World → Prop} {Q : Exit → Act → World → Prop} {E : Prop}
    (hg : o.guard = none) (d x : Operand) (dT sT : TypeId) (hop : o.op = Op.call { callee := Callee.builtin Builtin.copy, args := #[d, x], argTypes := #[dT, sT] })
    (v u : Value) (hd : a.eval d = v) (hx : a.eval x = u) {v' : Value} {w' : World} (hr : (Builtin.copy_ #[dT, sT] o.type #[v, u]).run P w = .ok v' w') (hK : K (a.put o.dst v') w') :
    if Region.wanted o (yielded ops a.tmps) = true then Oper.wp P o a w K Q else E := by
  have hw : Region.wanted o (yielded ops a.tmps) = true := by simp [Region.wanted, hg]
  rw [if_pos hw]
  unfold Oper.wp
  simp [execOp, hop, resolve, invoke, builtin, hd, hx, hr, Result.andThen]
  exact hK
def InsShift (P : Program) (f fov : FuncId) (tS : TypeId) (es : Nat) : Prop := ∀ (g n c i vb mc : Nat) (W1 W2 w : World), i < n → n + 1 ≤ c → c ≤ 9223372036854775807 →
  (∀ lb cb, (callFunc fov #[.slice (some ⟨vb, 0, none⟩) 1 mc, .slice (some ⟨g, (i + 1) * es, none⟩) lb cb]).run P w = .ok (.value (.bool false)) w) →
  (∀ ty, (Builtin.copy_ #[tS, tS] ty #[.slice (some ⟨g, (i + 1) * es, none⟩) (n - i) (c - (i + 1)), .slice (some ⟨g, i * es, none⟩) (n + 1 - i) (c - i)]).run P w.drew = .ok (goInt ((n - i : Nat) : Int)) W1) →
  (∀ ty, (Builtin.copy_ #[tS, tS] ty #[.slice (some ⟨g, i * es, none⟩) (n + 1 - i) (c - i), .slice (some ⟨vb, 0, none⟩) 1 mc]).run P W1 = .ok (goInt 1) W2) →
  Calls P f #[.slice (some ⟨g, 0, none⟩) n c, .int .i64 i, .slice (some ⟨vb, 0, none⟩) 1 mc] w fun e w' => e = .returned (.slice (some ⟨g, 0, none⟩) (n + 1) c) ∧ w' = W2
def InsGrow (P : Program) (f : FuncId) (tS tI : TypeId) (es : Nat) : Prop := ∀ (g n c i vb mc g2 C : Nat) (W1 W2 W3 w : World), i < n → n ≤ c → c < n + 1 → c ≤ 9223372036854775806 → n + 1 ≤ C → C ≤ 9223372036854775807 →
  (∀ ty, (Builtin.append_ #[tS, tI] ty #[.slice (some ⟨g, 0, none⟩) i c, .int .i64 ((n : Int) + 1 - (i : Int))]).run P w = .ok (.slice (some ⟨g2, 0, none⟩) (n + 1) C) W1) →
  (∀ ty, (Builtin.copy_ #[tS, tS] ty #[.slice (some ⟨g2, i * es, none⟩) (n + 1 - i) (C - i), .slice (some ⟨vb, 0, none⟩) 1 mc]).run P W1 = .ok (goInt 1) W2) →
  (∀ ty, (Builtin.copy_ #[tS, tS] ty #[.slice (some ⟨g2, (i + 1) * es, none⟩) (n - i) (C - (i + 1)), .slice (some ⟨g, i * es, none⟩) (n - i) (c - i)]).run P W2.drew = .ok (goInt ((n - i : Nat) : Int)) W3) →
  Calls P f #[.slice (some ⟨g, 0, none⟩) n c, .int .i64 i, .slice (some ⟨vb, 0, none⟩) 1 mc] w fun e w' => e = .returned (.slice (some ⟨g2, 0, none⟩) (n + 1) C) ∧ w' = W3
structure ElemT (P : Program) (tS e : TypeId) (es bytes : Nat) (ti : TypeInfo) (z : Value) : Prop where
  u : P.underlying tS = some (.slice e)
  hi : P.info? e = some ti
  hz : ti.zero = some z
  hs : ti.size = es
  hb : ti.bytes = bytes
  zs : z.cells.size = es
  zo : ∀ u ∈ z.cells.toList, u.oneCell' = true
  pos : 0 < es
theorem elemT_of {P : Program} {tS e : TypeId} {es bytes : Nat} (hu : P.underlying tS = some (.slice e)) (hz : (zer P e).map (·.length) = some es) (hs : (P.info? e).map (·.size) = some es) (hb : (P.info? e).map (·.bytes) = some bytes) (hp : 0 < es) :
    ∃ ti z, ElemT P tS e es bytes ti z := by
  obtain ⟨zl, hz1, hz2⟩ := Option.map_eq_some_iff.1 hz
  obtain ⟨i', zv, hi', hzi, hzc, hone⟩ := zer_some hz1
  rw [hi'] at hs hb
  simp only [Option.map_some, Option.some.injEq] at hs hb
  refine ⟨i', zv, hu, hi', hzi, hs, hb, by rw [← hz2, ← hzc]; simp, ?_, hp⟩
  intro u hu'
  rw [hzc] at hu'
  exact hone u hu'
end Go.EW
set_option linter.unusedVariables false
set_option linter.unusedSimpArgs false
namespace Go.Proofs.YtflcfdeanneoeaaGreatDoor
open Go.RowKit Go.Lib Go.EW
namespace InsP
theorem elem : ∃ ti z, ElemT Tryz.prog 44 126 36 64 ti z := elemT_of (by kernel_rfl) (by kernel_rfl) (by kernel_rfl) (by kernel_rfl) (by decide)
theorem fov (w : World) (a b : Value) : (callFunc 160 #[a, b]).run Tryz.prog w = ((Extern.SlicesOverlaps.overlaps #[44, 44] #[4] #[a, b]).run Tryz.prog w).andThen fun v w' => .ok (.value v) w' := by
  rw [run_callFunc_extern Tryz.func160 (by kernel_rfl) (by kernel_rfl) (by kernel_rfl) (e := Extern.SlicesOverlaps.overlaps #[44, 44] #[4]) (by kernel_rfl)]
set_option maxRecDepth 100000 in
theorem shift : InsShift Tryz.prog 115 160 44 36 := by
  intro g n c i vb mc W1 W2 w hi hroom hc63 hov hc1 hc2
  have hz2 : ¬ ((i : Int) = (n : Int)) := by omega
  have hw1 : IntKind.i64.wrap ((i : Int) + 1) = (i : Int) + 1 := by rw [IntKind.wrap_i64]; omega
  have hw2 : IntKind.i64.wrap ((n : Int) + 1) = (n : Int) + 1 := by rw [IntKind.wrap_i64]; omega
  have hb1 : (0 : Int) ≤ (i : Int) + 1 := by omega
  have hin : i ≤ n := by omega
  have htn : ((i : Int) + 1).toNat = i + 1 := by omega
  have hb2 : ¬ (c = i + 1) := by omega
  have hb3 : (i : Int) ≤ (n : Int) + 1 := by omega
  have hb4 : ¬ (c = i) := by omega
  go_enter Tryz.func115, Tryz.ntmps115
  go_wp2_with (simp only [hov])
  go_region_law (refine step_copy_runI rfl _ _ 44 44 rfl _ _ (by simp [Act.eval, Act.put]) (by simp [Act.eval, Act.put]) (hc1 _) ?_)
  go_wp2_with (at_builtin; refine wpList_copy_runI _ rfl _ _ 44 44 rfl _ _ rfl rfl (hc2 _) ?_)
  go_ret
  exact ⟨rfl, rfl⟩
set_option maxRecDepth 100000 in
theorem grow : InsGrow Tryz.prog 115 44 3 36 := by
  intro g n c i vb mc g2 C W1 W2 W3 w hi hnc hroom hc63 hC hC63 hap hc1 hc2
  have hz2 : ¬ ((i : Int) = (n : Int)) := by omega
  have hz3 : (c : Int) < (n : Int) + 1 := by omega
  have hw1 : IntKind.i64.wrap ((i : Int) + 1) = (i : Int) + 1 := by rw [IntKind.wrap_i64]; omega
  have hw2 : IntKind.i64.wrap ((n : Int) + 1) = (n : Int) + 1 := by rw [IntKind.wrap_i64]; omega
  have hw3 : IntKind.i64.wrap ((n : Int) + 1 - (i : Int)) = (n : Int) + 1 - (i : Int) := by rw [IntKind.wrap_i64]; omega
  have hb1 : (0 : Int) ≤ (i : Int) + 1 := by omega
  have hin : i ≤ n := by omega
  have htn : ((i : Int) + 1).toNat = i + 1 := by omega
  have hb2 : ¬ (C = i + 1) := by omega
  have hb3 : (i : Int) ≤ (n : Int) := by omega
  have hb4 : ¬ (C = i) := by omega
  have hb5 : ¬ (c = i) := by omega
  have hb6 : (i : Int) ≤ (n : Int) + 1 := by omega
  go_enter Tryz.func115, Tryz.ntmps115
  go_wp2_with (first
    | (at_builtin; refine Lib.wpList_append_run _ rfl _ _ _ _ rfl _ _ rfl rfl _ _ (hap _) ?_)
    | (at_builtin; refine wpList_copy_runI _ rfl _ _ 44 44 rfl _ _ rfl rfl (hc1 _) ?_))
  go_region_law (refine step_copy_runI rfl _ _ 44 44 rfl _ _ (by simp [Act.eval, Act.put]) (by simp [Act.eval, Act.put]) (hc2 _) ?_)
  go_wp2
  go_ret
  exact ⟨rfl, rfl⟩
end InsP
end Go.Proofs.YtflcfdeanneoeaaGreatDoor
namespace Go.Proofs.YtflcfdeanneoeaaGreatDoor
open Go Go.EW
set_option linter.unusedSimpArgs false
set_option linter.unusedVariables false
@[simp] def yl1ff : UL | _ => [xQ 0 4 (.mov (xK 0))]
@[simp] def yb1fg : UB | _ => reg0 (hid yl1ff) 1
@[simp] def yl1fh : UL | _ => [xM 0 7 0, xO 1 8 (.call 163 [(.t 7)]), xM 2 5 8]
@[simp] def yb1fi : UB | _ => reg0 (hid yl1fh) 3
@[simp] def yl1fj : UL | _ => [xM 0 9 1, xO 1 10 (.call 163 [(.t 9)]), xM 2 6 10]
@[simp] def yb1fk : UB | _ => reg0 (hid yl1fj) 3
@[simp] def yl1fl : UL | _ => [xM 0 11 5]
@[simp] def yb1fm : UB | _ => reg0 (hid yl1fl) 1
@[simp] def yl1fn : UL | _ => [xM 0 12 6]
@[simp] def yb1fo : UB | _ => reg0 (hid yl1fn) 1
@[simp] def yl1fp : UL | _ => [xQ 0 4 (.mov (xK 0))]
@[simp] def yb1fq : UB | _ => reg0 (hid yl1fp) 1
@[simp] def yl1fr : UL | _ => [xQ 0 4 (.mov (.k (.int .i64 (-1))))]
@[simp] def yb1fs : UB | _ => reg0 (hid yl1fr) 1
@[simp] def yl1ft : UL | _ => [xM 0 13 6]
@[simp] def yb1fu : UB | _ => reg0 (hid yl1ft) 1
@[simp] def yl1fv : UL | _ => [xQ 0 4 (.mov (xK 1))]
@[simp] def yb1fw : UB | _ => reg0 (hid yl1fv) 1
@[simp] def yl1fx : UL | _ => [xM 0 14 0, xM 1 15 1, xQ 2 16 (.bin .lss (.t 14) (.t 15))]
@[simp] def yb1fy : UB | _ => reg0 (hid yl1fx) 3
@[simp] def yl1fz : UL | _ => [xQ 0 4 (.mov (.k (.int .i64 (-1))))]
@[simp] def yb1g0 : UB | _ => reg0 (hid yl1fz) 1
@[simp] def yl1g1 : UL | _ => [xM 0 17 0, xM 1 18 1, xQ 2 19 (.bin .gtr (.t 17) (.t 18))]
@[simp] def yb1g2 : UB | _ => reg0 (hid yl1g1) 3
@[simp] def yl1g3 : UL | _ => [xQ 0 4 (.mov (xK 1))]
@[simp] def yb1g4 : UB | _ => reg0 (hid yl1g3) 1
@[simp] def yl1g5 : UL | _ => [xQ 0 4 (.mov (xK 0))]
@[simp] def yb1g6 : UB | _ => reg0 (hid yl1g5) 1
@[simp] def yl1g7 : UL | _ => [xQ 0 2 (.mov (.k (.bool false)))]
@[simp] def yl1g8 : UL | _ => [xM 0 3 0, xM 1 4 0, xQ 2 5 (.bin .neq (.t 3) (.t 4)), xM 3 2 5]
@[simp] def yb1g9 : UB | _ => .seq (reg0 (hid yl1g7) 1) (.seq (reg0 (hid yl1g8) 4) .ret)
def c_NaNI : EB × List QOp × Nat := ((hid yb1g9), [(.mov (.t 2))], 6)
theorem k_NaNI : cfun Tryz.prog 163 = some c_NaNI := by kernel_rfl
@[simp] def yl1ga : UL | _ => [xQ 0 2 (.box 126 (.t 0)), xQ 1 4 (.mov (xK 0))]
@[simp] def yb1gb : UB | _ => reg0 (hid yl1ga) 2
@[simp] def yl1gc : UL | _ => [xQ 0 5 (.fad 0 (.t 2)), xQ 1 6 (.ldc (.t 5)), xM 2 7 1, xO 3 8 (.call 159 [(.t 6), (.t 7)]), xM 4 4 8]
@[simp] def yb1gd : UB | _ => reg0 (hid yl1gc) 5
@[simp] def yl1ge : UL | _ => [xQ 0 6 (.mov (xK 0)), xQ 1 7 (.mov (.k (.bool false)))]
@[simp] def yb1gf : UB | _ => reg0 (hid yl1ge) 2
@[simp] def yl1gg : UL | _ => [xM 0 12 0, xQ 1 13 (.len (.t 12)), xM 2 8 13]
@[simp] def yb1gh : UB | _ => reg0 (hid yl1gg) 3
@[simp] def yl1gi : UL | _ => [xM 0 14 8, xQ 1 9 (.mov (xK 0)), xM 2 10 14]
@[simp] def yb1gj : UB | _ => reg0 (hid yl1gi) 3
@[simp] def yl1gk : UL | _ => [xM 0 15 9, xM 1 16 10, xQ 2 17 (.bin .lss (.t 15) (.t 16))]
@[simp] def yb1gl : UB | _ => reg0 (hid yl1gk) 3
@[simp] def yl1gm : UL | _ => [xM 6 11 23]
@[simp] def yl1gn : UL | _ => xM 0 18 9 :: xM 1 19 10 :: xQ 2 20 (.bin .add (.t 18) (.t 19)) :: xQ 3 21 (.cnv .u64 (.t 20)) :: xQ 4 22 (.bin .shr (.t 21) (.k (.int .u64 1))) :: xQ 5 23 (.cnv .i64 (.t 22)) :: hid yl1gm
@[simp] def yl1go : UL | _ => [xO 6 30 (.clo (.t 24) [(.t 28), (.t 29)]), xQ 7 31 (.bin .lss (.t 30) (xK 0))]
@[simp] def yl1gp : UL | _ => xM 0 24 2 :: xM 1 25 0 :: xM 2 26 11 :: xQ 3 27 (.isl 36 (.t 25) (.t 26)) :: xQ 4 28 (.lda 36 (.t 27)) :: xM 5 29 1 :: hid yl1go
@[simp] def yl1gq : UL | _ => [xM 0 32 11, xQ 1 33 (.bin .add (.t 32) (xK 1)), xM 2 9 33]
@[simp] def yb1gr : UB | _ => reg0 (hid yl1gq) 3
@[simp] def yl1gs : UL | _ => [xM 0 34 11, xM 1 10 34]
@[simp] def yb1gt : UB | _ => reg0 (hid yl1gs) 2
@[simp] def yl1gu : UL | _ => [xG 12 47 39 true (.bin .eql (.t 46) (xK 0)), xQ 13 48 (.pick (.t 39) (.t 47) (.k (.bool false))), xM 14 6 35, xM 15 7 48]
@[simp] def yl1gv : UL | _ => xG 6 41 39 true (.mov (.t 0)) :: xG 7 42 39 true (.mov (.t 9)) :: xG 8 43 39 true (.isl 36 (.t 41) (.t 42)) :: xG 9 44 39 true (.lda 36 (.t 43)) :: xG 10 45 39 true (.mov (.t 1)) :: ⟨11, (some 46), (some (39, true)), (.clo (.t 40) [(.t 44), (.t 45)]), []⟩ :: hid yl1gu
@[simp] def yl1gw : UL | _ => [xQ 0 2 (.box 47 (.t 0)), xQ 1 3 (.box 126 (.t 1)), xQ 2 4 (.alloc 47 [xZ, xZ, xZ, xS, xS]), xQ 3 5 (.mov (.k .nilIface))]
@[simp] def yb1gx : UB | _ => reg0 (hid yl1gw) 4
@[simp] def yl1gy : UL | _ => [xN 6 (.fz (.sto 5 (.t 6) (.t 13))), xM 7 7 14]
@[simp] def yl1gz : UL | _ => xQ 0 11 (.lda 5 (.t 2)) :: xO 1 12 (.call 109 [(.t 11)]) :: xM 2 10 12 :: xQ 3 13 (.ext 0 (.t 10)) :: xQ 4 14 (.ext 1 (.t 10)) :: xQ 5 6 (.alloc 47 [xZ, xZ, xZ, xS, xS]) :: hid yl1gy
@[simp] def yl1h0 : UL | _ => [xM 0 15 7, xQ 1 16 (.eqi true (.t 15))]
@[simp] def yb1h1 : UB | _ => reg0 (hid yl1h0) 2
@[simp] def yl1h2 : UL | _ => [xQ 0 17 (.build [xZ, xZ, xZ, xS, xS] []), xM 1 18 7, xN 2 (.fz (.sto 5 (.t 4) (.t 17))), xM 3 5 18]
@[simp] def yb1h3 : UB | _ => reg0 (hid yl1h2) 4
@[simp] def yl1h4 : UL | _ => [xQ 6 25 (.ext 0 (.t 19)), xQ 7 26 (.ext 1 (.t 19)), xM 8 8 25, xM 9 9 26]
@[simp] def yl1h5 : UL | _ => xQ 0 20 (.fad 3 (.t 6)) :: xQ 1 21 (.ldc (.t 20)) :: xQ 2 22 (.fad 0 (.t 3)) :: xQ 3 23 (.ldc (.t 22)) :: xO 4 24 (.call 110 [(.t 21), (.t 23), (.k (.func (.func 111) #[] #[]))]) :: xM 5 19 24 :: hid yl1h4
@[simp] def yl1h6 : UL | _ => [xQ 0 28 (.fad 1 (.t 3)), xQ 1 29 (.ldc (.t 28)), xO 2 30 (.call 112 [(.t 29)]), xQ 3 31 (.un .not (.t 30)), xM 4 27 31]
@[simp] def yb1h7 : UB | _ => reg0 (hid yl1h6) 5
@[simp] def yl1h8 : UL | _ => [xQ 0 32 (.build [xZ, xZ, xZ, xS, xS] []), xQ 1 33 (.mki 120 (xK 33)), xN 2 (.fz (.sto 5 (.t 4) (.t 32))), xM 3 5 33]
@[simp] def yb1h9 : UB | _ => reg0 (hid yl1h8) 4
@[simp] def yl1ha : UL | _ => [xQ 0 35 (.fad 2 (.t 3)), xQ 1 36 (.ldc (.t 35)), xQ 2 37 (.bin .lss (.t 36) (xK 10)), xM 3 34 37]
@[simp] def yb1hb : UB | _ => reg0 (hid yl1ha) 4
@[simp] def yl1hc : UL | _ => [xQ 0 38 (.build [xZ, xZ, xZ, xS, xS] []), xQ 1 39 (.mki 120 (xK 27)), xN 2 (.fz (.sto 5 (.t 4) (.t 38))), xM 3 5 39]
@[simp] def yb1hd : UB | _ => reg0 (hid yl1hc) 4
@[simp] def yl1he : UL | _ => [xQ 0 41 (.lda 36 (.t 3)), xO 1 42 (.call 113 [(.t 41)]), xQ 2 43 (.un .not (.t 42)), xM 3 40 43]
@[simp] def yb1hf : UB | _ => reg0 (hid yl1he) 4
@[simp] def yl1hg : UL | _ => [xQ 0 44 (.build [xZ, xZ, xZ, xS, xS] []), xQ 1 45 (.mki 120 (xK 1)), xN 2 (.fz (.sto 5 (.t 4) (.t 44))), xM 3 5 45]
@[simp] def yb1hh : UB | _ => reg0 (hid yl1hg) 4
@[simp] def yl1hi : UL | _ => [xM 0 47 9, xM 1 46 47]
@[simp] def yb1hj : UB | _ => reg0 (hid yl1hi) 2
@[simp] def yl1hk : UL | _ => [xQ 0 48 (.build [xZ, xZ, xZ, xS, xS] []), xQ 1 49 (.mki 120 (xK 9)), xN 2 (.fz (.sto 5 (.t 4) (.t 48))), xM 3 5 49]
@[simp] def yb1hl : UB | _ => reg0 (hid yl1hk) 4
@[simp] def yl1hm : UL | _ => [xQ 0 51 (.lda 5 (.t 6)), xO 1 52 (.call 114 [(.t 51)]), xQ 2 53 (.bin .geq (.t 52) (xK 8)), xM 3 50 53]
@[simp] def yb1hn : UB | _ => reg0 (hid yl1hm) 4
@[simp] def yl1ho : UL | _ => [xQ 0 54 (.build [xZ, xZ, xZ, xS, xS] []), xQ 1 55 (.mki 120 (xK 30)), xN 2 (.fz (.sto 5 (.t 4) (.t 54))), xM 3 5 55]
@[simp] def yb1hp : UB | _ => reg0 (hid yl1ho) 4
@[simp] def yl1hq : UL | _ => [xQ 6 63 (.ldc (.t 62)), xQ 7 64 (.bin .lss (.t 61) (.t 63)), xM 8 56 64]
@[simp] def yl1hr : UL | _ => xQ 0 57 (.fad 1 (.t 3)) :: xQ 1 58 (.ldc (.t 57)) :: xQ 2 59 (.fad 1 (.t 6)) :: xQ 3 60 (.iad 2 1 (.t 59) (.t 58)) :: xQ 4 61 (.ldc (.t 60)) :: xQ 5 62 (.fad 2 (.t 3)) :: hid yl1hq
@[simp] def yl1hs : UL | _ => [xQ 0 65 (.build [xZ, xZ, xZ, xS, xS] []), xQ 1 66 (.mki 120 (xK 20)), xN 2 (.fz (.sto 5 (.t 4) (.t 65))), xM 3 5 66]
@[simp] def yb1ht : UB | _ => reg0 (hid yl1hs) 4
@[simp] def yl1hu : UL | _ => [xQ 6 73 (.ldc (.t 72)), xQ 7 74 (.bin .sub (.t 71) (.t 73)), xQ 8 75 (.fad 1 (.t 6)), xQ 9 76 (.iad 2 1 (.t 75) (.t 68)), xN 10 (.sto 1 (.t 76) (.t 74))]
@[simp] def yl1hv : UL | _ => xQ 0 67 (.fad 1 (.t 3)) :: xQ 1 68 (.ldc (.t 67)) :: xQ 2 69 (.fad 1 (.t 6)) :: xQ 3 70 (.iad 2 1 (.t 69) (.t 68)) :: xQ 4 71 (.ldc (.t 70)) :: xQ 5 72 (.fad 2 (.t 3)) :: hid yl1hu
@[simp] def yl1hw : UL | _ => [xQ 6 83 (.fad 3 (.t 6)), xN 7 (.fz (.sto 1 (.t 83) (.t 82)))]
@[simp] def yl1hx : UL | _ => xQ 0 77 (.fad 3 (.t 6)) :: xQ 1 78 (.ldc (.t 77)) :: xM 2 79 8 :: xQ 3 80 (.lda 36 (.t 3)) :: xQ 4 81 (.bsr 126 36 (([xZ, xZ, xZ, xZ] : List Value) ++ zU8) 1 [(0, (.t 80))]) :: xO 5 82 (.call 115 [(.t 78), (.t 79), (.t 81)]) :: hid yl1hw
@[simp] def yl1hy : UL | _ => [xQ 0 84 (.lda 5 (.t 6)), xN 1 (.fz (.sto 5 (.t 4) (.t 84))), xQ 2 5 (.mov (.k .nilIface))]
@[simp] def yb1hz : UB | _ => reg0 (hid yl1hy) 3
@[simp] def yl1i0 : UL | _ => [xQ 0 1 (.box 47 (.t 0)), xQ 1 2 (.mov (xK 0))]
@[simp] def yb1i1 : UB | _ => reg0 (hid yl1i0) 2
@[simp] def yl1i2 : UL | _ => [xQ 6 9 (.bin .add (.t 5) (.t 8)), xM 7 2 9]
@[simp] def yl1i3 : UL | _ => xQ 0 3 (.fad 3 (.t 1)) :: xQ 1 4 (.ldc (.t 3)) :: xQ 2 5 (.len (.t 4)) :: xQ 3 6 (.fad 4 (.t 1)) :: xQ 4 7 (.ldc (.t 6)) :: xQ 5 8 (.len (.t 7)) :: hid yl1i2
@[simp] theorem conAll_payC (H : Nat → Option EO) (ids : List Nat) (p : Pay) : conAll H ids (payC p) = some (payC p) := by simp [payC]
@[simp] theorem strAll_payC (ids : List Nat) (p : Pay) : strAll ids (payC p) = some (payC p) := by simp [payC, strAll, strC]
@[simp] theorem frzAll_payC (p : Pay) : frzAll (payC p) = some (payF p) := by simp [payC, payF, frzAll, frz]
@[simp] theorem refs_payC (p : Pay) : (payC p).flatMap refsC = [] := by simp [payC]
@[simp] theorem fz_payC (ids : List Nat) (p : Pay) : (payC p).flatMap (fzC ids) = [] := by simp [payC]
@[simp] theorem ren_payC (g : Nat → Nat) (p : Pay) : (payC p).map (renC g) = payC p := by simp [payC]
theorem pc0 (p : Pay) : (payC p)[0]? = some (.fz (.lit (.int .i64 p.id))) := rfl
def posI (l : List Int) (x : Int) : Nat := (l.takeWhile fun k => decide (k < x)).length
theorem posI_le (l : List Int) (x : Int) : posI l x ≤ l.length := (List.takeWhile_sublist _).length_le
theorem posI_eq : ∀ {l : List Int} {x : Int} {i : Nat}, i ≤ l.length → (∀ k y, k < i → l[k]? = some y → y < x) → (∀ y, l[i]? = some y → x ≤ y) → posI l x = i
  | [], x, i, h, _, _ => by simp at h; subst h; rfl
  | a :: r, x, 0, _, _, h => by
    have := h a rfl
    simp [posI, List.takeWhile_cons, show ¬ a < x by omega]
  | a :: r, x, i + 1, h0, h1, h2 => by
    have := h1 0 a (by omega) rfl
    have ih := posI_eq (l := r) (x := x) (i := i) (by simpa using h0) (fun k y hk hy => h1 (k + 1) y (by omega) (by simpa using hy)) (fun y hy => h2 y (by simpa using hy))
    unfold posI at ih ⊢
    simp [List.takeWhile_cons, this, ih]
theorem NaNI_ok (a : Int) : ECalls Tryz.prog 163 [I .i64 a] [] fun y H' => H' = [] ∧ y = .lit (.bool false) := by
  refine ecalls k_NaNI ?_
  simp [c_NaNI, I]
  exact fin0
@[simp] theorem errV_9 : Value.iface 120 (.int .i64 9) = errV 9 := rfl
@[simp] theorem errV_30 : Value.iface 120 (.int .i64 30) = errV 30 := rfl
@[simp] theorem errV_8 : Value.iface 120 (.int .i64 8) = errV 8 := rfl
end Go.Proofs.YtflcfdeanneoeaaGreatDoor
