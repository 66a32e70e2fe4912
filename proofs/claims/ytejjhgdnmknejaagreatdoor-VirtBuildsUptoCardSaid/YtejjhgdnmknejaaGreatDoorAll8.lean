import Derived.Test.YtejjhgdnmknejaaGreatDoorAll7
import Derived.Test.YtejjhgdnmknejaaGreatDoorAll6
import Derived.WalkKit
import Derived.Deep.RegionLaw
import Derived.Lib.SliceRun
import Derived.Lib.Overlaps
import Derived.Lib.AppendZeros
import Derived.Lib.AppendZerosOnto
import Derived.Laws.Externs
import Derived.Test.YtejjhgdnmknejaaGreatDoorProg
set_option maxHeartbeats 64000000
namespace Go.Proofs.YtejjhgdnmknejaaGreatDoor
open Go Go.EW
set_option linter.unusedSimpArgs false
set_option linter.unusedVariables false
def yl1ky : UL | _ => [xW 0 1 49 0, xQ 1 2 (.alloc 49 [xZ, xZ, xZ, xS, xS]), xQ 2 3 (.mov (.k .nilIface))]
def yl1kz : UL | _ => [xG 6 11 8 false (.bin .eql (.t 10) (xK 1099511627776)), xP 7 12 8 11]
def yl1l0 : UL | _ => xD 0 5 5 1 :: xO 1 6 (.call 130 [.t 5]) :: xQ 2 7 (.un .not (.t 6)) :: xM 3 8 7 :: yF 4 9 8 false 0 1 :: yL 5 10 8 false 9 :: hid yl1kz
def yl1l1 : UL | _ => [xQ 0 13 (.build [xZ, xZ, xZ, xS, xS] []), xQ 1 14 (.mki 132 (xK 1)), xN 2 (.fz (.sto 5 (.t 2) (.t 13))), xM 3 3 14]
def yl1l3 : UL | _ => [xF 0 15 0 1, xL 1 16 15, xc 2 17 .add 16 1, xF 3 18 0 1, xN 4 (.sto 1 (.t 18) (.t 17))]
def yl1l4 : UL | _ => [⟨5, (some 24), none, (.call 151 [.t 23]), [6]⟩, xN 7 (.fz (.sto 1 (.t 25) (.t 21))), xF 8 26 4 1, xN 9 (.fz (.sto 1 (.t 26) (.t 24)))]
def yl1l5 : UL | _ => xF 0 19 3 1 :: xL 1 20 19 :: xF 3 22 4 1 :: xL 4 23 22 :: ⟨2, (some 21), none, (.call 150 [.t 20]), [3, 4]⟩ :: xF 6 25 3 1 :: hid yl1l4
def yl1l9 : UL | _ => [xN 12 (.fz (.sto 1 (.t 44) (.t 42)))]
def yl1la : UL | _ => xI 6 39 3 37 38 :: xF 7 40 2 39 :: xL 8 41 40 :: ⟨9, (some 42), none, (.call 76 [.t 41]), [0, 1, 2]⟩ :: xI 10 43 3 34 35 :: xF 11 44 2 43 :: hid yl1l9
def yl1lb : UL | _ => xF 0 33 4 1 :: xL 1 34 33 :: xM 2 35 4 :: xF 3 36 4 1 :: xL 4 37 36 :: xM 5 38 4 :: hid yl1la
def yb1le : UB | _ => .seq (reg0 [xb 0 31 .lss 30 29] 1) (.seq (.cond (.t 31) .skip (.exit 0)) (.seq (.block 1 (.seq (reg0 [xM 0 32 30, xM 1 4 32] 2) (reg1 (hid yl1lb) 13))) (reg0 [xc 0 45 .add 30 1, xM 1 30 45] 2)))
def yl1lf : UL | _ => [xD 0 46 5 1, xN 1 (.fz (.sto 5 (.t 2) (.t 46))), xQ 2 3 (.mov (.k .nilIface))]
def yb1lg : UB | _ => .seq (.seq (reg0 [xF 0 27 4 1, xL 1 28 27, xE 2 29 28, xC 3 30 0] 4) (.block 0 (.loop (hid yb1le)))) (.seq (reg0 (hid yl1lf) 3) .ret)
def yb1lh : UB | _ => .seq (reg0 (hid yl1l3) 5) (.seq (reg1 (hid yl1l5) 10) (hid yb1lg))
def yb1li : UB | _ => .seq (reg0 (hid yl1ky) 3) (.seq (.seq (reg0 (hid yl1l0) 8) (.cond (.t 12) (.seq (reg0 (hid yl1l1) 4) .ret) .skip)) (hid yb1lh))
attribute [simp] yl1ky yl1kz yl1l0 yl1l1 yl1l3 yl1l4 yl1l5 yl1l9 yl1la yl1lb yb1le yl1lf yb1lg yb1lh yb1li
def c_next : EB × List QOp × Nat := ((hid yb1li), [(.lda 5 (.t 2)), (.mov (.t 3))], 47)
theorem k_next : cfun Tryz.prog 86 = some c_next := by kernel_rfl
@[simp] theorem errV_5 : Value.iface 132 (.int .i64 5) = errV 5 := rfl
@[simp] theorem errV_20 : Value.iface 132 (.int .i64 20) = errV 20 := rfl
@[simp] theorem errV_27 : Value.iface 132 (.int .i64 27) = errV 27 := rfl
@[simp] theorem errV_33 : Value.iface 132 (.int .i64 33) = errV 33 := rfl
def zSta : Sta := ⟨0, 0, 0, [], []⟩
def nxt (s : Sta) : Sta × Nat := if mayS s = true ∧ s.num ≠ 1099511627776 then (⟨s.num + 1, s.h0, s.h1, s.pays, s.holds⟩, 0) else (zSta, 1)
def SE (q : Sta × Nat) : EV := .tup [.agg (staC q.1), .c (.fz (.lit (errV q.2)))]
theorem nxt_ok {s : Sta} (hs : s.ok) (h : mayS s = true) : (Sta.mk (s.num + 1) s.h0 s.h1 s.pays s.holds).ok := by
 obtain ⟨hr, _⟩ := mayS_t h
 exact ⟨⟨by show _ ≤ s.num + 1; omega, by show s.num + 1 ≤ _; omega⟩, hs.2⟩
theorem hol_set {l : List Hol} {i : Nat} {h : Hol} (hc : l[i]? = some h) : (holv l).set i (holF h) = holv l := by
 apply List.ext_getElem?
 intro j
 rw [List.getElem?_set]
 split
 ·rename_i e
  subst e
  split
  ·rw [holv_get hc]
  ·rename_i hn; exact absurd (by simpa using lt_len hc) hn
 ·rfl
theorem next_ok (s : Sta) (hs : s.ok) : ECalls Tryz.prog 86 [SV s] [] fun y H' => H' = [] ∧ y = SE (nxt s) := by
 obtain ⟨ok1, ok2, ok3, ok4, ok5, ok6, ok7⟩ := id hs
 refine ecalls k_next ?_
 simp [c_next, SV, staC]
 refine call0 (Smay_ok s hs) (by simp [SV, staC]) ?_
 rintro y H' ⟨rfl, rfl⟩
 cases hm : mayS s
 ·have ht : nxt s = (zSta, 1) := by simp [nxt, hm]
  rw [ht]
  simp [EV.lit]
  refine finW _ (weak_nlB (o := 16) (k := 3) 36 rfl rfl) (finW _ (weak_nlB (o := 16) (k := 4) 3 rfl rfl) ?_)
  exact fin0
 obtain ⟨hr, hp, hh, htot⟩ := mayS_t hm
 by_cases hn : s.num = 1099511627776
 ·have ht : nxt s = (zSta, 1) := by simp [nxt, hn]
  rw [ht]
  simp [EV.lit, hn]
  refine finW _ (weak_nlB (o := 16) (k := 3) 36 rfl rfl) (finW _ (weak_nlB (o := 16) (k := 4) 3 rfl rfl) ?_)
  exact fin0
 have ht : nxt s = (⟨s.num + 1, s.h0, s.h1, s.pays, s.holds⟩, 0) := by simp [nxt, hm, hn]
 rw [ht]
 have w1 : IntKind.i64.wrap (s.num + 1) = s.num + 1 := wrap_i64 (by omega) (by omega)
 simp [EV.lit, hn, w1]
 refine call0 (cloneP_ok s.pays ok6) (by simp [PL]) ?_
 rintro y H' ⟨rfl, rfl⟩
 refine ⟨.inl (by simp), le_ok rfl, ?_⟩
 simp
 refine call0 (cloneH_ok s.holds ok7) (by simp [HL]) ?_
 rintro y H' ⟨rfl, rfl⟩
 refine ⟨.inl (by simp), le_ok rfl, ?_⟩
 simp
 refine loopW _ (weak_frz (o := 288) (ty := 127) (es := 36) (xs := payv s.pays) rfl) ?_
 refine eloop (α := Nat) (fun i => i ≤ s.holds.length) (fun i => s.holds.length - i)
  (fun i => [xA, Ptr 0, Ptr 1, xA, xA, xA, xA, xA, xA, xA, xA, xA, xA, xA, xA, xA, xA, xA, xA, xA, xA, xA, xA, xA, xA, xA, xA, xA, xA, I .i64 s.holds.length, I .i64 i, xA, xA, xA, xA, xA, xA, xA, xA, xA, xA, xA, xA, xA, xA, xA, .any]) (fun i => [some (.box 49 [.fz (.lit (.int .i64 (s.num + 1))), .fz (.lit (.int .i64 s.h0)), .fz (.lit (.int .i64 s.h1)), .fz (.sl 36 (payv s.pays)), .row 2 s.holds.length]), some (.box 49 [.fz (.lit (.int .i64 0)), .fz (.lit (.int .i64 0)), .fz (.lit (.int .i64 0)), .fz (.lit (.slice none 0 0)), .fz (.lit (.slice none 0 0))]), some (.row 124 3 (holv s.holds))]) 0 [0, 16, 336]
  (Nat.zero_le _) (by simp [Ptr, I]) (by simp [List.tkL]) (by simp) (by simp) (by simp) ?_
 intro i hi
 simp [Ptr, I]
 refine alt (fun hlt => ?_) (fun hlt => ?_)
 ·obtain ⟨p, hc⟩ : ∃ p, s.holds[i]? = some p := ⟨s.holds[i], by simp [hlt]⟩
  have hpo := ok5 p (List.mgE hc)
  have hcb := holv_get hc
  have w2 := wS (i := i) (by omega)
  have hset := hol_set hc
  have hge : (holv s.holds)[i]'(by simp [hlt]) = holF p := by
   have h := hcb
   rw [List.getElem?_eq_getElem (by simp [hlt])] at h
   exact Option.some.inj h
  simp [hge, holF, hlt]
  refine call0 (cloneI_ok p.keys hpo.2.2.2) (by simp [IL]) ?_
  rintro y H' ⟨rfl, rfl⟩
  refine ⟨.inl (by simp), le_ok rfl, ?_⟩
  have hset' : (holv s.holds).set i [.lit (.int .i64 p.id), .lit (.int .i64 p.am), .sl 1 (intv p.keys)] = holv s.holds := hset
  simp [hge, holF, hlt, w2, -Int.natCast_add]
  exact round (i + 1) [0, 1, 2] (by omega) (by omega) (by simp) (by simp [hset', List.tkL]) (by simp) (by simp) (by simp)
 ·have hil : i = s.holds.length := by omega
  subst hil
  simp [-errV_0]
  refine finW _ (weak_frz (o := 2) (ty := 124) (es := 3) (xs := holv s.holds) rfl) ?_
  exact fin [] (by decide) rfl rfl rfl ⟨rfl, by simp [SE, staC, List.tkL, errV, -errV_0]⟩
theorem sum_nn : ∀ {l : List Int}, (∀ x ∈ l, 0 ≤ x) → 0 ≤ l.sum
 | [], _ => by simp
 | x :: r, h => by
  have h1 := h x (by simp)
  have h2 := sum_nn (l := r) (fun y hy => h y (by simp [hy]))
  simp; omega
theorem sumP_nn {o : Option Int} {l : List Pay} (h : payL o l = true) : 0 ≤ sumP l := sum_nn fun x hx => by
 obtain ⟨p, hp, rfl⟩ := List.mem_map.1 hx
 have := payL_am h p hp
 omega
theorem sumH_nn {o : Option Int} {l : List Hol} (h : holL o l = true) : 0 ≤ sumH l := sum_nn fun x hx => by
 obtain ⟨p, hp, rfl⟩ := List.mem_map.1 hx
 have := holL_am h p hp
 omega
theorem nextH_ok (s : Sta) (hs : s.ok) (hmn : mayS s = true ∧ s.num ≠ 1099511627776) : ECalls Tryz.prog 86 [SV s] [] fun y H' => H' = [some (.row 124 3 (holv s.holds))] ∧ y = .tup [.agg [.fz (.lit (.int .i64 (s.num + 1))), .fz (.lit (.int .i64 s.h0)), .fz (.lit (.int .i64 s.h1)), .fz (.sl 36 (payv s.pays)), .row 0 s.holds.length], .c (.fz (.lit (errV 0)))] := by
 obtain ⟨ok1, ok2, ok3, ok4, ok5, ok6, ok7⟩ := id hs
 obtain ⟨hm, hn⟩ := hmn
 refine ecalls k_next ?_
 simp [c_next, SV, staC]
 refine call0 (Smay_ok s hs) (by simp [SV, staC]) ?_
 rintro y H' ⟨rfl, rfl⟩
 rw [hm]
 obtain ⟨hr, hp, hh, htot⟩ := mayS_t hm
 have w1 : IntKind.i64.wrap (s.num + 1) = s.num + 1 := wrap_i64 (by omega) (by omega)
 simp [EV.lit, hn, w1]
 refine call0 (cloneP_ok s.pays ok6) (by simp [PL]) ?_
 rintro y H' ⟨rfl, rfl⟩
 refine ⟨.inl (by simp), le_ok rfl, ?_⟩
 simp
 refine call0 (cloneH_ok s.holds ok7) (by simp [HL]) ?_
 rintro y H' ⟨rfl, rfl⟩
 refine ⟨.inl (by simp), le_ok rfl, ?_⟩
 simp
 refine loopW _ (weak_frz (o := 288) (ty := 127) (es := 36) (xs := payv s.pays) rfl) ?_
 refine eloop (α := Nat) (fun i => i ≤ s.holds.length) (fun i => s.holds.length - i)
  (fun i => [xA, Ptr 0, Ptr 1, xA, xA, xA, xA, xA, xA, xA, xA, xA, xA, xA, xA, xA, xA, xA, xA, xA, xA, xA, xA, xA, xA, xA, xA, xA, xA, I .i64 s.holds.length, I .i64 i, xA, xA, xA, xA, xA, xA, xA, xA, xA, xA, xA, xA, xA, xA, xA, .any]) (fun i => [some (.box 49 [.fz (.lit (.int .i64 (s.num + 1))), .fz (.lit (.int .i64 s.h0)), .fz (.lit (.int .i64 s.h1)), .fz (.sl 36 (payv s.pays)), .row 2 s.holds.length]), some (.box 49 [.fz (.lit (.int .i64 0)), .fz (.lit (.int .i64 0)), .fz (.lit (.int .i64 0)), .fz (.lit (.slice none 0 0)), .fz (.lit (.slice none 0 0))]), some (.row 124 3 (holv s.holds))]) 0 [0, 16, 336]
  (Nat.zero_le _) (by simp [Ptr, I]) (by simp [List.tkL]) (by simp) (by simp) (by simp) ?_
 intro i hi
 simp [Ptr, I]
 refine alt (fun hlt => ?_) (fun hlt => ?_)
 ·obtain ⟨p, hc⟩ : ∃ p, s.holds[i]? = some p := ⟨s.holds[i], by simp [hlt]⟩
  have hpo := ok5 p (List.mgE hc)
  have hcb := holv_get hc
  have w2 := wS (i := i) (by omega)
  have hset := hol_set hc
  have hge : (holv s.holds)[i]'(by simp [hlt]) = holF p := by
   have h := hcb
   rw [List.getElem?_eq_getElem (by simp [hlt])] at h
   exact Option.some.inj h
  simp [hge, holF, hlt]
  refine call0 (cloneI_ok p.keys hpo.2.2.2) (by simp [IL]) ?_
  rintro y H' ⟨rfl, rfl⟩
  refine ⟨.inl (by simp), le_ok rfl, ?_⟩
  have hset' : (holv s.holds).set i [.lit (.int .i64 p.id), .lit (.int .i64 p.am), .sl 1 (intv p.keys)] = holv s.holds := hset
  simp [hge, holF, hlt, w2, -Int.natCast_add]
  exact round (i + 1) [0, 1, 2] (by omega) (by omega) (by simp) (by simp [hset', List.tkL]) (by simp) (by simp) (by simp)
 ·have hil : i = s.holds.length := by omega
  subst hil
  simp [-errV_0]
  exact fin [2] (by decide) rfl rfl rfl ⟨rfl, by simp [List.tkL, errV, -errV_0]⟩
end Go.Proofs.YtejjhgdnmknejaaGreatDoor
namespace Go.EW
set_option linter.unusedVariables false
set_option linter.unusedSimpArgs false
open Go Go.Lib
variable {P : Program}
theorem run_copy_row (w : World) (dT sT ty elem : TypeId) (i : TypeInfo) (g o dLen dCap : Nat) (a : Addr) (sLen sCap : Nat) (cs : List Value) (cur : Array Value) (t : TypeId)
  (hu : P.underlying dT = some (.slice elem)) (hi : P.info? elem = some i) (hn : cs.length = Nat.min sLen dLen * i.size) (hg : w.heap[g]? = some (.cells cur t (0, 0))) (hl : o + cs.length ≤ cur.size)
  (hsrc : ∀ j v, cs[j]? = some v → w.cell? (a.add j) = some v) (h1 : ∀ v ∈ cs, v.oneCell' = true) :
  (Builtin.copy_ #[dT, sT] ty #[.slice (some ⟨g, o, none⟩) dLen dCap, .slice (some a) sLen sCap]).run P w = .ok (goInt (Nat.min sLen dLen)) (w.setRow g (cur.toList.take o ++ cs ++ cur.toList.drop (o + cs.length)).toArray) := by
 have hf := run_firstCells_some (P := P) w i.size (Nat.min sLen dLen) a sLen sCap cs hn hsrc
 have hst := run_storeCells_at P g o t cs 0 cur w hg (by omega) h1
 simp only [Nat.add_zero] at hst
 simp [Builtin.copy_, run_underlying hu, Builtin.lenOf, sizeOf, typeInfo, hi, hf, hst]
theorem wp_copy_runI (w : World) {o : Oper} {a : Act} {K : Act → World → Prop} {Q : Exit → Act → World → Prop} (d s : Operand) (t t' : TypeId)
  (ho : o.op = .call { callee := .builtin .copy, args := #[d, s], argTypes := #[t, t'] }) (v u : Value) (hd : a.eval d = v) (hs : a.eval s = u) {v' : Value} {w' : World}
  (hr : (Builtin.copy_ #[t, t'] o.type #[v, u]).run P w = .ok v' w') (h : K (a.put o.dst v') w') : o.wp P a w K Q := by
 unfold Oper.wp execOp
 simp only [ho, resolve, invoke, builtin, Sem.run_bind, Sem.run_pure, Result.andThen_ok, List.map_toArray, List.map_cons, List.map_nil, hd, hs, hr]
 exact h
theorem wpList_copy_runI (w : World) {ops : Array Oper} {rest : List Oper} {o : Oper} {a : Act} {Q : Exit → Act → World → Prop} (hgd : o.guard = none) (d s : Operand) (t t' : TypeId)
  (ho : o.op = .call { callee := .builtin .copy, args := #[d, s], argTypes := #[t, t'] }) (v u : Value) (hd : a.eval d = v) (hs : a.eval s = u) {v' : Value} {w' : World}
  (hr : (Builtin.copy_ #[t, t'] o.type #[v, u]).run P w = .ok v' w') (h : wpList P ops Q rest (a.put o.dst v') w') : wpList P ops Q (o :: rest) a w :=
 wpList_plain hgd fun _ hK => wp_copy_runI w d s t t' ho v u hd hs hr (hK _ _ h)
theorem step_copy_runI {ops : Array Oper} {o : Oper} {a : Act} {w : World} {K : Act → World → Prop} {Q : Exit → Act → World → Prop} {E : Prop}
  (hg : o.guard = none) (d x : Operand) (dT sT : TypeId) (hop : o.op = Op.call { callee := Callee.builtin Builtin.copy, args := #[d, x], argTypes := #[dT, sT] })
  (v u : Value) (hd : a.eval d = v) (hx : a.eval x = u) {v' : Value} {w' : World} (hr : (Builtin.copy_ #[dT, sT] o.type #[v, u]).run P w = .ok v' w') (hK : K (a.put o.dst v') w') :
  if Region.wanted o (yielded ops a.tmps) = true then Oper.wp P o a w K Q else E := by
 have hw : Region.wanted o (yielded ops a.tmps) = true := by simp [Region.wanted, hg]
 rw [if_pos hw]
 unfold Oper.wp
 simp [execOp, hop, resolve, invoke, builtin, hd, hx, hr, Result.andThen]
 exact hK
theorem step_append_runI {ops : Array Oper} {o : Oper} {a : Act} {w : World} {K : Act → World → Prop} {Q : Exit → Act → World → Prop} {E : Prop}
  (hg : o.guard = none) (d x : Operand) (dT sT : TypeId) (hop : o.op = Op.call { callee := Callee.builtin Builtin.append, args := #[d, x], argTypes := #[dT, sT] })
  (v u : Value) (hd : a.eval d = v) (hx : a.eval x = u) {v' : Value} {w' : World} (hr : (Builtin.append_ #[dT, sT] o.type #[v, u]).run P w = .ok v' w') (hK : K (a.put o.dst v') w') :
  if Region.wanted o (yielded ops a.tmps) = true then Oper.wp P o a w K Q else E := by
 have hw : Region.wanted o (yielded ops a.tmps) = true := by simp [Region.wanted, hg]
 rw [if_pos hw]
 unfold Oper.wp
 simp [execOp, hop, resolve, invoke, builtin, hd, hx, hr, Result.andThen]
 exact hK
def InsShift (P : Program) (f fov : FuncId) (tS : TypeId) (es : Nat) : Prop := ∀ (g n c i vb mc : Nat) (W1 W2 w : World), i < n → n + 1 ≤ c → c ≤ 9223372036854775807 →
 (∀ lb cb, (callFunc fov #[.slice (some ⟨vb, 0, none⟩) 1 mc, .slice (some ⟨g, (i + 1) * es, none⟩) lb cb]).run P w = .ok (.value (.bool false)) w) →
 (∀ ty, (Builtin.copy_ #[tS, tS] ty #[.slice (some ⟨g, (i + 1) * es, none⟩) (n - i) (c - (i + 1)), .slice (some ⟨g, i * es, none⟩) (n + 1 - i) (c - i)]).run P w.drew = .ok (goInt ((n - i : Nat) : Int)) W1) →
 (∀ ty, (Builtin.copy_ #[tS, tS] ty #[.slice (some ⟨g, i * es, none⟩) (n + 1 - i) (c - i), .slice (some ⟨vb, 0, none⟩) 1 mc]).run P W1 = .ok (goInt 1) W2) →
 Calls P f #[.slice (some ⟨g, 0, none⟩) n c, .int .i64 i, .slice (some ⟨vb, 0, none⟩) 1 mc] w fun e w' => e = .returned (.slice (some ⟨g, 0, none⟩) (n + 1) c) ∧ w' = W2
def InsEnd (P : Program) (f : FuncId) (tS : TypeId) : Prop := ∀ (base : Option Addr) (n c vb m mc : Nat) (v' : Value) (w W1 : World), n ≤ c → 0 < m →
 ((Builtin.append_ #[tS, tS] tS #[.slice base n c, .slice (some ⟨vb, 0, none⟩) m mc]).run P w = .ok v' W1) →
 Calls P f #[.slice base n c, .int .i64 n, .slice (some ⟨vb, 0, none⟩) m mc] w fun e w' => e = .returned v' ∧ w' = W1
def InsGrow (P : Program) (f : FuncId) (tS tI : TypeId) (es : Nat) : Prop := ∀ (g n c i vb mc g2 C : Nat) (W1 W2 W3 w : World), i < n → n ≤ c → c < n + 1 → c ≤ 9223372036854775806 → n + 1 ≤ C → C ≤ 9223372036854775807 →
 (∀ ty, (Builtin.append_ #[tS, tI] ty #[.slice (some ⟨g, 0, none⟩) i c, .int .i64 ((n : Int) + 1 - (i : Int))]).run P w = .ok (.slice (some ⟨g2, 0, none⟩) (n + 1) C) W1) →
 (∀ ty, (Builtin.copy_ #[tS, tS] ty #[.slice (some ⟨g2, i * es, none⟩) (n + 1 - i) (C - i), .slice (some ⟨vb, 0, none⟩) 1 mc]).run P W1 = .ok (goInt 1) W2) →
 (∀ ty, (Builtin.copy_ #[tS, tS] ty #[.slice (some ⟨g2, (i + 1) * es, none⟩) (n - i) (C - (i + 1)), .slice (some ⟨g, i * es, none⟩) (n - i) (c - i)]).run P W2.drew = .ok (goInt ((n - i : Nat) : Int)) W3) →
 Calls P f #[.slice (some ⟨g, 0, none⟩) n c, .int .i64 i, .slice (some ⟨vb, 0, none⟩) 1 mc] w fun e w' => e = .returned (.slice (some ⟨g2, 0, none⟩) (n + 1) C) ∧ w' = W3
def DelOne (P : Program) (f : FuncId) (tS : TypeId) (es : Nat) : Prop := ∀ (g n c i j k : Nat) (A : Addr) (W1 W2 w : World), j = i + 1 → k = n - 1 → j ≤ n → n ≤ c → c ≤ 9223372036854775807 →
 ((if c = j then some (⟨g, 0, none⟩ : Addr) else some ⟨g, j * es, none⟩) = some A) →
 (∀ ty, (Builtin.append_ #[tS, tS] ty #[.slice (some ⟨g, 0, none⟩) i c, .slice (some A) (n - j) (c - j)]).run P w.drew = .ok (.slice (some ⟨g, 0, none⟩) k c) W1) →
 (∀ ty, (Builtin.clear_ #[tS] ty #[.slice (some ⟨g, k * es, none⟩) (n - k) (c - k)]).run P W1 = .ok (.tuple #[]) W2) →
 Calls P f #[.slice (some ⟨g, 0, none⟩) n c, .int .i64 i, .int .i64 j] w fun e w' => e = .returned (.slice (some ⟨g, 0, none⟩) k c) ∧ w' = W2
structure ElemT (P : Program) (tS e : TypeId) (es bytes : Nat) (ti : TypeInfo) (z : Value) : Prop where
 u : P.underlying tS = some (.slice e)
 hi : P.info? e = some ti
 hz : ti.zero = some z
 hs : ti.size = es
 hb : ti.bytes = bytes
 zs : z.cells.size = es
 zo : ∀ u ∈ z.cells.toList, u.oneCell' = true
 pos : 0 < es
theorem elemT_of {P : Program} {tS e : TypeId} {es bytes : Nat} (hu : P.underlying tS = some (.slice e)) (hz : (zer P e).map (·.length) = some es) (hs : (P.info? e).map (·.size) = some es) (hb : (P.info? e).map (·.bytes) = some bytes) (hp : 0 < es) :
  ∃ ti z, ElemT P tS e es bytes ti z := by
 obtain ⟨zl, hz1, hz2⟩ := Option.map_eq_some_iff.1 hz
 obtain ⟨i', zv, hi', hzi, hzc, hone⟩ := zer_some hz1
 rw [hi'] at hs hb
 simp only [Option.map_some, Option.some.injEq] at hs hb
 refine ⟨i', zv, hu, hi', hzi, hs, hb, by rw [← hz2, ← hzc]; simp, ?_, hp⟩
 intro u hu'
 rw [hzc] at hu'
 exact hone u hu'
theorem addr_add {b o j : Nat} : (⟨b, o, none⟩ : Addr).add j = ⟨b, o + j, none⟩ := Addr.add_lit ..
theorem row_cell {w : World} {g : Nat} {cur : Array Value} {e : TypeId} (hg : w.heap[g]? = some (.cells cur e (0, 0))) {L : List Value} {o : Nat} (h : ∀ (j : Nat) (u : Value), L[j]? = some u → cur.toList[o + j]? = some u) :
  ∀ (j : Nat) (u : Value), L[j]? = some u → w.cell? ((⟨g, o, none⟩ : Addr).add j) = some u := by
 intro j u hu
 rw [addr_add, cell_of_row w g (o + j) cur e (0, 0) hg]
 simpa using h j u hu
theorem ins_run {f fov : FuncId} {tS tI e tB : TypeId} {es bytes : Nat} {ti : TypeInfo} {z : Value} (E : ElemT P tS e es bytes ti z) (hI : P.underlying tI = some (.int .i64))
  (hs : InsShift P f fov tS es) (he : InsEnd P f tS) (hgr : InsGrow P f tS tI es)
  (hfov : ∀ w a b, (callFunc fov #[a, b]).run P w = ((Extern.SlicesOverlaps.overlaps #[tS, tS] #[tB] #[a, b]).run P w).andThen fun v w' => .ok (.value v) w')
  (w : World) (base : Option Addr) (n cap i vb mc : Nat) (flat vs : List Value) (cur1 : Array Value) (how : w.ownsRow 0 e es (.slice base n cap) n flat) (hvr : w.heap[vb]? = some (.cells cur1 e (0, 0))) (hv1 : cur1.toList.take es = vs) (hvl : vs.length = es) (hmc : 1 ≤ mc)
  (h1f : ∀ u ∈ flat, u.oneCell' = true) (h1v : ∀ u ∈ vs, u.oneCell' = true) (hne : ∀ a, base = some a → a.block ≠ vb) (hin : i ≤ n) (hn : n + 1 ≤ 1000000000) (hby : (n + 1) * bytes ≤ 140737488355328) :
  ∃ v' W', (Calls P f #[.slice base n cap, .int .i64 i, .slice (some ⟨vb, 0, none⟩) 1 mc] w fun e w' => e = .returned v' ∧ w' = W') ∧ W'.ownsRow 0 e es v' (n + 1) (flat.take (i * es) ++ vs ++ flat.drop (i * es)) ∧
   w.grownBy W' (Value.slice base n cap).ownBlock ∧ (v'.ownBlock = (Value.slice base n cap).ownBlock ∨ v'.ownBlock = some w.heap.size) := by
 have hvc : ∀ (j : Nat) (u : Value), vs[j]? = some u → cur1.toList[0 + j]? = some u := by
  intro j u hu
  rw [← hv1, List.getElem?_take] at hu
  split at hu
  ·simpa using hu
  ·simp at hu
 have hvlt : vb < w.heap.size := (Array.getElem?_eq_some_iff.1 hvr).1
 have hi' := E.hi
 have hpos := E.pos
 by_cases hie : i = n
 ·subst hie
  obtain ⟨v', W', hrun, hown, hg, hnil, hat⟩ := run_append_own_at (P := P) w 0 tS tS e ti z es bytes E.u E.hi E.hz E.hs E.hb E.zs E.pos (.slice base i cap) i flat how ⟨vb, 0, none⟩ 1 mc vs (by rw [hvl]; omega)
   (row_cell hvr hvc) h1v (by unfold maxLen; omega) hby (Nat.zero_le _)
  have hnc : i ≤ cap := by
   rcases how.2 with ⟨h1, h2⟩ | ⟨g, cap', cur, h1, _, _, h2, _⟩
   ·simp only [Value.slice.injEq] at h1; omega
   ·simp only [Value.slice.injEq] at h1; omega
  refine ⟨v', W', he base i cap vb 1 mc v' w W' hnc (by omega) hrun, ?_, hg, hat⟩
  have h1 : flat.take (i * es) = flat := List.tkL (by rw [how.1]; omega)
  have h2 : flat.drop (i * es) = [] := List.drop_of_length_le (by rw [how.1]; omega)
  rw [h1, h2, List.append_nil]
  exact hown
 ·have hlt : i < n := by omega
  rcases how.2 with ⟨h1, h2⟩ | ⟨g, cap', cur, h1, _, hg, hnc, hcm, hcs, htk⟩
  ·omega
  ·simp only [Value.slice.injEq] at h1
   obtain ⟨rfl, _, rfl⟩ := h1
   have hgv : g ≠ vb := hne _ rfl
   have hml : cap ≤ 9223372036854775807 := by unfold maxLen at hcm; omega
   have hfl : flat.length = n * es := how.1
   -- what stands in the row
   obtain ⟨A, hA⟩ : ∃ A, A = flat.take (i * es) := ⟨_, rfl⟩
   obtain ⟨B, hB⟩ : ∃ B, B = flat.drop (i * es) := ⟨_, rfl⟩
   have hmul : i * es + (n - i) * es = n * es := by rw [← Nat.add_mul]; congr 1; omega
   have hm1 : (i + 1) * es = i * es + es := by rw [Nat.add_mul]; omega
   have hm2 : (n + 1) * es = n * es + es := by rw [Nat.add_mul]; omega
   have hAl : A.length = i * es := by rw [hA, List.length_take]; omega
   have hBl : B.length = (n - i) * es := by rw [hB, List.length_drop]; omega
   have hAB : flat = A ++ B := by rw [hA, hB, List.take_append_drop]
   have hncm : n * es ≤ cap * es := Nat.mul_le_mul_right _ hnc
   obtain ⟨sp, hsp⟩ : ∃ sp, cur.toList = A ++ (B ++ sp) := ⟨cur.toList.drop (n * es), by rw [← List.append_assoc, ← hAB, ← htk, List.take_append_drop]⟩
   have hcl : cur.toList.length = cap * es := by simpa using hcs
   have hspl : i * es + ((n - i) * es + sp.length) = cap * es := by rw [← hcl, hsp]; simp [hAl, hBl]
   have h1B : ∀ u ∈ B, u.oneCell' = true := fun u hu => h1f u (by rw [hAB]; exact List.mem_append_right _ hu)
   have hBc : ∀ (j : Nat) (u : Value), B[j]? = some u → cur.toList[i * es + j]? = some u := by
    intro j u hu
    rw [hsp, List.getElem?_append_right (by omega), hAl, show i * es + j - i * es = j by omega, List.getElem?_append_left (lt_of_get hu)]
    exact hu
   rw [← hA, ← hB]
   by_cases hroom : n + 1 ≤ cap
   ·have hcap1 : (n + 1) * es ≤ cap * es := Nat.mul_le_mul_right _ hroom
    have hov : ∀ lb cb, (callFunc fov #[.slice (some ⟨vb, 0, none⟩) 1 mc, .slice (some ⟨g, (i + 1) * es, none⟩) lb cb]).run P w = .ok (.value (.bool false)) w := fun lb cb => by
     rw [hfov, Lib.run_overlaps_apart w tS tB e E.u es (fun w => by simp [sizeOf, typeInfo, hi', E.hs]) ⟨vb, 0, none⟩ ⟨g, (i + 1) * es, none⟩ 1 mc lb cb (by simpa using hgv.symm) e e cur1.size cur.size (by simp [World.shape?, hvr]) (by simp [World.shape?, hg]) (by rw [hcs]; omega) (by simp [World.frozen?, hvr]) (by simp [World.frozen?, hvr])]
     rfl
    -- the first copy
    have hg' : w.drew.heap[g]? = some (.cells cur e (0, 0)) := hg
    have hc1 := fun ty => run_copy_row (P := P) w.drew tS tS ty e ti g ((i + 1) * es) (n - i) (cap - (i + 1)) ⟨g, i * es, none⟩ (n + 1 - i) (cap - i) B cur e E.u hi' (by rw [hBl, E.hs]; congr 1; simp only [Nat.min_def]; split <;> omega) hg' (by rw [hBl, hcs]; omega) (row_cell hg' hBc) h1B
    rw [show Nat.min (n + 1 - i) (n - i) = n - i by simp only [Nat.min_def]; split <;> omega] at hc1
    obtain ⟨cur2, hcur2⟩ : ∃ cur2, (cur.toList.take ((i + 1) * es) ++ B ++ cur.toList.drop ((i + 1) * es + B.length)).toArray = cur2 := ⟨_, rfl⟩
    rw [hcur2] at hc1
    have hw2 := setRow_heap w.drew g cur cur2 e (0, 0) hg'
    have hl2 : cur2.toList = A ++ ((cur.toList.drop (i * es)).take es ++ (B ++ cur.toList.drop ((i + 1) * es + B.length))) := by
     rw [← hcur2]
     have : cur.toList.take ((i + 1) * es) = A ++ (cur.toList.drop (i * es)).take es := by
      rw [hm1, List.take_add]
      congr 1
      rw [hsp, List.take_left' hAl]
     simp only [this, List.append_assoc]
    have hX : ((cur.toList.drop (i * es)).take es).length = es := by rw [List.length_take, List.length_drop, hcl]; omega
    obtain ⟨R, hR⟩ : ∃ R, cur.toList.drop ((i + 1) * es + B.length) = R := ⟨_, rfl⟩
    rw [hR] at hl2
    have hrest : R.length = cap * es - (n + 1) * es := by rw [← hR, List.length_drop, hcl, hBl]; omega
    have hs2 : cur2.size = cap * es := by
     have : cur2.toList.length = cap * es := by rw [hl2]; simp only [List.length_append, hAl, hX, hBl, hrest]; omega
     simpa using this
    -- the second copy
    have hvr2 : (w.drew.setRow g cur2).heap[vb]? = some (.cells cur1 e (0, 0)) := by rw [setRow_other _ _ _ _ hgv.symm]; exact hvr
    have hc2 := fun ty => run_copy_row (P := P) (w.drew.setRow g cur2) tS tS ty e ti g (i * es) (n + 1 - i) (cap - i) ⟨vb, 0, none⟩ 1 mc vs cur2 e E.u hi' (by rw [hvl, E.hs, show Nat.min 1 (n + 1 - i) = 1 by simp only [Nat.min_def]; split <;> omega]; omega) hw2 (by rw [hvl, hs2]; omega) (row_cell hvr2 hvc) h1v
    rw [show Nat.min 1 (n + 1 - i) = 1 by simp only [Nat.min_def]; split <;> omega] at hc2
    refine ⟨_, _, hs g n cap i vb mc _ _ w hlt hroom hml hov hc1 hc2, ⟨?_, .inr ⟨g, cap, _, rfl, Nat.zero_le _, setRow_heap _ _ _ _ _ _ hw2, hroom, hcm, ?_, ?_⟩⟩, ⟨rfl, rfl, rfl, by simp, ?_⟩, .inl rfl⟩
    ·simp only [List.length_append, hAl, hvl, hBl]; omega
    ·simp only [List.size_toArray, List.length_append, List.length_take, List.length_drop]
     have : cur2.toList.length = cap * es := by simpa using hs2
     omega
    ·have e1 : cur2.toList.take (i * es) = A := by rw [hl2, List.take_left' hAl]
     have e2 : cur2.toList.drop (i * es + vs.length) = B ++ R := by
      rw [hl2, hvl, ← List.drop_drop, List.drop_left' hAl, List.drop_left' hX]
     simp only [e1, e2]
     rw [← List.append_assoc, List.take_left']
     simp only [List.length_append, hAl, hvl, hBl]; omega
    ·intro k hk hne'
     have hkg : k ≠ g := by rintro rfl; exact hne' rfl
     rw [setRow_other _ _ _ _ hkg, setRow_other _ _ _ _ hkg]
     rfl
   ·have hcn : cap = n := by omega
    subst hcn
    have hold : (Builtin.firstCells ti.size i (.slice (some ⟨g, 0, none⟩) i cap)).run P w.drew = .ok A.toArray w.drew :=
     run_firstCells_some w.drew ti.size i ⟨g, 0, none⟩ i cap A (by rw [hAl, E.hs]) (row_cell (show w.drew.heap[g]? = some (.cells cur e (0, 0)) from hg) fun j u hu => by
      rw [hsp, Nat.zero_add, List.getElem?_append_left (lt_of_get hu)]; exact hu)
    have hge := grownCap_ge w (cap + 1) cap e
    have hgm := grownCap_le_maxLen w (cap + 1) cap e (by unfold maxLen; omega)
    have hap := fun ty => Lib.run_append_grow_zeros (P := P) w tS tI ty e ti z .i64 .i64 E.u hI E.hi E.hz (some ⟨g, 0, none⟩) i cap A hold (cap + 1 - i) (by omega) (by rw [E.hs]; exact hpos) (by omega) (by omega)
     (by
      have : (cap + 1 - i) * ti.bytes ≤ (cap + 1) * ti.bytes := Nat.mul_le_mul_right _ (by omega)
      rw [E.hb] at this ⊢; omega)
     (by rw [show i + (cap + 1 - i) = cap + 1 by omega, E.hb]; exact growslice_fits (by omega) hby)
    rw [show i + (cap + 1 - i) = cap + 1 by omega] at hap
    obtain ⟨C, hC⟩ : ∃ C, grownCap w (cap + 1) cap e = C := ⟨_, rfl⟩
    rw [hC] at hge hgm hap
    have hCe : (cap + 1) * es ≤ C * es := Nat.mul_le_mul_right _ hge
    obtain ⟨ROW, hROW⟩ : ∃ ROW, (A.toArray ++ Builtin.zeroCells z.cells (cap + 1 - i) ++ Builtin.zeroCells z.cells (C - (cap + 1))) = ROW := ⟨_, rfl⟩
    rw [hROW] at hap
    obtain ⟨Z, hRl⟩ : ∃ Z, ROW.toList = A ++ Z := ⟨(Builtin.zeroCells z.cells (cap + 1 - i)).toList ++ (Builtin.zeroCells z.cells (C - (cap + 1))).toList, by rw [← hROW]; simp⟩
    have hRs : ROW.size = C * es := by
     rw [← hROW]
     simp only [Array.size_append, List.size_toArray, size_zeroCells, E.zs, hAl]
     rw [← Nat.add_mul, ← Nat.add_mul]
     congr 1
     omega
    have hZl : i * es + Z.length = C * es := by
     have : ROW.toList.length = C * es := by simpa using hRs
     rw [hRl, List.length_append, hAl] at this
     exact this
    obtain ⟨W1, hW1⟩ : ∃ W1, w.drew.alloc (.cells ROW e) = W1 := ⟨_, rfl⟩
    rw [hW1] at hap
    have hN : W1.heap[w.heap.size]? = some (.cells ROW e (0, 0)) := by rw [← hW1]; exact Go.heap_alloc_new w.drew _
    have hO : ∀ k, k < w.heap.size → W1.heap[k]? = w.heap[k]? := fun k hk => by rw [← hW1]; first | exact heap_alloc_old w.drew _ k hk | exact heap_alloc_old w.drew _ hk
    have hgl : g < w.heap.size := (Array.getElem?_eq_some_iff.1 hg).1
    have hvr1 : W1.heap[vb]? = some (.cells cur1 e (0, 0)) := by rw [hO vb hvlt]; exact hvr
    have hc1 := fun ty => run_copy_row (P := P) W1 tS tS ty e ti w.heap.size (i * es) (cap + 1 - i) (C - i) ⟨vb, 0, none⟩ 1 mc vs ROW e E.u hi' (by rw [hvl, E.hs, show Nat.min 1 (cap + 1 - i) = 1 by simp only [Nat.min_def]; split <;> omega]; omega) hN (by rw [hvl, hRs]; omega) (row_cell hvr1 hvc) h1v
    rw [show Nat.min 1 (cap + 1 - i) = 1 by simp only [Nat.min_def]; split <;> omega] at hc1
    obtain ⟨R2, hR2⟩ : ∃ R2, (ROW.toList.take (i * es) ++ vs ++ ROW.toList.drop (i * es + vs.length)).toArray = R2 := ⟨_, rfl⟩
    rw [hR2] at hc1
    have hl2 : R2.toList = A ++ (vs ++ Z.drop es) := by
     rw [← hR2, hRl, hvl, List.take_left' hAl, ← List.drop_drop, List.drop_left' hAl]
     simp
    have hs2 : R2.size = C * es := by
     have : R2.toList.length = C * es := by rw [hl2]; simp only [List.length_append, hAl, hvl, List.length_drop]; omega
     simpa using this
    have hN2 := setRow_heap W1 w.heap.size ROW R2 e (0, 0) hN
    have hg2 : (W1.setRow w.heap.size R2).drew.heap[g]? = some (.cells cur e (0, 0)) := by
     show (W1.setRow w.heap.size R2).heap[g]? = _
     rw [setRow_other _ _ _ _ (by omega), hO g hgl]
     exact hg
    have hN2' : (W1.setRow w.heap.size R2).drew.heap[w.heap.size]? = some (.cells R2 e (0, 0)) := hN2
    have hc2 := fun ty => run_copy_row (P := P) (W1.setRow w.heap.size R2).drew tS tS ty e ti w.heap.size ((i + 1) * es) (cap - i) (C - (i + 1)) ⟨g, i * es, none⟩ (cap - i) (cap - i) B R2 e E.u hi' (by rw [hBl, E.hs]; congr 1; simp only [Nat.min_def]; split <;> omega) hN2' (by rw [hBl, hs2]; omega) (row_cell hg2 hBc) h1B
    rw [show Nat.min (cap - i) (cap - i) = cap - i by simp only [Nat.min_def]; split <;> omega] at hc2
    refine ⟨_, _, hgr g cap cap i vb mc w.heap.size C _ _ _ w hlt (Nat.le_refl _) (by omega) (by omega) hge (by unfold maxLen at hgm; omega) (fun ty => by rw [show (cap : Int) + 1 - (i : Int) = ((cap + 1 - i : Nat) : Int) by omega]; exact hap ty) hc1 hc2,
     ⟨?_, .inr ⟨w.heap.size, C, _, rfl, Nat.zero_le _, setRow_heap _ _ _ _ _ _ hN2', hge, hgm, ?_, ?_⟩⟩, ⟨?_, ?_, ?_, ?_, ?_⟩, .inr rfl⟩
    ·simp only [List.length_append, hAl, hvl, hBl]; omega
    ·simp only [List.size_toArray, List.length_append, List.length_take, List.length_drop]
     have : R2.toList.length = C * es := by simpa using hs2
     omega
    ·have e1 : R2.toList.take ((i + 1) * es) = A ++ vs := by rw [hl2, ← List.append_assoc, List.take_left' (by rw [List.length_append, hAl, hvl, hm1])]
     simp only [e1]
     rw [List.take_left']
     simp only [List.length_append, hAl, hvl, hBl]; omega
    ·rw [← hW1]; rfl
    ·rw [← hW1]; rfl
    ·rw [← hW1]; rfl
    ·rw [← hW1]; simp
    ·intro k hk _
     rw [setRow_other _ _ _ _ (by omega)]
     show (W1.setRow w.heap.size R2).heap[k]? = _
     rw [setRow_other _ _ _ _ (by omega), hO k hk]
theorem del_run {f : FuncId} {tS e : TypeId} {es bytes : Nat} {ti : TypeInfo} {z : Value} (E : ElemT P tS e es bytes ti z) (hd : DelOne P f tS es)
  (w : World) (base : Option Addr) (n cap i : Nat) (flat : List Value) (how : w.ownsRow 0 e es (.slice base n cap) n flat) (h1f : ∀ u ∈ flat, u.oneCell' = true) (hin : i < n) :
  ∃ v' W', (Calls P f #[.slice base n cap, .int .i64 i, .int .i64 ((i : Int) + 1)] w fun e w' => e = .returned v' ∧ w' = W') ∧ W'.ownsRow 0 e es v' (n - 1) (flat.take (i * es) ++ flat.drop ((i + 1) * es)) ∧
   w.grownBy W' (Value.slice base n cap).ownBlock ∧ (v'.ownBlock = (Value.slice base n cap).ownBlock ∨ v'.ownBlock = some w.heap.size) := by
 have hi' := E.hi
 have hpos := E.pos
 rcases how.2 with ⟨h1, h2⟩ | ⟨g, cap', cur, h1, _, hg, hnc, hcm, hcs, htk⟩
 ·omega
 ·simp only [Value.slice.injEq] at h1
  obtain ⟨rfl, _, rfl⟩ := h1
  have hml : cap ≤ 9223372036854775807 := by unfold maxLen at hcm; omega
  have hfl : flat.length = n * es := how.1
  have hmul : (i + 1) * es + (n - (i + 1)) * es = n * es := by rw [← Nat.add_mul]; congr 1; omega
  have hm1 : (i + 1) * es = i * es + es := by rw [Nat.add_mul]; omega
  have hm2 : (n - 1) * es = i * es + (n - (i + 1)) * es := by rw [← Nat.add_mul]; congr 1; omega
  have hncm : n * es ≤ cap * es := Nat.mul_le_mul_right _ hnc
  have hcl : cur.toList.length = cap * es := by simpa using hcs
  obtain ⟨B, hB⟩ : ∃ B, B = flat.drop ((i + 1) * es) := ⟨_, rfl⟩
  have hBl : B.length = (n - (i + 1)) * es := by rw [hB, List.length_drop]; omega
  have h1B : ∀ u ∈ B, u.oneCell' = true := fun u hu => h1f u (by rw [hB] at hu; exact List.mem_of_mem_drop hu)
  have hBc : ∀ (j : Nat) (u : Value), B[j]? = some u → cur.toList[(i + 1) * es + j]? = some u := by
   intro j u hu
   have hlt := lt_of_get hu
   rw [hB, List.getElem?_drop, ← htk, List.getElem?_take] at hu
   split at hu
   ·exact hu
   ·simp at hu
  have hAt : cur.toList.take (i * es) = flat.take (i * es) := by
   rw [← htk, List.take_take]
   congr 1
   have := Nat.mul_le_mul_right es (Nat.le_of_lt hin)
   omega
  have hg' : w.drew.heap[g]? = some (.cells cur e (0, 0)) := hg
  obtain ⟨A, hA, hAc⟩ : ∃ A : Addr, (if cap = i + 1 then some (⟨g, 0, none⟩ : Addr) else some ⟨g, (i + 1) * es, none⟩) = some A ∧ ∀ (j : Nat) (u : Value), B[j]? = some u → w.drew.cell? (A.add j) = some u := by
   by_cases hc : cap = i + 1
   ·refine ⟨⟨g, 0, none⟩, by rw [if_pos hc], fun j u hu => ?_⟩
    have h0 : B = [] := List.eq_nil_of_length_eq_zero (by rw [hBl, show n - (i + 1) = 0 by omega, Nat.zero_mul])
    rw [h0] at hu
    simp at hu
   ·exact ⟨⟨g, (i + 1) * es, none⟩, by rw [if_neg hc], row_cell hg' hBc⟩
  have hap := fun ty => run_append_room (P := P) w.drew tS ty e ti E.u hi' g i cap cur hg' A (n - (i + 1)) (cap - (i + 1)) B (by rw [hBl, E.hs]) hAc h1B (by omega) (by rw [hBl, hcs, E.hs]; omega)
  rw [show i + (n - (i + 1)) = n - 1 by omega, E.hs] at hap
  obtain ⟨R, hR⟩ : ∃ R, (cur.toList.take (i * es) ++ B ++ cur.toList.drop (i * es + B.length)).toArray = R := ⟨_, rfl⟩
  rw [hR] at hap
  have hAl : (flat.take (i * es)).length = i * es := by
   have := Nat.mul_le_mul_right es (Nat.le_of_lt hin)
   rw [List.length_take]; omega
  obtain ⟨S, hS⟩ : ∃ S, cur.toList.drop (i * es + B.length) = S := ⟨_, rfl⟩
  have hSl : S.length = cap * es - (i * es + B.length) := by rw [← hS, List.length_drop, hcl]
  have hRl : R.toList = flat.take (i * es) ++ (B ++ S) := by rw [← hR, hAt, hS]; simp
  have hRs : R.size = cap * es := by
   have : R.toList.length = cap * es := by rw [hRl]; simp only [List.length_append, hAl, hSl]; omega
   simpa using this
  have hw1 := setRow_heap w.drew g cur R e (0, 0) hg'
  have hzc : (Builtin.zeroCells z.cells (n - (n - 1))).toList.length = es := by
   have := size_zeroCells z.cells (n - (n - 1))
   rw [E.zs, show n - (n - 1) = 1 by omega] at this
   rw [show n - (n - 1) = 1 by omega]
   simpa using this
  have hzo : ∀ u ∈ (Builtin.zeroCells z.cells (n - (n - 1))).toList, u.oneCell' = true := by
   intro u hu
   rw [show n - (n - 1) = 1 by omega] at hu
   refine E.zo u ?_
   obtain ⟨a, ha, rfl⟩ : ∃ a, a < z.cells.size ∧ z.cells[a % z.cells.size]! = u := by simpa [Builtin.zeroCells] using hu
   have hlt : a % z.cells.size < z.cells.size := Nat.mod_lt _ (by omega)
   rw [getElem!_pos z.cells _ hlt]
   simp
  obtain ⟨ZZ, hZZ⟩ : ∃ ZZ, (Builtin.zeroCells z.cells (n - (n - 1))).toList = ZZ := ⟨_, rfl⟩
  rw [hZZ] at hzc hzo
  have hst := run_storeCells_at P g ((n - 1) * es) e ZZ 0 R (w.drew.setRow g R) hw1 (by rw [hzc, hRs]; omega) hzo
  simp only [Nat.add_zero] at hst
  obtain ⟨k1, hk1⟩ : ∃ k1, n - (n - 1) = k1 + 1 := ⟨0, by omega⟩
  have hclr : ∀ ty, (Builtin.clear_ #[tS] ty #[.slice (some ⟨g, (n - 1) * es, none⟩) (n - (n - 1)) (cap - (n - 1))]).run P (w.drew.setRow g R) = .ok (.tuple #[]) _ := fun ty => by
   rw [hk1] at hZZ ⊢
   simp only [Builtin.clear_]
   simp only [List.getElem?_toArray, List.getElem?_cons_zero, Sem.run_bind, run_underlying E.u, zeroValue, typeInfo, hi', E.hz]
   simp [zeroValue, typeInfo, hi', E.hz, hZZ, hst]
   rfl
  refine ⟨_, _, hd g n cap i (i + 1) (n - 1) A _ _ w rfl rfl hin hnc hml hA hap hclr, ⟨?_, .inr ⟨g, cap, _, rfl, Nat.zero_le _, setRow_heap _ _ _ _ _ _ hw1, by omega, hcm, ?_, ?_⟩⟩, ⟨rfl, rfl, rfl, by simp, ?_⟩, .inl rfl⟩
  ·rw [← hB]; simp only [List.length_append, hAl, hBl]; omega
  ·have : R.toList.length = cap * es := by simpa using hRs
   simp only [List.size_toArray, List.length_append, List.length_take, List.length_drop, hzc]
   omega
  ·have e1 : R.toList.take ((n - 1) * es) = flat.take (i * es) ++ B := by
    rw [hRl, ← List.append_assoc, List.take_left']
    simp only [List.length_append, hAl, hBl]; omega
   simp only [e1, List.append_assoc]
   rw [← List.append_assoc, List.take_left', hB]
   simp only [List.length_append, hAl, hBl]; omega
  ·intro k hk hne'
   have hkg : k ≠ g := by rintro rfl; exact hne' rfl
   rw [setRow_other _ _ _ _ hkg, setRow_other _ _ _ _ hkg]
   rfl
theorem ones_of {Φ : Nat → Prop} {w : World} {fs : List FV} {vs : List Value} (h : All2 (FR Φ w) fs vs) : ∀ u ∈ vs, u.oneCell' = true := by
 intro u hu
 obtain ⟨j, hj⟩ := List.getElem?_of_mem hu
 obtain ⟨c, _, hr⟩ := h.get' hj
 exact hr.oneCell
theorem row_own {w : World} {m : Nat} {ρ0 : Nat → Value} {Φ0 : Nat → Prop} {H : Nat → Option EO} {X : Cx} (r : Rel w m ρ0 Φ0 H X) {o : Nat} {e : TypeId} {es : Nat} {xs : List (List FV)} (hH : H o = some (.row e es xs)) {v : Value} (hv : VR X (.row o xs.length) v) :
  ∃ base cap flat, v = .slice base xs.length cap ∧ X.ρ o = v ∧ 0 < es ∧ (∀ x ∈ xs, x.length = es) ∧ X.w.ownsRow 0 e es (.slice base xs.length cap) xs.length flat ∧ All2 (FR X.Φ X.w) xs.flatten flat := by
 obtain ⟨hu, a, n0, cap, hρ, q1, q2, q3⟩ := hv
 obtain ⟨h0, hl, flat, how, hall⟩ := (r.obj o _ hH).2
 rw [hρ] at how
 have hn : n0 = xs.length := by
  rcases how.2 with ⟨hn, hz⟩ | ⟨g, cap', cur, he, _⟩
  ·simp only [Value.slice.injEq] at hn; omega
  ·simp only [Value.slice.injEq] at he; omega
 subst hn
 exact ⟨a, cap, flat, q3, by rw [hρ, q3], h0, hl, how, hall⟩
theorem ins_ecalls {f fov : FuncId} {tS tI e tB : TypeId} {es bytes : Nat} {ti : TypeInfo} {z : Value} (E : ElemT P tS e es bytes ti z) (hI : P.underlying tI = some (.int .i64))
  (hs : InsShift P f fov tS es) (he : InsEnd P f tS) (hgr : InsGrow P f tS tI es)
  (hfov : ∀ w a b, (callFunc fov #[a, b]).run P w = ((Extern.SlicesOverlaps.overlaps #[tS, tS] #[tB] #[a, b]).run P w).andThen fun v w' => .ok (.value v) w')
  (xs : List (List FV)) (x : List FV) (i : Nat) (hin : i ≤ xs.length) (hn : xs.length + 1 ≤ 1000000000) (hby : (xs.length + 1) * bytes ≤ 140737488355328) :
  ECalls P f [.v (.c (.row 0 xs.length)), .lit (.int .i64 i), .v (.c (.row 1 1))] [.row e es xs, .row e es [x]] fun y H' =>
   H' = [none, some (.row e es [x]), some (.row e es (xs.take i ++ x :: xs.drop i))] ∧ y = .v (.c (.row 2 (xs.length + 1))) := by
 intro ρ Φ w vals r ha
 obtain ⟨v0, vs0, rfl, h0, ha⟩ := ha.cons_left
 obtain ⟨v1, vs1, rfl, h1, ha⟩ := ha.cons_left
 obtain ⟨v2, vs2, rfl, h2, ha⟩ := ha.cons_left
 obtain rfl := ha.nil_left
 have h1' : FR Φ w (.lit (.int .i64 i)) v1 := h1
 obtain rfl : v1 = .int .i64 i := by cases h1'; rfl
 obtain ⟨base, cap, flat, rfl, hρ0, hp, hl, how, hall⟩ := row_own r (o := 0) (e := e) (es := es) (xs := xs) rfl h0
 obtain ⟨base2, mc, vs, rfl, hρ1, _, hl2, how2, hall2⟩ := row_own r (o := 1) (e := e) (es := es) (xs := [x]) rfl h2
 have hxl : x.length = es := hl2 x (by simp)
 rcases how2.2 with ⟨_, hbad⟩ | ⟨vb, mc', cur1, hvb, _, hvr, hmc, _, _, htk⟩
 ·simp at hbad
 simp only [List.length_cons, List.length_nil, Nat.zero_add, Value.slice.injEq, true_and] at hvb hmc htk
 obtain ⟨rfl, rfl⟩ := hvb
 have hvl : vs.length = es := by have := how2.1; simpa using this
 have hne : ∀ a, base = some a → a.block ≠ vb := by
  rintro a rfl hb'
  have hb0 : hb (ρ 0) = some vb := by have : ρ 0 = _ := hρ0; rw [this]; simp [hb, hb']
  have hb1 : hb (ρ 1) = some vb := by have : ρ 1 = _ := hρ1; rw [this]; rfl
  exact absurd (r.inj 0 1 _ _ vb rfl rfl hb0 hb1) (by decide)
 obtain ⟨v', W', hcalls, hown, hg, hat⟩ := ins_run E hI hs he hgr hfov w base xs.length cap i vb mc flat vs cur1 how hvr (by simpa using htk) hvl hmc (ones_of hall) (by have := ones_of hall2; exact this) hne hin hn hby
 refine hcalls.mono ?_
 rintro e' w' ⟨rfl, rfl⟩
 have hob : (Value.slice base xs.length cap).ownBlock = hb (Value.slice base xs.length cap) := own_hb _ rfl
 obtain ⟨a', n', hv'⟩ : ∃ a' c', v' = .slice a' (xs.length + 1) c' ∧ xs.length + 1 ≤ c' := by
  rcases hown.2 with ⟨h1, h2⟩ | ⟨g, cap', cur, h1, _, _, h2, _⟩
  ·omega
  ·exact ⟨_, cap', h1, h2⟩
 have hob' := own_hb v' hv'.1
 have nbo : ∀ b, Φ b → some b ≠ (Value.slice base xs.length cap).ownBlock := by
  intro b hb' e'
  refine r.dis 0 _ b rfl ?_ hb'
  have : ρ 0 = _ := hρ0
  show hb (ρ 0) = some b
  rw [this, ← hob, e']
 have hl0 : Later ⟨fun o => o < 2, ρ, Φ, w⟩ { U := fun o => o < 2 ∨ o = 2, ρ := upd ρ 2 v', Φ := Φ, w := w' } :=
  ⟨fun _ h => .inl h, fun o hu => upd_ne _ _ _ (by have : o < 2 := hu; omega), fun _ h => h, fun b hb' => hg.block b (r.fro b hb') (nbo b hb')⟩
 have hfl : (xs.take i ++ x :: xs.drop i).flatten = xs.flatten.take (i * es) ++ x ++ xs.flatten.drop (i * es) := by
  rw [List.flatten_append, List.flatten_cons, flatten_take hl, flatten_drop hl, List.append_assoc]
 have hlen : (xs.take i ++ x :: xs.drop i).length = xs.length + 1 := by simp; omega
 have hx2 : All2 (FR Φ w) x vs := by have := hall2; simpa using this
 obtain ⟨r', l'⟩ := r.grow (some 0) (Value.slice base xs.length cap).ownBlock (.inr ⟨0, _, rfl, rfl, by have : ρ 0 = _ := hρ0; show hb (ρ 0) = _; rw [this, hob]⟩) hg (id := 2) (by show ¬ (2 < 2); omega) (Nat.le_refl _) v'
  (by rw [← hob']; rcases hat with h | h; exact .inr (.inl h); exact .inr (.inr h)) (.row e es (xs.take i ++ x :: xs.drop i))
  ⟨hp, by
   intro y hy
   rcases List.mem_append.1 hy with h | h
   ·exact hl y (List.mem_of_mem_take h)
   ·rcases List.mem_cons.1 h with rfl | h
    ·exact hxl
    ·exact hl y (List.mem_of_mem_drop h), _, by rw [hlen]; exact hown, by
   rw [hfl]
   exact (((hall.take _).append hx2).append (hall.drop _)).mono fun _ _ => hl0.fr⟩
 have hU : (fun o => o < 2 ∨ o = 2) = fun o => o < 3 := funext fun o => propext (by omega)
 have hH : upd (dropO (ofL [EO.row e es xs, .row e es [x]]) (some 0)) 2 (some (.row e es (xs.take i ++ x :: xs.drop i))) = ofO [none, some (.row e es [x]), some (.row e es (xs.take i ++ x :: xs.drop i))] := by
  funext o
  match o with
  | 0 => rfl
  | 1 => rfl
  | 2 => rfl
  | o + 3 => simp [upd, dropO, ofL, ofO]
 refine ⟨_, _, v', upd ρ 2 v', Φ, rfl, ⟨rfl, rfl⟩, by simp, ?_, ?_⟩
 ·exact ⟨by show 2 < _; simp, a', xs.length + 1, n', by simp [upd_same, hv'.1], Nat.le_refl _, hv'.2, hv'.1⟩
 ·have r2 : Rel w 2 ρ Φ _ { U := fun o => o < 2 ∨ o = 2, ρ := upd ρ 2 v', Φ := Φ, w := w' } := r'
  rw [hU] at r2
  have r3 := hH ▸ r2
  exact r3
theorem del_ecalls {f : FuncId} {tS e : TypeId} {es bytes : Nat} {ti : TypeInfo} {z : Value} (E : ElemT P tS e es bytes ti z) (hd : DelOne P f tS es)
  (xs : List (List FV)) (i : Nat) (hin : i < xs.length) :
  ECalls P f [.v (.c (.row 0 xs.length)), .lit (.int .i64 i), .lit (.int .i64 ((i : Int) + 1))] [.row e es xs] fun y H' =>
   H' = [none, some (.row e es (xs.take i ++ xs.drop (i + 1)))] ∧ y = .v (.c (.row 1 (xs.length - 1))) := by
 intro ρ Φ w vals r ha
 obtain ⟨v0, vs0, rfl, h0, ha⟩ := ha.cons_left
 obtain ⟨v1, vs1, rfl, h1, ha⟩ := ha.cons_left
 obtain ⟨v2, vs2, rfl, h2, ha⟩ := ha.cons_left
 obtain rfl := ha.nil_left
 have h1' : FR Φ w (.lit (.int .i64 i)) v1 := h1
 obtain rfl : v1 = .int .i64 i := by cases h1'; rfl
 have h2' : FR Φ w (.lit (.int .i64 ((i : Int) + 1))) v2 := h2
 obtain rfl : v2 = .int .i64 ((i : Int) + 1) := by cases h2'; rfl
 obtain ⟨base, cap, flat, rfl, hρ0, hp, hl, how, hall⟩ := row_own r (o := 0) (e := e) (es := es) (xs := xs) rfl h0
 obtain ⟨v', W', hcalls, hown, hg, hat⟩ := del_run E hd w base xs.length cap i flat how (ones_of hall) hin
 refine hcalls.mono ?_
 rintro e' w' ⟨rfl, rfl⟩
 have hob : (Value.slice base xs.length cap).ownBlock = hb (Value.slice base xs.length cap) := own_hb _ rfl
 obtain ⟨a', n', hv'⟩ : ∃ a' c', v' = .slice a' (xs.length - 1) c' ∧ xs.length - 1 ≤ c' := by
  rcases hown.2 with ⟨h1, h2⟩ | ⟨g, cap', cur, h1, _, _, h2, _⟩
  ·exact ⟨none, 0, by rw [h1, h2], by omega⟩
  ·exact ⟨_, cap', h1, h2⟩
 have hob' := own_hb v' hv'.1
 have nbo : ∀ b, Φ b → some b ≠ (Value.slice base xs.length cap).ownBlock := by
  intro b hb' e'
  refine r.dis 0 _ b rfl ?_ hb'
  have : ρ 0 = _ := hρ0
  show hb (ρ 0) = some b
  rw [this, ← hob, e']
 have hl0 : Later ⟨fun o => o < 1, ρ, Φ, w⟩ { U := fun o => o < 1 ∨ o = 1, ρ := upd ρ 1 v', Φ := Φ, w := w' } :=
  ⟨fun _ h => .inl h, fun o hu => upd_ne _ _ _ (by have : o < 1 := hu; omega), fun _ h => h, fun b hb' => hg.block b (r.fro b hb') (nbo b hb')⟩
 have hfl : (xs.take i ++ xs.drop (i + 1)).flatten = xs.flatten.take (i * es) ++ xs.flatten.drop ((i + 1) * es) := by
  rw [List.flatten_append, flatten_take hl, flatten_drop hl]
 have hlen : (xs.take i ++ xs.drop (i + 1)).length = xs.length - 1 := by simp; omega
 obtain ⟨r', l'⟩ := r.grow (some 0) (Value.slice base xs.length cap).ownBlock (.inr ⟨0, _, rfl, rfl, by have : ρ 0 = _ := hρ0; show hb (ρ 0) = _; rw [this, hob]⟩) hg (id := 1) (by show ¬ (1 < 1); omega) (Nat.le_refl _) v'
  (by rw [← hob']; rcases hat with h | h; exact .inr (.inl h); exact .inr (.inr h)) (.row e es (xs.take i ++ xs.drop (i + 1)))
  ⟨hp, by
   intro y hy
   rcases List.mem_append.1 hy with h | h
   ·exact hl y (List.mem_of_mem_take h)
   ·exact hl y (List.mem_of_mem_drop h), _, by rw [hlen]; exact hown, by
   rw [hfl]
   exact ((hall.take _).append (hall.drop _)).mono fun _ _ => hl0.fr⟩
 have hU : (fun o => o < 1 ∨ o = 1) = fun o => o < 2 := funext fun o => propext (by omega)
 have hH : upd (dropO (ofL [EO.row e es xs]) (some 0)) 1 (some (.row e es (xs.take i ++ xs.drop (i + 1)))) = ofO [none, some (.row e es (xs.take i ++ xs.drop (i + 1)))] := by
  funext o
  match o with
  | 0 => rfl
  | 1 => rfl
  | o + 2 => simp [upd, dropO, ofL, ofO]
 refine ⟨_, _, v', upd ρ 1 v', Φ, rfl, ⟨rfl, rfl⟩, by simp, ?_, ?_⟩
 ·exact ⟨by show 1 < _; simp, a', xs.length - 1, n', by simp [upd_same, hv'.1], Nat.le_refl _, hv'.2, hv'.1⟩
 ·have r2 : Rel w 1 ρ Φ _ { U := fun o => o < 1 ∨ o = 1, ρ := upd ρ 1 v', Φ := Φ, w := w' } := r'
  rw [hU] at r2
  have r3 := hH ▸ r2
  exact r3
end Go.EW
set_option linter.unusedVariables false
set_option linter.unusedSimpArgs false
namespace Go.Proofs.YtejjhgdnmknejaaGreatDoor
open Go.RowKit Go.Lib Go.EW
namespace InsP
end InsP
end Go.Proofs.YtejjhgdnmknejaaGreatDoor
namespace Go.Proofs.YtejjhgdnmknejaaGreatDoor
open Go Go.EW
set_option linter.unusedSimpArgs false
set_option linter.unusedVariables false
def yb1lu : UB | _ => .seq (reg0 [xM 0 13 6] 1) (.cond (.t 13) (.seq (reg0 [xC 0 4 1] 1) .ret) .skip)
def yb1m2 : UB | _ => .seq (.seq (reg0 [xM 0 14 0, xM 1 15 1, xb 2 16 .lss 14 15] 3) (.cond (.t 16) (.seq (reg0 [xQ 0 4 (.mov (.k (.int .i64 (-1))))] 1) .ret) .skip)) (.seq (.seq (reg0 [xM 0 17 0, xM 1 18 1, xb 2 19 .gtr 17 18] 3) (.cond (.t 19) (.seq (reg0 [xC 0 4 1] 1) .ret) .skip)) (.seq (reg0 [xC 0 4 0] 1) .ret))
def yb1m3 : UB | _ => .seq (.seq (reg0 [xM 0 11 5] 1) (.cond (.t 11) (.seq (.seq (reg0 [xM 0 12 6] 1) (.cond (.t 12) (.seq (reg0 [xC 0 4 0] 1) .ret) .skip)) (.seq (reg0 [xQ 0 4 (.mov (.k (.int .i64 (-1))))] 1) .ret)) .skip)) (.seq (hid yb1lu) (hid yb1m2))
def yb1m4 : UB | _ => .seq (reg0 [xM 0 7 0, xO 1 8 (.call 190 [.t 7]), xM 2 5 8] 3) (.seq (reg0 [xM 0 9 1, xO 1 10 (.call 190 [.t 9]), xM 2 6 10] 3) (hid yb1m3))
def yb1m5 : UB | _ => .seq (reg0 [xC 0 4 0] 1) (hid yb1m4)
attribute [simp] yb1lu yb1m2 yb1m3 yb1m4 yb1m5
def c_CmpI : EB × List QOp × Nat := ((hid yb1m5), [(.mov (.t 4))], 20)
theorem k_CmpI : cfun Tryz.prog 152 = some c_CmpI := by kernel_rfl
def yb1m8 : UB | _ => .seq (reg0 [xQ 0 2 (.mov (.k (.bool false)))] 1) (.seq (reg0 [xM 0 3 0, xM 1 4 0, xb 2 5 .neq 3 4, xM 3 2 5] 4) .ret)
attribute [simp] yb1m8
def c_NaNI : EB × List QOp × Nat := ((hid yb1m8), [(.mov (.t 2))], 6)
theorem k_NaNI : cfun Tryz.prog 190 = some c_NaNI := by kernel_rfl
def yl1ma : UL | _ => [xb 6 9 .add 5 8, xM 7 2 9]
def yl1mb : UL | _ => xF 0 3 3 1 :: xL 1 4 3 :: xE 2 5 4 :: xF 3 6 4 1 :: xL 4 7 6 :: xE 5 8 7 :: hid yl1ma
def yb1mc : UB | _ => .seq (reg0 [xW 0 1 49 0, xC 1 2 0] 2) (.seq (reg0 (hid yl1mb) 8) .ret)
attribute [simp] yl1ma yl1mb yb1mc
def c_Sslots : EB × List QOp × Nat := ((hid yb1mc), [(.mov (.t 2))], 10)
theorem k_Sslots : cfun Tryz.prog 91 = some c_Sslots := by kernel_rfl
@[simp] theorem conAll_payC (H : Nat → Option EO) (ids : List Nat) (p : Pay) : conAll H ids (payC p) = some (payC p) := by simp [payC]
@[simp] theorem strAll_payC (ids : List Nat) (p : Pay) : strAll ids (payC p) = some (payC p) := by simp [payC, strAll, strC]
@[simp] theorem frzAll_payC (p : Pay) : frzAll (payC p) = some (payF p) := by simp [payC, payF, frzAll, frz]
@[simp] theorem refs_payC (p : Pay) : (payC p).flatMap refsC = [] := by simp [payC]
@[simp] theorem fz_payC (ids : List Nat) (p : Pay) : (payC p).flatMap (fzC ids) = [] := by simp [payC]
@[simp] theorem ren_payC (g : Nat → Nat) (p : Pay) : (payC p).map (renC g) = payC p := by simp [payC]
theorem pc0 (p : Pay) : (payC p)[0]? = some (.fz (.lit (.int .i64 p.id))) := rfl
def posI (l : List Int) (x : Int) : Nat := (l.takeWhile fun k => decide (k < x)).length
def fndI (l : List Int) (x : Int) : Bool := decide (l[posI l x]? = some x)
theorem posI_le (l : List Int) (x : Int) : posI l x ≤ l.length := (List.takeWhile_sublist _).length_le
theorem posI_eq : ∀ {l : List Int} {x : Int} {i : Nat}, i ≤ l.length → (∀ k y, k < i → l[k]? = some y → y < x) → (∀ y, l[i]? = some y → x ≤ y) → posI l x = i
 | [], x, i, h, _, _ => by simp at h; subst h; rfl
 | a :: r, x, 0, _, _, h => by
  have := h a rfl
  simp [posI, List.takeWhile_cons, show ¬ a < x by omega]
 | a :: r, x, i + 1, h0, h1, h2 => by
  have := h1 0 a (by omega) rfl
  have ih := posI_eq (l := r) (x := x) (i := i) (by simpa using h0) (fun k y hk hy => h1 (k + 1) y (by omega) (by simpa using hy)) (fun y hy => h2 y (by simpa using hy))
  unfold posI at ih ⊢
  simp [List.takeWhile_cons, this, ih]
theorem pw_get {l : List Int} (h : l.Pairwise (· < ·)) {i j : Nat} {x y : Int} (hij : i < j) (hx : l[i]? = some x) (hy : l[j]? = some y) : x < y := by
 obtain ⟨hi, rfl⟩ := List.getElem?_eq_some_iff.1 hx
 obtain ⟨hj, rfl⟩ := List.getElem?_eq_some_iff.1 hy
 exact List.pairwise_iff_getElem.1 h i j hi hj hij
def cmpI (a b : Int) : Int := if a < b then -1 else if b < a then 1 else 0
theorem NaNI_ok (a : Int) : ECalls Tryz.prog 190 [I .i64 a] [] fun y H' => H' = [] ∧ y = .lit (.bool false) := by
 refine ecalls k_NaNI ?_
 simp [c_NaNI, I]
 exact fin0
theorem CmpI_ok (a b : Int) : ECalls Tryz.prog 152 [I .i64 a, I .i64 b] [] fun y H' => H' = [] ∧ y = I .i64 (cmpI a b) := by
 refine ecalls k_CmpI ?_
 simp [c_CmpI, I]
 refine call0 (NaNI_ok a) (by simp [Ptr, I, EV.lit]) ?_
 rintro y H' ⟨rfl, rfl⟩
 refine ⟨.inl (by simp [Ptr, I, EV.lit]), le_ok rfl, ?_⟩
 simp [Ptr, I, EV.lit]
 refine call0 (NaNI_ok b) (by simp [Ptr, I, EV.lit]) ?_
 rintro y H' ⟨rfl, rfl⟩
 refine ⟨.inl (by simp [Ptr, I, EV.lit]), le_ok rfl, ?_⟩
 simp [Ptr, I, EV.lit]
 refine alt (fun h => ?_) (fun h => ?_)
 ·have e : cmpI a b = -1 := if_pos h
  rw [e]
  simp
  exact fin0
 simp
 refine alt (fun h2 => ?_) (fun h2 => ?_)
 ·have e : cmpI a b = 1 := by unfold cmpI; rw [if_neg h, if_pos h2]
  rw [e]
  simp
  exact fin0
 ·have e : cmpI a b = 0 := by unfold cmpI; rw [if_neg h, if_neg h2]
  rw [e]
  simp
  exact fin0
theorem Sslots_ok (s : Sta) (hs : s.ok) : ECalls Tryz.prog 91 [SV s] [] fun y H' => H' = [] ∧ y = I .i64 ((s.pays.length + s.holds.length : Nat) : Int) := by
 obtain ⟨ok1, ok2, ok3, ok4, ok5, ok6, ok7⟩ := id hs
 have w : IntKind.i64.wrap ((s.pays.length : Int) + (s.holds.length : Int)) = ((s.pays.length + s.holds.length : Nat) : Int) := by rw [wrap_i64 (by omega) (by omega)]; omega
 refine ecalls k_Sslots ?_
 simp [c_Sslots, SV, staC, I, w, -Int.natCast_add]
 exact fin0
def sideS (s : Sta) (k : Int) : Int := if k = 0 then s.h0 else s.h1
@[simp] theorem errV_9 : Value.iface 132 (.int .i64 9) = errV 9 := rfl
@[simp] theorem errV_30 : Value.iface 132 (.int .i64 30) = errV 30 := rfl
@[simp] theorem errV_8 : Value.iface 132 (.int .i64 8) = errV 8 := rfl
variable {α : Type}
def insA (f : α → Int) (l : List α) (a : α) : List α := l.take (posI (l.map f) (f a)) ++ a :: l.drop (posI (l.map f) (f a))
def delA (f : α → Int) (l : List α) (x : Int) : List α := l.take (posI (l.map f) x) ++ l.drop (posI (l.map f) x + 1)
theorem posA_le (f : α → Int) (l : List α) (x : Int) : posI (l.map f) x ≤ l.length := by have := posI_le (l.map f) x; simpa using this
theorem len_ins (f : α → Int) (l : List α) (a : α) : (insA f l a).length = l.length + 1 := by
 have := posA_le f l (f a)
 simp [insA]; omega
theorem len_del {f : α → Int} {l : List α} {x : Int} {b : α} (h : l[posI (l.map f) x]? = some b) : (delA f l x).length = l.length - 1 := by
 have hlt := lt_len h
 simp [delA]; omega
theorem fnd_get {f : α → Int} {l : List α} {x : Int} (h : fndI (l.map f) x = true) : ∃ b, l[posI (l.map f) x]? = some b ∧ f b = x := by
 have h2 : (l.map f)[posI (l.map f) x]? = some x := of_decide_eq_true h
 rw [List.getElem?_map, Option.map_eq_some_iff] at h2
 exact h2
theorem ecalls_frz {P : Program} {f : FuncId} {args : List EV} {ty es : Nat} {xs : List (List FV)} (h : ECalls P f args [] fun y H' => H' = [some (.row ty es xs)] ∧ y = .v (.c (.row 0 xs.length))) : ECalls P f args [] fun y H' => H' = [] ∧ y = .v (.c (.fz (.sl es xs))) := by
 intro ρ Φ w vals r ha
 refine (h ρ Φ w vals r ha).mono ?_
 rintro e w' ⟨y, H', v, ρ', Φ', he, ⟨rfl, rfl⟩, hlen, hv, hr⟩
 have hw := weak_frz (m := 0) (n := 1) (T := [.v (.c (.row 0 xs.length))]) (H := ofO [some (.row ty es xs)]) (o := 0) (ty := ty) (es := es) (xs := xs) rfl
 obtain ⟨⟨X, hX, r1, a1, _, _⟩, _⟩ := hw w ρ Φ { tmps := #[v], defers := [] } w' ⟨⟨⟨fun o => o < 1, ρ', Φ', w'⟩, rfl, hr, All2.cons hv All2.nil, rfl, fun i hi => hi⟩, Nat.zero_le _⟩
 obtain ⟨XU, Xρ, XΦ, Xw⟩ := X
 obtain rfl : Xw = w' := hX
 refine ⟨_, [], v, Xρ, XΦ, he, ⟨rfl, rfl⟩, Nat.zero_le _, ?_, ?_⟩
 ·have := a1.head
  simp at this
  exact this
 ·refine ⟨r1.os, r1.tape, r1.output, r1.size, r1.block, fun o ho => absurd ho (Nat.not_lt_zero _), ?_, ?_, ?_, ?_, r1.fro, r1.phi, r1.glob⟩
  ·intro o x hx; simp [ofO] at hx
  ·intro o o' x x' b hx; simp [ofO] at hx
  ·intro o x b hx; simp [ofO] at hx
  ·intro o x b hx; simp [ofO] at hx
theorem ecalls_thaw {P : Program} {f : FuncId} {args args' : List EV} {ty es : Nat} {xs : List (List FV)} {post : EV → Prop} (h : ECalls P f args' [] fun y H' => H' = [] ∧ post y)
  (hc : conArgs (fun _ => none) [] (args.map (fzEV 0 es xs)) = some args') : ECalls P f args [.row ty es xs] fun y H' => H' = [none] ∧ post y := by
 intro ρ Φ w vals r ha
 have hw := weak_frz (m := 1) (n := 1) (T := args) (H := ofL [.row ty es xs]) (o := 0) (ty := ty) (es := es) (xs := xs) rfl
 obtain ⟨⟨X, hX, r1, a1, _, hU⟩, _⟩ := hw w ρ Φ { tmps := vals.toArray, defers := [] } w ⟨⟨⟨fun o => o < 1, ρ, Φ, w⟩, rfl, r, by simpa using ha, rfl, fun i hi => hi⟩, Nat.le_refl _⟩
 obtain ⟨XU, Xρ, XΦ, Xw⟩ := X
 obtain rfl : Xw = w := hX
 have hH : (fun i => if i = 0 then none else (ofL [EO.row ty es xs] i).map (fzEO 0 es xs)) = fun _ => none := by
  funext i
  rcases i with _ | i <;> simp [ofL]
 simp only at r1
 rw [hH] at r1
 have ra : Rel Xw 0 Xρ XΦ (ofL []) ⟨fun o => o < 0, Xρ, XΦ, Xw⟩ := by
  refine ⟨rfl, rfl, rfl, Nat.le_refl _, fun _ _ _ => rfl, fun _ _ => rfl, ?_, ?_, ?_, ?_, r1.fro, fun b hb => .inl hb, r1.glob⟩
  ·intro o x hx; simp [ofL] at hx
  ·intro o o' x x' b hx; simp [ofL] at hx
  ·intro o x b hx; simp [ofL] at hx
  ·intro o x b hx; simp [ofL] at hx
 have hi : Into ⟨XU, Xρ, XΦ, Xw⟩ ⟨fun o => o < 0, Xρ, XΦ, Xw⟩ [] := by
  constructor <;> simp
 have a2 := conArgs_spec r1 hi hc (fun o _ y b hy => by simp at hy) (by simpa using a1)
 refine (h Xρ XΦ Xw vals ra a2).mono ?_
 rintro e w' ⟨y, H', v, ρ', Φ', he, ⟨rfl, hp⟩, hlen, hv, hr⟩
 have hl : Later ⟨fun o => o < 0, ρ', Φ', w'⟩ ⟨fun o => o < 1, ρ, Φ', w'⟩ := ⟨fun o ho => absurd ho (Nat.not_lt_zero _), fun o ho => absurd ho (Nat.not_lt_zero _), fun _ h => h, fun _ _ => rfl⟩
 refine ⟨y, [none], v, ρ, Φ', he, ⟨rfl, hp⟩, Nat.le_refl _, hl.vv hv, ?_⟩
 refine ⟨hr.os, hr.tape, hr.output, hr.size, ?_, fun _ _ => rfl, ?_, ?_, ?_, ?_, hr.fro, ?_, hr.glob⟩
 ·intro b hb1 hn
  exact hr.block b hb1 fun o ho => absurd ho (Nat.not_lt_zero _)
 ·intro o x hx; rcases o with _ | o <;> simp [ofO] at hx
 ·intro o o' x x' b hx; rcases o with _ | o <;> simp [ofO] at hx
 ·intro o x b hx; rcases o with _ | o <;> simp [ofO] at hx
 ·intro o x b hx; rcases o with _ | o <;> simp [ofO] at hx
 ·intro b hb1
  rcases hr.phi b hb1 with h3 | h3 | ⟨o', h3, h4⟩
  ·exact r1.phi b h3
  ·exact .inr (.inl h3)
  ·exact absurd h3 (Nat.not_lt_zero _)
@[simp] theorem conAll_holC (H : Nat → Option EO) (ids : List Nat) (p : Hol) : conAll H ids (holC p) = some (holC p) := by simp [holC]
@[simp] theorem strAll_holC (ids : List Nat) (p : Hol) : strAll ids (holC p) = some (holC p) := by simp [holC, strAll, strC]
@[simp] theorem frzAll_holC (p : Hol) : frzAll (holC p) = some (holF p) := by simp [holC, holF, frzAll, frz]
@[simp] theorem refs_holC (p : Hol) : (holC p).flatMap refsC = [] := by simp [holC]
@[simp] theorem fz_holC (ids : List Nat) (p : Hol) : (holC p).flatMap (fzC ids) = [] := by simp [holC]
@[simp] theorem ren_holC (g : Nat → Nat) (p : Hol) : (holC p).map (renC g) = holC p := by simp [holC]
theorem holL_lo : ∀ {o : Option Int} {l : List Hol}, holL o l = true → ∀ p ∈ l, ∀ q, o = some q → q < p.id
 | o, [], _, p, hp, q, _ => by simp at hp
 | o, a :: r, h, p, hp, q, hq => by
  simp only [holL, Bool.and_eq_true] at h
  have ha : q < a.id := by
   have := h.1.2
   rw [hq] at this
   exact of_decide_eq_true this
  rcases List.mem_cons.1 hp with rfl | hp
  ·exact ha
  ·have := holL_lo h.2 p hp a.id rfl
   omega
theorem holL_pw : ∀ {o : Option Int} {l : List Hol}, holL o l = true → (l.map (·.id)).Pairwise (· < ·)
 | o, [], _ => by simp
 | o, a :: r, h => by
  simp only [holL, Bool.and_eq_true] at h
  simp only [List.map_cons, List.pairwise_cons]
  refine ⟨?_, holL_pw h.2⟩
  intro y hy
  obtain ⟨p, hp, rfl⟩ := List.mem_map.1 hy
  exact holL_lo h.2 p hp a.id rfl
theorem holL_mem : ∀ {o : Option Int} {l : List Hol}, holL o l = true → ∀ p ∈ l, mayH p = true
 | o, [], _, p, hp => by simp at hp
 | o, q :: r, h, p, hp => by
  simp only [holL, Bool.and_eq_true] at h
  rcases List.mem_cons.1 hp with rfl | hp
  ·exact h.1.1
  ·exact holL_mem h.2 p hp
def keeS (s : Sta) (who : Int) (h : Hol) : Sta × Nat :=
 if (nxt s).2 ≠ 0 then (zSta, 1) else if ¬ (who = 0 ∨ who = 1) then (zSta, 33) else if h.am < 10 then (zSta, 27) else if mayH h = false then (zSta, 1)
 else if fndI (s.holds.map (·.id)) h.id = true then (zSta, 9) else if 8 ≤ s.pays.length + s.holds.length then (zSta, 30) else if sideS s who < h.am then (zSta, 20)
 else (⟨s.num + 1, if who = 0 then s.h0 - h.am else s.h0, if who = 0 then s.h1 else s.h1 - h.am, s.pays, insA Hol.id s.holds h⟩, 0)
theorem holv_ins (l : List Hol) (h : Hol) : holv (insA Hol.id l h) = (holv l).take (posI (l.map (·.id)) h.id) ++ holF h :: (holv l).drop (posI (l.map (·.id)) h.id) := by simp [holv, insA]
theorem holv_del (l : List Hol) (x : Int) : holv (delA Hol.id l x) = (holv l).take (posI (l.map (·.id)) x) ++ (holv l).drop (posI (l.map (·.id)) x + 1) := by simp [holv, delA]
theorem hc0' (h : Hol) : holC h = [.fz (.lit (.int .i64 h.id)), .fz (.lit (.int .i64 h.am)), .fz (.sl 1 (intv h.keys))] := rfl
def freS (s : Sta) (x a : Int) : Sta × Nat :=
 if (nxt s).2 ≠ 0 then (zSta, 1) else match s.holds[posI (s.holds.map (·.id)) x]? with
 | none => (zSta, 8)
 | some h => if h.id ≠ x then (zSta, 8) else if a < 0 ∨ h.am < a then (zSta, 20) else (⟨s.num + 1, s.h0 + a, s.h1 + (h.am - a), s.pays, delA Hol.id s.holds x⟩, 0)
theorem holL_sum : ∀ {o : Option Int} {l : List Hol}, holL o l = true → ∀ p ∈ l, p.am ≤ sumH l
 | o, [], _, p, hp => by simp at hp
 | o, a :: r, h, p, hp => by
  simp only [holL, Bool.and_eq_true] at h
  have h1 := mayH_am h.1.1
  have h2 := sumH_nn h.2
  have e : sumH (a :: r) = a.am + sumH r := by simp [sumH]
  rcases List.mem_cons.1 hp with rfl | hp
  ·omega
  ·have := holL_sum h.2 p hp
   omega
end Go.Proofs.YtejjhgdnmknejaaGreatDoor
