import Derived.Test.YtpilpjameifcfaaDoorAll9
namespace Go.Proofs.YtpilpjameifcfaaDoor
open Go Go.EW
set_option linter.unusedSimpArgs false
set_option linter.unusedVariables false

@[simp] def l_Wlays_1 (_ : Unit) : List EOp := [⟨0, (some 2), none, (.q (.box 39 (.t 0))), []⟩, ⟨1, (some 3), none, (.q (.box 3 (.t 1))), []⟩, ⟨2, (some 4), none, (.q (.mov (.k (.int .i64 0)))), []⟩]
@[simp] def b_Wlays_2 (_ : Unit) : EB := reg0 (hid l_Wlays_1) 3
@[simp] def l_Wlays_3 (_ : Unit) : List EOp := [⟨0, (some 6), none, (.q (.fad 3 (.t 2))), []⟩, ⟨1, (some 7), none, (.q (.ldc (.t 6))), []⟩, ⟨2, (some 8), none, (.q (.mkf 53 [(.t 3)])), []⟩, ⟨3, (some 9), none, (.call 52 [(.t 7), (.t 8)]), []⟩, ⟨4, (some 5), none, (.q (.mov (.t 9))), []⟩]
@[simp] def b_Wlays_4 (_ : Unit) : EB := reg0 (hid l_Wlays_3) 5
@[simp] def l_Wlays_5 (_ : Unit) : List EOp := [⟨0, (some 10), none, (.q (.mov (.t 5))), []⟩, ⟨1, (some 11), none, (.q (.bin .lss (.t 10) (.k (.int .i64 0)))), []⟩]
@[simp] def b_Wlays_6 (_ : Unit) : EB := reg0 (hid l_Wlays_5) 2
@[simp] def l_Wlays_7 (_ : Unit) : List EOp := [⟨0, (some 4), none, (.q (.mov (.k (.int .i64 (-1))))), []⟩]
@[simp] def b_Wlays_8 (_ : Unit) : EB := reg0 (hid l_Wlays_7) 1
@[simp] def b_Wlays_9 (_ : Unit) : EB := .seq (hid b_Wlays_8) .ret
@[simp] def b_Wlays_10 (_ : Unit) : EB := .cond (.t 11) (hid b_Wlays_9) .skip
@[simp] def b_Wlays_11 (_ : Unit) : EB := .seq (hid b_Wlays_6) (hid b_Wlays_10)
@[simp] def l_Wlays_13 (_ : Unit) : List EOp := [⟨6, (some 4), none, (.q (.mov (.t 17))), []⟩]
@[simp] def l_Wlays_12 (_ : Unit) : List EOp := ⟨0, (some 12), none, (.q (.fad 3 (.t 2))), []⟩ :: ⟨1, (some 13), none, (.q (.ldc (.t 12))), []⟩ :: ⟨2, (some 14), none, (.q (.mov (.t 5))), []⟩ :: ⟨3, (some 15), none, (.q (.isl 36 (.t 13) (.t 14))), []⟩ :: ⟨4, (some 16), none, (.q (.fad 1 (.t 15))), []⟩ :: ⟨5, (some 17), none, (.q (.ldc (.t 16))), []⟩ :: hid l_Wlays_13
@[simp] def b_Wlays_14 (_ : Unit) : EB := reg0 (hid l_Wlays_12) 7
@[simp] def b_Wlays_15 (_ : Unit) : EB := .seq (hid b_Wlays_14) .ret
@[simp] def b_Wlays_16 (_ : Unit) : EB := .seq (hid b_Wlays_11) (hid b_Wlays_15)
@[simp] def b_Wlays_17 (_ : Unit) : EB := .seq (hid b_Wlays_4) (hid b_Wlays_16)
@[simp] def b_Wlays_18 (_ : Unit) : EB := .seq (hid b_Wlays_2) (hid b_Wlays_17)
def c_Wlays : EB × List QOp × Nat := ((hid b_Wlays_18), [(.mov (.t 4))], 18)
theorem k_Wlays : cfun Tryd.prog 23 = some c_Wlays := by kernel_rfl

@[simp] def l_lays1_1 (_ : Unit) : List EOp := [⟨0, (some 2), none, (.q (.box 45 (.t 0))), []⟩, ⟨1, (some 3), none, (.q (.mov (.k (.bool false)))), []⟩]
@[simp] def b_lays1_2 (_ : Unit) : EB := reg0 (hid l_lays1_1) 2
@[simp] def l_lays1_3 (_ : Unit) : List EOp := [⟨0, (some 4), none, (.q (.fad 0 (.t 2))), []⟩, ⟨1, (some 5), none, (.q (.ldc (.t 4))), []⟩, ⟨2, (some 6), none, (.q (.ldc (.t 1))), []⟩, ⟨3, (some 7), none, (.q (.bin .eql (.t 5) (.t 6))), []⟩, ⟨4, (some 3), none, (.q (.mov (.t 7))), []⟩]
@[simp] def b_lays1_4 (_ : Unit) : EB := reg0 (hid l_lays1_3) 5
@[simp] def b_lays1_5 (_ : Unit) : EB := .seq (hid b_lays1_4) .ret
@[simp] def b_lays1_6 (_ : Unit) : EB := .seq (hid b_lays1_2) (hid b_lays1_5)
def c_lays1 : EB × List QOp × Nat := ((hid b_lays1_6), [(.mov (.t 3))], 8)
theorem k_lays1 : cfun Tryd.prog 53 = some c_lays1 := by kernel_rfl

@[simp] def l_IdxP_1 (_ : Unit) : List EOp := [⟨0, (some 4), none, (.q (.mov (.k (.int .i64 0)))), []⟩]
@[simp] def b_IdxP_2 (_ : Unit) : EB := reg0 (hid l_IdxP_1) 1
@[simp] def l_IdxP_3 (_ : Unit) : List EOp := [⟨0, (some 6), none, (.q (.mov (.t 0))), []⟩, ⟨1, (some 7), none, (.q (.len (.t 6))), []⟩, ⟨2, (some 8), none, (.q (.mov (.k (.int .i64 0)))), []⟩]
@[simp] def b_IdxP_4 (_ : Unit) : EB := reg0 (hid l_IdxP_3) 3
@[simp] def l_IdxP_5 (_ : Unit) : List EOp := [⟨0, (some 9), none, (.q (.bin .lss (.t 8) (.t 7))), []⟩]
@[simp] def b_IdxP_6 (_ : Unit) : EB := reg0 (hid l_IdxP_5) 1
@[simp] def b_IdxP_7 (_ : Unit) : EB := .cond (.t 9) .skip (.exit 0)
@[simp] def l_IdxP_8 (_ : Unit) : List EOp := [⟨0, (some 10), none, (.q (.mov (.t 8))), []⟩, ⟨1, (some 5), none, (.q (.mov (.t 10))), []⟩]
@[simp] def b_IdxP_9 (_ : Unit) : EB := reg0 (hid l_IdxP_8) 2
@[simp] def l_IdxP_10 (_ : Unit) : List EOp := [⟨0, (some 11), none, (.q (.mov (.t 1))), []⟩, ⟨1, (some 12), none, (.q (.mov (.t 0))), []⟩, ⟨2, (some 13), none, (.q (.mov (.t 5))), []⟩, ⟨3, (some 14), none, (.q (.isl 36 (.t 12) (.t 13))), []⟩, ⟨4, (some 15), none, (.q (.lda 36 (.t 14))), []⟩, ⟨5, (some 16), none, (.clo (.t 11) [(.t 15)]), []⟩]
@[simp] def b_IdxP_11 (_ : Unit) : EB := reg0 (hid l_IdxP_10) 6
@[simp] def l_IdxP_12 (_ : Unit) : List EOp := [⟨0, (some 17), none, (.q (.mov (.t 5))), []⟩, ⟨1, (some 4), none, (.q (.mov (.t 17))), []⟩]
@[simp] def b_IdxP_13 (_ : Unit) : EB := reg0 (hid l_IdxP_12) 2
@[simp] def b_IdxP_14 (_ : Unit) : EB := .seq (hid b_IdxP_13) .ret
@[simp] def b_IdxP_15 (_ : Unit) : EB := .cond (.t 16) (hid b_IdxP_14) .skip
@[simp] def b_IdxP_16 (_ : Unit) : EB := .seq (hid b_IdxP_11) (hid b_IdxP_15)
@[simp] def b_IdxP_17 (_ : Unit) : EB := .seq (hid b_IdxP_9) (hid b_IdxP_16)
@[simp] def b_IdxP_18 (_ : Unit) : EB := .block 1 (hid b_IdxP_17)
@[simp] def l_IdxP_19 (_ : Unit) : List EOp := [⟨0, (some 18), none, (.q (.bin .add (.t 8) (.k (.int .i64 1)))), []⟩, ⟨1, (some 8), none, (.q (.mov (.t 18))), []⟩]
@[simp] def b_IdxP_20 (_ : Unit) : EB := reg0 (hid l_IdxP_19) 2
@[simp] def b_IdxP_21 (_ : Unit) : EB := .seq (hid b_IdxP_18) (hid b_IdxP_20)
@[simp] def b_IdxP_22 (_ : Unit) : EB := .seq (hid b_IdxP_7) (hid b_IdxP_21)
@[simp] def b_IdxP_23 (_ : Unit) : EB := .seq (hid b_IdxP_6) (hid b_IdxP_22)
@[simp] def b_IdxP_24 (_ : Unit) : EB := .loop (hid b_IdxP_23)
@[simp] def b_IdxP_25 (_ : Unit) : EB := .block 0 (hid b_IdxP_24)
@[simp] def b_IdxP_26 (_ : Unit) : EB := .seq (hid b_IdxP_4) (hid b_IdxP_25)
@[simp] def l_IdxP_27 (_ : Unit) : List EOp := [⟨0, (some 4), none, (.q (.mov (.k (.int .i64 (-1))))), []⟩]
@[simp] def b_IdxP_28 (_ : Unit) : EB := reg0 (hid l_IdxP_27) 1
@[simp] def b_IdxP_29 (_ : Unit) : EB := .seq (hid b_IdxP_28) .ret
@[simp] def b_IdxP_30 (_ : Unit) : EB := .seq (hid b_IdxP_26) (hid b_IdxP_29)
@[simp] def b_IdxP_31 (_ : Unit) : EB := .seq (hid b_IdxP_2) (hid b_IdxP_30)
def c_IdxP : EB × List QOp × Nat := ((hid b_IdxP_31), [(.mov (.t 4))], 19)
theorem k_IdxP : cfun Tryd.prog 52 = some c_IdxP := by kernel_rfl


/-- The first payment of a number. -/
def layI : List Pay → Int → Option Pay
  | [], _ => none
  | p :: r, x => if p.id = x then some p else layI r x
/-- A state behind what a side does; the error. -/
def doS (s : Sta) (side : Int) (o : WOp) : Sta × Nat :=
  if ¬ (mayS s = true ∧ (side = 0 ∨ side = 1) ∧ 1 ≤ o.kind ∧ o.kind ≤ 4) then (zSta, 1)
  else if o.kind = 1 then moveS s side o.am
  else if o.kind = 2 then if o.pay.fr ≠ side then (zSta, 33) else addP s o.pay
  else match layI s.pays o.id with
  | none => (zSta, 8)
  | some p => if p.fr = side then (zSta, 33) else if o.kind = 3 then setS s o.id o.sec else falS s o.id
theorem layI_mem : ∀ {l : List Pay} {x : Int} {p : Pay}, layI l x = some p → p ∈ l ∧ p.id = x
  | [], x, p, h => by simp [layI] at h
  | a :: r, x, p, h => by
    unfold layI at h
    split at h
    · rename_i e
      obtain rfl := Option.some.inj h
      exact ⟨List.mem_cons_self, e⟩
    · obtain ⟨h1, h2⟩ := layI_mem h
      exact ⟨List.mem_cons_of_mem _ h1, h2⟩
theorem layI_at : ∀ {l : List Pay} {x : Int} {i : Nat} {p : Pay}, (∀ (k : Nat) (q : Pay), k < i → l[k]? = some q → q.id ≠ x) → l[i]? = some p → p.id = x → layI l x = some p
  | [], x, i, p, h, hi, e => by simp at hi
  | a :: r, x, 0, p, h, hi, e => by
    simp only [List.getElem?_cons_zero, Option.some.injEq] at hi
    subst hi
    simp [layI, e]
  | a :: r, x, i + 1, p, h, hi, e => by
    have h0 := h 0 a (Nat.succ_pos i) (by simp)
    unfold layI
    rw [if_neg h0]
    exact layI_at (i := i) (fun k q hk hq => h (k + 1) q (by omega) (by simpa using hq)) (by simpa using hi) e
theorem layI_no : ∀ {l : List Pay} {x : Int}, (∀ (k : Nat) (q : Pay), l[k]? = some q → q.id ≠ x) → layI l x = none
  | [], x, h => rfl
  | a :: r, x, h => by
    unfold layI
    rw [if_neg (h 0 a (by simp))]
    exact layI_no fun k q hq => h (k + 1) q (by simpa using hq)

/-- A number in a box. -/
def BX (x : Int) : EO := .box 3 [.fz (.lit (.int .i64 x))]
theorem lays1_ok (p : Pay) (x : Int) (hp : p.ok) : ECalls Tryd.prog 53 [.v (.agg (payC p)), .v (.c (.ptr 0 0))] [BX x] fun y H' => H' = [some (BX x)] ∧ y = .lit (.bool (decide (p.id = x))) := by
  have hpt := payC_take hp.2.2.2.2
  refine ecalls k_lays1 ?_
  simp [c_lays1, BX, hpt, pc0, pe0]
  exact fin [] (by decide) rfl rfl (by simp [objsOut, show List.range 1 = [0] from rfl]) ⟨rfl, rfl⟩
theorem lays1_body : bodyOK Tryd.prog 53 = true := by kernel_rfl

set_option maxHeartbeats 2000000 in
theorem IdxP_ok (l : List Pay) (x : Int) (hl : ∀ p ∈ l, p.ok) (hn : l.length ≤ 100000000) : ECalls Tryd.prog 52 [PL l, .v (.c (.clo 53 [(0, 0)]))] [BX x] fun y H' => H' = [some (BX x)] ∧ ((layI l x = none ∧ y = I .i64 (-1)) ∨ ∃ (i : Nat) (p : Pay), l[i]? = some p ∧ layI l x = some p ∧ y = I .i64 i) := by
  refine ecalls k_IdxP ?_
  simp [c_IdxP, PL, I]
  refine eloop (α := Nat) (fun i => i ≤ l.length ∧ ∀ (k : Nat) (q : Pay), k < i → l[k]? = some q → q.id ≠ x) (fun i => l.length - i)
    (fun i => [PL l, .v (.c (.clo 53 [(0, 0)])), .any, .any, .any, .any, .any, I .i64 l.length, I .i64 i, .any, .any, .any, .any, .any, .any, .any, .any, .any, .any]) (fun _ => [some (BX x)]) 0 [0]
    ⟨Nat.zero_le _, fun k q h => by omega⟩ (by simp [I, PL]) (by simp [BX]) (by simp [BX]) (by simp) (by simp) ?_
  rintro i ⟨hi, hlo⟩
  simp [I, PL, BX]
  refine alt (fun hlt => ?_) (fun hlt => ?_)
  · have hln : i < l.length := by omega
    obtain ⟨p, hc⟩ : ∃ p, l[i]? = some p := ⟨l[i], by simp [hln]⟩
    have hge : (payv l)[i]'(by simp [hln]) = payF p := by
      have e := payv_get hc
      rw [List.getElem?_eq_getElem (by simp [hln])] at e
      exact Option.some.inj e
    have w4 : IntKind.i64.wrap ((i : Int) + 1) = ((i + 1 : Nat) : Int) := wrap_i64 (by omega) (by omega)
    have hpo := hl p (List.mem_of_getElem? hc)
    have hfl := payF_len hpo.2.2.2.2
    have hpt := payC_take hpo.2.2.2.2
    have hpl := payC_len hpo.2.2.2.2
    simp [hln, hge, hfl, payF_fz, hpt, hpl]
    refine ⟨lays1_body, ?_⟩
    refine callH [0] (lays1_ok p x hpo) (by simp) (by simp [BX]) (by simp) (by simp) (by simp) ?_
    rintro y H' ⟨rfl, rfl⟩
    refine ⟨.inl (by simp [-List.flatMap_eq_nil_iff, I]), by simp, ?_⟩
    simp [BX]
    refine alt (fun he => ?_) (fun he => ?_)
    · simp
      exact fin [] (by decide) rfl rfl (by simp [objsOut, show List.range 1 = [0] from rfl]) ⟨rfl, .inr ⟨i, p, hc, layI_at hlo hc he, rfl⟩⟩
    · simp [w4, -Int.natCast_add]
      refine round (i + 1) [0] ⟨by omega, ?_⟩ (by omega) (by simp) (by simp) (by simp) (by simp) (by simp)
      intro k q hk hq
      rcases Nat.lt_or_ge k i with h1 | h1
      · exact hlo k q h1 hq
      · obtain rfl : k = i := by omega
        rw [hc] at hq
        obtain rfl := Option.some.inj hq
        exact he
  · simp
    exact fin [] (by decide) rfl rfl (by simp [objsOut, show List.range 1 = [0] from rfl]) ⟨rfl, .inl ⟨layI_no fun k q hq => hlo k q (by have := lt_len hq; omega) hq, rfl⟩⟩

theorem lays_ok (s : Sta) (x : Int) (hs : s.ok) : ECalls Tryd.prog 23 [SV s, I .i64 x] [] fun y H' => H' = [] ∧ y = I .i64 (match layI s.pays x with | none => -1 | some p => p.fr) := by
  obtain ⟨ok1, ok2, ok3, ok4, ok5, ok6, ok7⟩ := id hs
  refine ecalls k_Wlays ?_
  simp [c_Wlays, SV, staC, I]
  refine callH [16] (IdxP_ok s.pays x ok4 ok6) (by simp [PL]) (by simp [BX]) (by simp) (by simp) (by simp) ?_
  rintro y H' ⟨rfl, h⟩
  rcases h with ⟨h, rfl⟩ | ⟨i, p, hc, h, rfl⟩
  · refine ⟨.inl (by simp [I]), by simp, ?_⟩
    rw [h]
    simp [I]
    exact fin [] (by decide) rfl rfl rfl ⟨rfl, rfl⟩
  · refine ⟨.inl (by simp [I]), by simp, ?_⟩
    have hln := lt_len hc
    have hge : (payv s.pays)[i]'(by simp [hln]) = payF p := by
      have e := payv_get hc
      rw [List.getElem?_eq_getElem (by simp [hln])] at e
      exact Option.some.inj e
    have n0 : ¬ ((i : Int) < 0) := by omega
    rw [h]
    simp [I, n0, hln, hge, payF]
    exact fin [] (by decide) rfl rfl rfl ⟨rfl, rfl⟩

end Go.Proofs.YtpilpjameifcfaaDoor

namespace Go.Proofs.YtpilpjameifcfaaDoor
open Go Go.EW
set_option linter.unusedSimpArgs false
set_option linter.unusedVariables false

@[simp] def l_WDo_1 (_ : Unit) : List EOp := [⟨0, (some 3), none, (.q (.box 39 (.t 0))), []⟩, ⟨1, (some 5), none, (.q (.box 47 (.t 2))), []⟩, ⟨2, (some 6), none, (.q (.alloc 39 [(.int .i64 0), (.int .i64 0), (.int .i64 0), (.slice none 0 0), (.slice none 0 0)])), []⟩, ⟨3, (some 7), none, (.q (.mov (.k .nilIface))), []⟩]
@[simp] def b_WDo_2 (_ : Unit) : EB := reg0 (hid l_WDo_1) 4
@[simp] def l_WDo_6 (_ : Unit) : List EOp := [⟨18, (some 26), (some (24, false)), (.q (.ldc (.t 25))), []⟩, ⟨19, (some 27), (some (24, false)), (.q (.bin .gtr (.t 26) (.k (.int .i64 4)))), []⟩, ⟨20, (some 28), none, (.q (.pick (.t 24) (.k (.bool true)) (.t 27))), []⟩]
@[simp] def l_WDo_5 (_ : Unit) : List EOp := ⟨12, (some 20), (some (19, false)), (.q (.fad 0 (.t 5))), []⟩ :: ⟨13, (some 21), (some (19, false)), (.q (.ldc (.t 20))), []⟩ :: ⟨14, (some 22), (some (19, false)), (.q (.bin .lss (.t 21) (.k (.int .i64 1)))), []⟩ :: ⟨15, (some 23), none, (.q (.pick (.t 19) (.k (.bool true)) (.t 22))), []⟩ :: ⟨16, (some 24), none, (.q (.mov (.t 23))), []⟩ :: ⟨17, (some 25), (some (24, false)), (.q (.fad 0 (.t 5))), []⟩ :: hid l_WDo_6
@[simp] def l_WDo_4 (_ : Unit) : List EOp := ⟨6, (some 14), none, (.q (.pick (.t 11) (.k (.bool true)) (.t 13))), []⟩ :: ⟨7, (some 15), none, (.q (.mov (.t 14))), []⟩ :: ⟨8, (some 16), (some (15, false)), (.q (.mov (.t 1))), []⟩ :: ⟨9, (some 17), (some (15, false)), (.q (.bin .gtr (.t 16) (.k (.int .i64 1)))), []⟩ :: ⟨10, (some 18), none, (.q (.pick (.t 15) (.k (.bool true)) (.t 17))), []⟩ :: ⟨11, (some 19), none, (.q (.mov (.t 18))), []⟩ :: hid l_WDo_5
@[simp] def l_WDo_3 (_ : Unit) : List EOp := ⟨0, (some 8), none, (.q (.lda 5 (.t 3))), []⟩ :: ⟨1, (some 9), none, (.call 20 [(.t 8)]), []⟩ :: ⟨2, (some 10), none, (.q (.eqi true (.t 9))), []⟩ :: ⟨3, (some 11), none, (.q (.mov (.t 10))), []⟩ :: ⟨4, (some 12), (some (11, false)), (.q (.mov (.t 1))), []⟩ :: ⟨5, (some 13), (some (11, false)), (.q (.bin .lss (.t 12) (.k (.int .i64 0)))), []⟩ :: hid l_WDo_4
@[simp] def b_WDo_7 (_ : Unit) : EB := reg0 (hid l_WDo_3) 21
@[simp] def l_WDo_8 (_ : Unit) : List EOp := [⟨0, (some 29), none, (.q (.build [(.int .i64 0), (.int .i64 0), (.int .i64 0), (.slice none 0 0), (.slice none 0 0)] [])), []⟩, ⟨1, (some 30), none, (.q (.mki 73 (.k (.int .i64 1)))), []⟩, ⟨2, none, none, (.fz (.sto 5 (.t 6) (.t 29))), []⟩, ⟨3, (some 7), none, (.q (.mov (.t 30))), []⟩]
@[simp] def b_WDo_9 (_ : Unit) : EB := reg0 (hid l_WDo_8) 4
@[simp] def b_WDo_10 (_ : Unit) : EB := .seq (hid b_WDo_9) .ret
@[simp] def b_WDo_11 (_ : Unit) : EB := .cond (.t 28) (hid b_WDo_10) .skip
@[simp] def b_WDo_12 (_ : Unit) : EB := .seq (hid b_WDo_7) (hid b_WDo_11)
@[simp] def l_WDo_13 (_ : Unit) : List EOp := [⟨0, (some 31), none, (.q (.fad 0 (.t 5))), []⟩, ⟨1, (some 32), none, (.q (.ldc (.t 31))), []⟩]
@[simp] def b_WDo_14 (_ : Unit) : EB := reg0 (hid l_WDo_13) 2
@[simp] def l_WDo_15 (_ : Unit) : List EOp := [⟨0, (some 34), none, (.q (.bin .eql (.t 32) (.k (.int .i64 1)))), []⟩, ⟨1, (some 33), none, (.q (.mov (.t 34))), []⟩]
@[simp] def b_WDo_16 (_ : Unit) : EB := reg0 (hid l_WDo_15) 2
@[simp] def l_WDo_18 (_ : Unit) : List EOp := [⟨6, (some 41), none, (.q (.ext 1 (.t 39))), []⟩, ⟨7, none, none, (.fz (.sto 5 (.t 6) (.t 40))), []⟩, ⟨8, (some 7), none, (.q (.mov (.t 41))), []⟩]
@[simp] def l_WDo_17 (_ : Unit) : List EOp := ⟨0, (some 35), none, (.q (.lda 5 (.t 3))), []⟩ :: ⟨1, (some 36), none, (.q (.mov (.t 1))), []⟩ :: ⟨2, (some 37), none, (.q (.fad 1 (.t 5))), []⟩ :: ⟨3, (some 38), none, (.q (.ldc (.t 37))), []⟩ :: ⟨4, (some 39), none, (.call 21 [(.t 35), (.t 36), (.t 38)]), []⟩ :: ⟨5, (some 40), none, (.q (.ext 0 (.t 39))), []⟩ :: hid l_WDo_18
@[simp] def b_WDo_19 (_ : Unit) : EB := reg0 (hid l_WDo_17) 9
@[simp] def b_WDo_20 (_ : Unit) : EB := .seq (hid b_WDo_19) .ret
@[simp] def l_WDo_21 (_ : Unit) : List EOp := [⟨0, (some 43), none, (.q (.bin .eql (.t 32) (.k (.int .i64 2)))), []⟩, ⟨1, (some 42), none, (.q (.mov (.t 43))), []⟩]
@[simp] def b_WDo_22 (_ : Unit) : EB := reg0 (hid l_WDo_21) 2
@[simp] def l_WDo_23 (_ : Unit) : List EOp := [⟨0, (some 44), none, (.q (.fad 3 (.t 5))), []⟩, ⟨1, (some 45), none, (.q (.fad 1 (.t 44))), []⟩, ⟨2, (some 46), none, (.q (.ldc (.t 45))), []⟩, ⟨3, (some 47), none, (.q (.mov (.t 1))), []⟩, ⟨4, (some 48), none, (.q (.bin .neq (.t 46) (.t 47))), []⟩]
@[simp] def b_WDo_24 (_ : Unit) : EB := reg0 (hid l_WDo_23) 5
@[simp] def l_WDo_25 (_ : Unit) : List EOp := [⟨0, (some 49), none, (.q (.build [(.int .i64 0), (.int .i64 0), (.int .i64 0), (.slice none 0 0), (.slice none 0 0)] [])), []⟩, ⟨1, (some 50), none, (.q (.mki 73 (.k (.int .i64 33)))), []⟩, ⟨2, none, none, (.fz (.sto 5 (.t 6) (.t 49))), []⟩, ⟨3, (some 7), none, (.q (.mov (.t 50))), []⟩]
@[simp] def b_WDo_26 (_ : Unit) : EB := reg0 (hid l_WDo_25) 4
@[simp] def b_WDo_27 (_ : Unit) : EB := .seq (hid b_WDo_26) .ret
@[simp] def b_WDo_28 (_ : Unit) : EB := .cond (.t 48) (hid b_WDo_27) .skip
@[simp] def b_WDo_29 (_ : Unit) : EB := .seq (hid b_WDo_24) (hid b_WDo_28)
@[simp] def l_WDo_31 (_ : Unit) : List EOp := [⟨6, none, none, (.fz (.sto 5 (.t 6) (.t 55))), []⟩, ⟨7, (some 7), none, (.q (.mov (.t 56))), []⟩]
@[simp] def l_WDo_30 (_ : Unit) : List EOp := ⟨0, (some 51), none, (.q (.lda 5 (.t 3))), []⟩ :: ⟨1, (some 52), none, (.q (.fad 3 (.t 5))), []⟩ :: ⟨2, (some 53), none, (.q (.lda 36 (.t 52))), []⟩ :: ⟨3, (some 54), none, (.call 22 [(.t 51), (.t 53)]), []⟩ :: ⟨4, (some 55), none, (.q (.ext 0 (.t 54))), []⟩ :: ⟨5, (some 56), none, (.q (.ext 1 (.t 54))), []⟩ :: hid l_WDo_31
@[simp] def b_WDo_32 (_ : Unit) : EB := reg0 (hid l_WDo_30) 8
@[simp] def b_WDo_33 (_ : Unit) : EB := .seq (hid b_WDo_32) .ret
@[simp] def b_WDo_34 (_ : Unit) : EB := .seq (hid b_WDo_29) (hid b_WDo_33)
@[simp] def b_WDo_35 (_ : Unit) : EB := .cond (.t 42) (hid b_WDo_34) .skip
@[simp] def b_WDo_36 (_ : Unit) : EB := .seq (hid b_WDo_22) (hid b_WDo_35)
@[simp] def b_WDo_37 (_ : Unit) : EB := .cond (.t 33) (hid b_WDo_20) (hid b_WDo_36)
@[simp] def b_WDo_38 (_ : Unit) : EB := .seq (hid b_WDo_16) (hid b_WDo_37)
@[simp] def b_WDo_39 (_ : Unit) : EB := .block 0 (hid b_WDo_38)
@[simp] def b_WDo_40 (_ : Unit) : EB := .seq (hid b_WDo_14) (hid b_WDo_39)
@[simp] def l_WDo_41 (_ : Unit) : List EOp := [⟨0, (some 57), none, (.q (.lda 5 (.t 3))), []⟩, ⟨1, (some 58), none, (.q (.fad 2 (.t 5))), []⟩, ⟨2, (some 59), none, (.q (.ldc (.t 58))), []⟩, ⟨3, (some 60), none, (.call 23 [(.t 57), (.t 59)]), []⟩]
@[simp] def b_WDo_42 (_ : Unit) : EB := reg0 (hid l_WDo_41) 4
@[simp] def l_WDo_43 (_ : Unit) : List EOp := [⟨0, (some 62), none, (.q (.bin .eql (.t 60) (.k (.int .i64 (-1))))), []⟩, ⟨1, (some 61), none, (.q (.mov (.t 62))), []⟩]
@[simp] def b_WDo_44 (_ : Unit) : EB := reg0 (hid l_WDo_43) 2
@[simp] def l_WDo_45 (_ : Unit) : List EOp := [⟨0, (some 63), none, (.q (.build [(.int .i64 0), (.int .i64 0), (.int .i64 0), (.slice none 0 0), (.slice none 0 0)] [])), []⟩, ⟨1, (some 64), none, (.q (.mki 73 (.k (.int .i64 8)))), []⟩, ⟨2, none, none, (.fz (.sto 5 (.t 6) (.t 63))), []⟩, ⟨3, (some 7), none, (.q (.mov (.t 64))), []⟩]
@[simp] def b_WDo_46 (_ : Unit) : EB := reg0 (hid l_WDo_45) 4
@[simp] def b_WDo_47 (_ : Unit) : EB := .seq (hid b_WDo_46) .ret
@[simp] def l_WDo_48 (_ : Unit) : List EOp := [⟨0, (some 66), none, (.q (.mov (.t 1))), []⟩, ⟨1, (some 67), none, (.q (.bin .eql (.t 60) (.t 66))), []⟩, ⟨2, (some 65), none, (.q (.mov (.t 67))), []⟩]
@[simp] def b_WDo_49 (_ : Unit) : EB := reg0 (hid l_WDo_48) 3
@[simp] def l_WDo_50 (_ : Unit) : List EOp := [⟨0, (some 68), none, (.q (.build [(.int .i64 0), (.int .i64 0), (.int .i64 0), (.slice none 0 0), (.slice none 0 0)] [])), []⟩, ⟨1, (some 69), none, (.q (.mki 73 (.k (.int .i64 33)))), []⟩, ⟨2, none, none, (.fz (.sto 5 (.t 6) (.t 68))), []⟩, ⟨3, (some 7), none, (.q (.mov (.t 69))), []⟩]
@[simp] def b_WDo_51 (_ : Unit) : EB := reg0 (hid l_WDo_50) 4
@[simp] def b_WDo_52 (_ : Unit) : EB := .seq (hid b_WDo_51) .ret
@[simp] def b_WDo_53 (_ : Unit) : EB := .cond (.t 65) (hid b_WDo_52) .skip
@[simp] def b_WDo_54 (_ : Unit) : EB := .seq (hid b_WDo_49) (hid b_WDo_53)
@[simp] def b_WDo_55 (_ : Unit) : EB := .cond (.t 61) (hid b_WDo_47) (hid b_WDo_54)
@[simp] def b_WDo_56 (_ : Unit) : EB := .seq (hid b_WDo_44) (hid b_WDo_55)
@[simp] def b_WDo_57 (_ : Unit) : EB := .block 1 (hid b_WDo_56)
@[simp] def b_WDo_58 (_ : Unit) : EB := .seq (hid b_WDo_42) (hid b_WDo_57)
@[simp] def l_WDo_59 (_ : Unit) : List EOp := [⟨0, (some 70), none, (.q (.fad 0 (.t 5))), []⟩, ⟨1, (some 71), none, (.q (.ldc (.t 70))), []⟩, ⟨2, (some 72), none, (.q (.bin .eql (.t 71) (.k (.int .i64 3)))), []⟩]
@[simp] def b_WDo_60 (_ : Unit) : EB := reg0 (hid l_WDo_59) 3
@[simp] def l_WDo_62 (_ : Unit) : List EOp := [⟨6, (some 79), none, (.q (.ext 0 (.t 78))), []⟩, ⟨7, (some 80), none, (.q (.ext 1 (.t 78))), []⟩, ⟨8, none, none, (.fz (.sto 5 (.t 6) (.t 79))), []⟩, ⟨9, (some 7), none, (.q (.mov (.t 80))), []⟩]
@[simp] def l_WDo_61 (_ : Unit) : List EOp := ⟨0, (some 73), none, (.q (.lda 5 (.t 3))), []⟩ :: ⟨1, (some 74), none, (.q (.fad 2 (.t 5))), []⟩ :: ⟨2, (some 75), none, (.q (.ldc (.t 74))), []⟩ :: ⟨3, (some 76), none, (.q (.fad 39 (.t 5))), []⟩ :: ⟨4, (some 77), none, (.q (.ldc (.t 76))), []⟩ :: ⟨5, (some 78), none, (.call 24 [(.t 73), (.t 75), (.t 77)]), []⟩ :: hid l_WDo_62
@[simp] def b_WDo_63 (_ : Unit) : EB := reg0 (hid l_WDo_61) 10
@[simp] def b_WDo_64 (_ : Unit) : EB := .seq (hid b_WDo_63) .ret
@[simp] def b_WDo_65 (_ : Unit) : EB := .cond (.t 72) (hid b_WDo_64) .skip
@[simp] def b_WDo_66 (_ : Unit) : EB := .seq (hid b_WDo_60) (hid b_WDo_65)
@[simp] def l_WDo_68 (_ : Unit) : List EOp := [⟨6, none, none, (.fz (.sto 5 (.t 6) (.t 85))), []⟩, ⟨7, (some 7), none, (.q (.mov (.t 86))), []⟩]
@[simp] def l_WDo_67 (_ : Unit) : List EOp := ⟨0, (some 81), none, (.q (.lda 5 (.t 3))), []⟩ :: ⟨1, (some 82), none, (.q (.fad 2 (.t 5))), []⟩ :: ⟨2, (some 83), none, (.q (.ldc (.t 82))), []⟩ :: ⟨3, (some 84), none, (.call 25 [(.t 81), (.t 83)]), []⟩ :: ⟨4, (some 85), none, (.q (.ext 0 (.t 84))), []⟩ :: ⟨5, (some 86), none, (.q (.ext 1 (.t 84))), []⟩ :: hid l_WDo_68
@[simp] def b_WDo_69 (_ : Unit) : EB := reg0 (hid l_WDo_67) 8
@[simp] def b_WDo_70 (_ : Unit) : EB := .seq (hid b_WDo_69) .ret
@[simp] def b_WDo_71 (_ : Unit) : EB := .seq (hid b_WDo_66) (hid b_WDo_70)
@[simp] def b_WDo_72 (_ : Unit) : EB := .seq (hid b_WDo_58) (hid b_WDo_71)
@[simp] def b_WDo_73 (_ : Unit) : EB := .seq (hid b_WDo_40) (hid b_WDo_72)
@[simp] def b_WDo_74 (_ : Unit) : EB := .seq (hid b_WDo_12) (hid b_WDo_73)
@[simp] def b_WDo_75 (_ : Unit) : EB := .seq (hid b_WDo_2) (hid b_WDo_74)
def c_WDo : EB × List QOp × Nat := ((hid b_WDo_75), [(.lda 5 (.t 6)), (.mov (.t 7))], 87)
theorem k_WDo : cfun Tryd.prog 9 = some c_WDo := by kernel_rfl

@[simp] def l_sure_1 (_ : Unit) : List EOp := [⟨0, (some 0), none, (.q (.mov (.k (.bool false)))), []⟩]
@[simp] def b_sure_2 (_ : Unit) : EB := reg0 (hid l_sure_1) 1
@[simp] def l_sure_4 (_ : Unit) : List EOp := [⟨6, (some 9), none, (.q (.ext 1 (.t 3))), []⟩, ⟨7, (some 1), none, (.q (.alloc 39 [(.int .i64 0), (.int .i64 0), (.int .i64 0), (.slice none 0 0), (.slice none 0 0)])), []⟩, ⟨8, none, none, (.fz (.sto 5 (.t 1) (.t 8))), []⟩, ⟨9, (some 2), none, (.q (.mov (.t 9))), []⟩]
@[simp] def l_sure_3 (_ : Unit) : List EOp := ⟨0, (some 4), none, (.q (.build [(.int .i64 0), (.int .i64 0)] [(0, 1, (.k (.int .i64 50))), (1, 1, (.k (.int .i64 50)))])), []⟩ :: ⟨1, (some 5), none, (.q (.build [(.int .i64 0), (.int .i64 0), (.int .i64 0), (.slice none 0 0), (.slice none 0 0)] [(1, 2, (.t 4))])), []⟩ :: ⟨2, (some 6), none, (.q (.build (([(.int .i64 0), (.int .i64 0), (.int .i64 0), (.int .i64 0), (.int .i64 0), (.int .i64 0), (.int .i64 0)] : List Value) ++ zU8 ++ [(.slice none 0 0)]) [(0, 1, (.k (.int .i64 1))), (1, 1, (.k (.int .i64 20)))])), []⟩ :: ⟨3, (some 7), none, (.call 9 [(.t 5), (.k (.int .i64 1)), (.t 6)]), []⟩ :: ⟨4, (some 3), none, (.q (.mov (.t 7))), []⟩ :: ⟨5, (some 8), none, (.q (.ext 0 (.t 3))), []⟩ :: hid l_sure_4
@[simp] def b_sure_5 (_ : Unit) : EB := reg0 (hid l_sure_3) 10
@[simp] def l_sure_7 (_ : Unit) : List EOp := [⟨6, (some 16), (some (12, true)), (.q (.eqa false 2 .i64 (.t 14) (.t 15))), []⟩, ⟨7, (some 17), none, (.q (.pick (.t 12) (.t 16) (.k (.bool false)))), []⟩, ⟨8, (some 0), none, (.q (.mov (.t 17))), []⟩]
@[simp] def l_sure_6 (_ : Unit) : List EOp := ⟨0, (some 10), none, (.q (.mov (.t 2))), []⟩ :: ⟨1, (some 11), none, (.q (.eqi false (.t 10))), []⟩ :: ⟨2, (some 12), none, (.q (.mov (.t 11))), []⟩ :: ⟨3, (some 13), (some (12, true)), (.q (.fad 1 (.t 1))), []⟩ :: ⟨4, (some 14), (some (12, true)), (.q (.lda 2 (.t 13))), []⟩ :: ⟨5, (some 15), (some (12, true)), (.q (.build [(.int .i64 0), (.int .i64 0)] [(0, 1, (.k (.int .i64 70))), (1, 1, (.k (.int .i64 30)))])), []⟩ :: hid l_sure_7
@[simp] def b_sure_8 (_ : Unit) : EB := reg0 (hid l_sure_6) 9
@[simp] def b_sure_9 (_ : Unit) : EB := .seq (hid b_sure_8) .ret
@[simp] def b_sure_10 (_ : Unit) : EB := .seq (hid b_sure_5) (hid b_sure_9)
@[simp] def b_sure_11 (_ : Unit) : EB := .seq (hid b_sure_2) (hid b_sure_10)
def c_sure : EB × List QOp × Nat := ((hid b_sure_11), [(.mov (.t 0))], 18)
theorem k_sure : cfun Tryd.prog 7 = some c_sure := by kernel_rfl


@[simp] theorem errV_33' : Value.iface 73 (.int .i64 33) = errV 33 := rfl
@[simp] theorem errV_8' : Value.iface 73 (.int .i64 8) = errV 8 := rfl
/-- What is done, with any way of having its secret. -/
def opE (o : WOp) (e : EC) : EV := .v (.agg (.fz (.lit (.int .i64 o.kind)) :: .fz (.lit (.int .i64 o.am)) :: .fz (.lit (.int .i64 o.id)) :: (payC o.pay ++ [e])))

set_option maxHeartbeats 4000000 in
set_option maxRecDepth 8000 in
theorem WDo_ok (s : Sta) (side : Int) (o : WOp) (hs : s.ok) (hsd : i64 side) (ho : o.ok) : ECalls Tryd.prog 9 [SV s, I .i64 side, OpV o] [] fun y H' => H' = [] ∧ y = SE (doS s side o) := by
  obtain ⟨⟨o1, o1'⟩, ⟨o2, o2'⟩, ⟨o3, o3'⟩, op, osl⟩ := id ho
  have h32 := op.2.2.2.2
  have t32 : o.pay.lock.take 32 = o.pay.lock := List.take_of_length_le (by omega)
  have hpt := payC_take h32
  have hpl := payC_len h32
  have hcl : (Go.EW.hc o.pay.lock).length = 32 := by rw [hc_len]; exact h32
  have hth : ∀ e : EC, List.take 32 (Go.EW.hc o.pay.lock ++ [e]) = Go.EW.hc o.pay.lock := fun e => by rw [List.take_append_of_le_length (by omega), List.take_of_length_le (by omega)]
  have hat : ∀ e : EC, (Go.EW.hc o.pay.lock ++ [e])[32]? = some e := fun e => by rw [List.getElem?_append_right (by omega), hcl]; rfl
  refine ecalls k_WDo ?_
  simp [c_WDo, SV, staC, I, OpV, wopC, t32, h32, tk33 h32, dr33 h32]
  refine call0 (SCheck_ok s hs) (by simp [SV, staC]) ?_
  rintro y H' ⟨rfl, rfl⟩
  refine ⟨.inl (by simp), le_ok rfl, ?_⟩
  by_cases hm : mayS s = true
  rotate_left
  · have hm' : mayS s = false := by simpa using hm
    have hd : doS s side o = (zSta, 1) := by unfold doS; rw [if_pos (fun h => hm h.1)]
    simp [hm', -errV_0]
    rw [hd]
    simp [SE, staC, zSta, -errV_0]
    refine finW _ (weak_nlB (o := 32) (k := 3) 36 rfl rfl) (finW _ (weak_nlB (o := 32) (k := 4) 3 rfl rfl) ?_)
    exact fin [] (by decide) rfl rfl rfl ⟨rfl, rfl⟩
  by_cases h0 : side < 0
  · have hd : doS s side o = (zSta, 1) := by unfold doS; rw [if_pos (fun h => by omega)]
    simp [hm, h0, -errV_0]
    rw [hd]
    simp [SE, staC, zSta, -errV_0]
    refine finW _ (weak_nlB (o := 32) (k := 3) 36 rfl rfl) (finW _ (weak_nlB (o := 32) (k := 4) 3 rfl rfl) ?_)
    exact fin [] (by decide) rfl rfl rfl ⟨rfl, rfl⟩
  by_cases h1 : 1 < side
  · have hd : doS s side o = (zSta, 1) := by unfold doS; rw [if_pos (fun h => by omega)]
    simp [hm, h0, h1, -errV_0]
    rw [hd]
    simp [SE, staC, zSta, -errV_0]
    refine finW _ (weak_nlB (o := 32) (k := 3) 36 rfl rfl) (finW _ (weak_nlB (o := 32) (k := 4) 3 rfl rfl) ?_)
    exact fin [] (by decide) rfl rfl rfl ⟨rfl, rfl⟩
  by_cases h2 : o.kind < 1
  · have hd : doS s side o = (zSta, 1) := by unfold doS; rw [if_pos (fun h => by omega)]
    simp [hm, h0, h1, h2, -errV_0]
    rw [hd]
    simp [SE, staC, zSta, -errV_0]
    refine finW _ (weak_nlB (o := 32) (k := 3) 36 rfl rfl) (finW _ (weak_nlB (o := 32) (k := 4) 3 rfl rfl) ?_)
    exact fin [] (by decide) rfl rfl rfl ⟨rfl, rfl⟩
  by_cases h3 : 4 < o.kind
  · have hd : doS s side o = (zSta, 1) := by unfold doS; rw [if_pos (fun h => by omega)]
    simp [hm, h0, h1, h2, h3, -errV_0]
    rw [hd]
    simp [SE, staC, zSta, -errV_0]
    refine finW _ (weak_nlB (o := 32) (k := 3) 36 rfl rfl) (finW _ (weak_nlB (o := 32) (k := 4) 3 rfl rfl) ?_)
    exact fin [] (by decide) rfl rfl rfl ⟨rfl, rfl⟩
  have hg : ¬ ¬ (mayS s = true ∧ (side = 0 ∨ side = 1) ∧ 1 ≤ o.kind ∧ o.kind ≤ 4) := fun h => h ⟨hm, by omega, by omega, by omega⟩
  unfold doS
  rw [if_neg hg]
  by_cases k1 : o.kind = 1
  · rw [if_pos k1]
    simp [hm, h0, h1, h2, h3, k1, -errV_0]
    refine call0 (Move_ok s side o.am hs hsd ⟨o2, o2'⟩) (by simp [SV, staC, I, Bs]) ?_
    rintro y H' ⟨rfl, rfl⟩
    refine ⟨.inl (by simp), le_ok rfl, ?_⟩
    simp [SE, staC, -errV_0]
    exact fin [] (by decide) rfl rfl rfl ⟨rfl, rfl⟩
  rw [if_neg k1]
  by_cases k2 : o.kind = 2
  · rw [if_pos k2]
    by_cases kf : o.pay.fr = side
    · have he : (if o.pay.fr ≠ side then (zSta, 33) else addP s o.pay) = addP s o.pay := if_neg (by simpa using kf)
      rw [he]
      simp [hm, h0, h1, h2, h3, k1, k2, kf, hth, -errV_0]
      have hpa : payC o.pay = .fz (.lit (.int .i64 o.pay.id)) :: .fz (.lit (.int .i64 side)) :: .fz (.lit (.int .i64 o.pay.am)) :: .fz (.lit (.int .i64 o.pay.af)) :: Go.EW.hc o.pay.lock := by rw [← kf]; rfl
      rw [← hpa]
      refine ⟨by omega, ?_⟩
      refine call0 (SAdd_ok s o.pay hs op) (by simp [SV, staC, I, Bs]) ?_
      rintro y H' ⟨rfl, rfl⟩
      refine ⟨.inl (by simp), le_ok rfl, ?_⟩
      simp [SE, staC, -errV_0]
      exact fin [] (by decide) rfl rfl rfl ⟨rfl, rfl⟩
    · have he : (if o.pay.fr ≠ side then (zSta, 33) else addP s o.pay) = (zSta, 33) := if_pos kf
      rw [he]
      simp [hm, h0, h1, h2, h3, k1, k2, kf, -errV_0]
      simp [SE, staC, zSta, -errV_0]
      refine finW _ (weak_nlB (o := 32) (k := 3) 36 rfl rfl) (finW _ (weak_nlB (o := 32) (k := 4) 3 rfl rfl) ?_)
      exact fin [] (by decide) rfl rfl rfl ⟨rfl, rfl⟩
  rw [if_neg k2]
  simp [hm, h0, h1, h2, h3, k1, k2, -errV_0]
  refine call0 (lays_ok s o.id hs) (by simp [SV, staC, I]) ?_
  rintro y H' ⟨rfl, rfl⟩
  refine ⟨.inl (by simp [I]), le_ok rfl, ?_⟩
  cases hl : layI s.pays o.id with
  | none =>
    simp [I, -errV_0]
    simp [SE, staC, zSta, -errV_0]
    refine finW _ (weak_nlB (o := 32) (k := 3) 36 rfl rfl) (finW _ (weak_nlB (o := 32) (k := 4) 3 rfl rfl) ?_)
    exact fin [] (by decide) rfl rfl rfl ⟨rfl, rfl⟩
  | some p =>
    have hpm := (layI_mem hl).1
    have hmf := (mayP_pos (payL_mem (mayS_t hm).2.1 p hpm)).1
    have hfn : ¬ p.fr = -1 := by omega
    dsimp only
    by_cases ks : p.fr = side
    · have hsn : ¬ side = -1 := by omega
      rw [if_pos ks]
      simp [I, hfn, hsn, ks, -errV_0]
      simp [SE, staC, zSta, -errV_0]
      refine finW _ (weak_nlB (o := 32) (k := 3) 36 rfl rfl) (finW _ (weak_nlB (o := 32) (k := 4) 3 rfl rfl) ?_)
      exact fin [] (by decide) rfl rfl rfl ⟨rfl, rfl⟩
    rw [if_neg ks]
    by_cases k3 : o.kind = 3
    · rw [if_pos k3]
      simp [I, hfn, ks, k3, hat, -errV_0]
      refine call0 (SSettle_ok s o.id o.sec hs ⟨o3, o3'⟩ (by omega)) (by simp [SV, staC, I, Bs]) ?_
      rintro y H' ⟨rfl, rfl⟩
      refine ⟨.inl (by simp), le_ok rfl, ?_⟩
      simp [SE, staC, -errV_0]
      exact fin [] (by decide) rfl rfl rfl ⟨rfl, rfl⟩
    · rw [if_neg k3]
      simp [I, hfn, ks, k3, -errV_0]
      refine call0 (SFail_ok s o.id hs ⟨o3, o3'⟩) (by simp [SV, staC, I, Bs]) ?_
      rintro y H' ⟨rfl, rfl⟩
      refine ⟨.inl (by simp), le_ok rfl, ?_⟩
      simp [SE, staC, -errV_0]
      exact fin [] (by decide) rfl rfl rfl ⟨rfl, rfl⟩

def stSu : EV := .v (.agg [.fz (.lit (.int .i64 0)), .fz (.lit (.int .i64 50)), .fz (.lit (.int .i64 50)), .fz (.lit (.slice none 0 0)), .fz (.lit (.slice none 0 0))])
def opSu : EV := .v (.agg (.fz (.lit (.int .i64 1)) :: .fz (.lit (.int .i64 20)) :: .fz (.lit (.int .i64 0)) :: .fz (.lit (.int .i64 0)) :: .fz (.lit (.int .i64 0)) :: .fz (.lit (.int .i64 0)) :: .fz (.lit (.int .i64 0)) :: (hc hz ++ [.fz (.lit (.slice none 0 0))])))
theorem s50_ok : (Sta.mk 0 50 50 [] []).ok := by simp [Sta.ok, i64]
theorem s50_may : mayS (Sta.mk 0 50 50 [] []) = true := by simp [mayS, total, sumP, sumH, payL, holL]

set_option maxHeartbeats 4000000 in
theorem Do_sure : ECalls Tryd.prog 9 [stSu, I .i64 1, opSu] [] fun y H' => H' = [] ∧ y = SE (⟨1, 70, 30, [], []⟩, 0) := by
  have hv : moveS ⟨0, 50, 50, [], []⟩ 1 20 = (⟨1, 70, 30, [], []⟩, 0) := by simp [moveS, nxt, mayS, total, sumP, sumH, payL, holL]
  have hmv := Move_ok ⟨0, 50, 50, [], []⟩ 1 20 s50_ok (by simp [i64]) (by simp [i64])
  rw [hv] at hmv
  have hck := SCheck_ok ⟨0, 50, 50, [], []⟩ s50_ok
  rw [s50_may] at hck
  simp only [if_true] at hck
  refine ecalls k_WDo ?_
  simp [c_WDo, stSu, opSu, I]
  refine call0 (ecalls_nlS hck) (by simp [Ptr, I, EV.lit, Bs, SV, staC, SE, OpV, wopC]) ?_
  rintro y H' ⟨rfl, rfl⟩
  refine ⟨.inl (by simp [Ptr, I, EV.lit, Bs, SV, staC, SE, OpV, wopC]), le_ok rfl, ?_⟩
  simp
  refine call0 (ecalls_nlS hmv) (by simp [Ptr, I, EV.lit, Bs, SV, staC, SE, OpV, wopC]) ?_
  rintro y H' ⟨rfl, rfl⟩
  refine ⟨.inl (by simp [Ptr, I, EV.lit, Bs, SV, staC, SE, OpV, wopC]), le_ok rfl, ?_⟩
  simp [SE, staC]
  exact fin [] (by decide) rfl rfl rfl ⟨rfl, rfl⟩

set_option maxHeartbeats 4000000 in
theorem sure_ok : ECalls Tryd.prog 7 [] [] fun y H' => H' = [] ∧ y = .lit (.bool true) := by
  refine ecalls k_sure ?_
  simp [c_sure]
  refine call0 Do_sure (by simp [stSu, opSu, I]) ?_
  rintro y H' ⟨rfl, rfl⟩
  refine ⟨.inl (by simp [stSu, opSu]), le_ok rfl, ?_⟩
  simp [SE, staC]
  exact fin [] (by decide) rfl rfl rfl ⟨rfl, rfl⟩

end Go.Proofs.YtpilpjameifcfaaDoor

namespace Go.Proofs.YtpilpjameifcfaaDoor
open Go Go.EW
set_option linter.unusedSimpArgs false
set_option linter.unusedVariables false

theorem ite_z {c : Prop} [Decidable c] {a b : Sta × Nat} (ha : a.1 = zSta) (hb : b.2 ≠ 0 → b.1 = zSta) : (if c then a else b).2 ≠ 0 → (if c then a else b).1 = zSta := by
  split
  · exact fun _ => ha
  · exact hb
theorem addP_z {s : Sta} {p : Pay} : (addP s p).2 ≠ 0 → (addP s p).1 = zSta := by
  unfold addP
  exact ite_z rfl (ite_z rfl (ite_z rfl (ite_z rfl (ite_z rfl (ite_z rfl (ite_z rfl fun h => absurd rfl h))))))
theorem takS_z {s : Sta} {x : Int} (h : (takS s x).2.2 ≠ 0) : (takS s x).1 = zSta := by
  unfold takS at h ⊢
  repeat' split
  all_goals first | rfl | (simp_all)
theorem falS_z {s : Sta} {x : Int} (h : (falS s x).2 ≠ 0) : (falS s x).1 = zSta := by
  unfold falS at h ⊢
  split
  · rfl
  · rename_i h1; rw [if_neg h1] at h; exact absurd rfl h
theorem setS_z {s : Sta} {x : Int} {b : List UInt8} (h : (setS s x b).2 ≠ 0) : (setS s x b).1 = zSta := by
  unfold setS at h ⊢
  split
  · rfl
  · split
    · rfl
    · rename_i h1 h2; rw [if_neg h1, if_neg h2] at h; exact absurd rfl h
theorem addP_h {s : Sta} {p : Pay} (h : (addP s p).2 = 0) : (addP s p).1.holds = s.holds ∧ (addP s p).1.pays.length = s.pays.length + 1 ∧ s.pays.length + s.holds.length < 8 := by
  obtain ⟨h1, h2, h3, h4, h5, h6, h7⟩ := addP_may h
  obtain ⟨⟨_, _, _, _, _, _, _, h8⟩, _⟩ := mayS_t h6
  rw [h5] at h8 ⊢
  have hl : (insP s.pays p).length = s.pays.length + 1 := len_ins Pay.id s.pays p
  dsimp only at h8 ⊢
  exact ⟨rfl, hl, by omega⟩
theorem falS_h {s : Sta} {x : Int} (h : (falS s x).2 = 0) : (falS s x).1.holds = s.holds ∧ (falS s x).1.pays.length ≤ s.pays.length := by
  unfold falS at h ⊢
  split at h
  · rename_i h1; exact absurd h h1
  rename_i h1
  rw [if_neg h1]
  obtain ⟨_, e, _, _, h5, _⟩ := takS_gd (Classical.not_not.1 h1)
  exact ⟨rfl, by show (takS s x).1.pays.length ≤ _; rw [e]; show (delA Pay.id s.pays x).length ≤ _; omega⟩
theorem setS_h {s : Sta} {x : Int} {b : List UInt8} (h : (setS s x b).2 = 0) : (setS s x b).1.holds = s.holds ∧ (setS s x b).1.pays.length ≤ s.pays.length := by
  unfold setS at h ⊢
  split at h
  · rename_i h1; exact absurd h h1
  rename_i h1
  rw [if_neg h1]
  split at h
  · simp at h
  rename_i h2
  rw [if_neg h2]
  obtain ⟨_, e, _, _, h5, _⟩ := takS_gd (Classical.not_not.1 h1)
  exact ⟨rfl, by show (takS s x).1.pays.length ≤ _; rw [e]; show (delA Pay.id s.pays x).length ≤ _; omega⟩

end Go.Proofs.YtpilpjameifcfaaDoor

namespace Go.Proofs.YtpilpjameifcfaaDoor
open Go Go.EW
set_option linter.unusedSimpArgs false
set_option linter.unusedVariables false

/-! ### what a side does, plainly -/
def qF (side : Int) (p : Pay) : Int := if p.fr ≠ side then p.am else 0
/-- What waits that the other side laid. -/
def sumQ (side : Int) (l : List Pay) : Int := (l.map (qF side)).sum
/-- What the other side has. -/
def othS (s : Sta) (side : Int) : Int := sideS s (1 - side)
theorem moveS_z {s : Sta} {a n : Int} : (moveS s a n).2 ≠ 0 → (moveS s a n).1 = zSta := by
  unfold moveS
  refine ite_z rfl (ite_z rfl (ite_z rfl (ite_z rfl ?_)))
  split
  · exact fun h => absurd rfl h
  · exact fun h => absurd rfl h
theorem doS_z {s : Sta} {side : Int} {o : WOp} : (doS s side o).2 ≠ 0 → (doS s side o).1 = zSta := by
  unfold doS
  split
  · exact fun _ => rfl
  split
  · exact moveS_z
  split
  · split
    · exact fun _ => rfl
    · exact addP_z
  split
  · exact fun _ => rfl
  split
  · exact fun _ => rfl
  split
  · exact setS_z
  · exact falS_z
theorem sumQ_b (side : Int) : ∀ (l : List Pay), (∀ p ∈ l, 0 ≤ p.am) → ∀ i, 0 ≤ sumQ side (l.take i) ∧ sumQ side (l.take i) ≤ sumP l
  | [], _, i => by simp [sumQ, sumP]
  | a :: r, h, 0 => by
    have h1 := sumQ_b side r (fun p hp => h p (List.mem_cons_of_mem _ hp)) 0
    have h2 := h a List.mem_cons_self
    have e : sumP (a :: r) = a.am + sumP r := by simp [sumP]
    simp only [List.take_zero] at h1 ⊢
    omega
  | a :: r, h, i + 1 => by
    have h1 := sumQ_b side r (fun p hp => h p (List.mem_cons_of_mem _ hp)) i
    have h2 := h a List.mem_cons_self
    have e : sumP (a :: r) = a.am + sumP r := by simp [sumP]
    have e2 : sumQ side ((a :: r).take (i + 1)) = qF side a + sumQ side (r.take i) := by simp [sumQ]
    have e3 : 0 ≤ qF side a ∧ qF side a ≤ a.am := by unfold qF; split <;> omega
    omega
theorem sumQ_succ (side : Int) {l : List Pay} {i : Nat} {p : Pay} (h : l[i]? = some p) : sumQ side (l.take (i + 1)) = sumQ side (l.take i) + qF side p := by
  have hl := lt_len h
  have e := (List.getElem?_eq_some_iff.1 h).2
  unfold sumQ
  rw [List.take_succ_eq_append_getElem hl, e]
  simp
theorem sumQ_all (side : Int) (l : List Pay) : sumQ side (l.take l.length) = sumQ side l := by rw [List.take_length]
theorem tak_lay {s : Sta} {x : Int} (h : (takS s x).2.2 = 0) : layI s.pays x = some (takS s x).2.1 ∧ sumQ 0 (takS s x).1.pays = sumQ 0 s.pays - qF 0 (takS s x).2.1 ∧ sumQ 1 (takS s x).1.pays = sumQ 1 s.pays - qF 1 (takS s x).2.1 := by
  obtain ⟨h0, e, hm, _⟩ := takS_gd h
  rw [e]
  have h1 : fndI (s.pays.map Pay.id) x = true := by
    unfold takS at h
    split at h
    · simp at h
    split at h
    · simp at h
    rename_i h2
    simpa using h2
  obtain ⟨b, hb, hid⟩ := fnd_get (f := Pay.id) h1
  have hb' : s.pays[posI (s.pays.map (·.id)) x]? = some b := hb
  have ht : (takS s x).2.1 = b := by
    have hn : ¬ (nxt s).2 ≠ 0 := by
      have := h0
      unfold nxt
      rw [if_pos this]
      simp
    unfold takS
    rw [if_neg hn, if_neg (by rw [h1]; simp), hb']
    rfl
  rw [ht]
  refine ⟨?_, sum_del (f := Pay.id) (qF 0) hb, sum_del (f := Pay.id) (qF 1) hb⟩
  refine layI_at (i := posI (s.pays.map (·.id)) x) ?_ hb' hid
  intro k q hk hq hqx
  have hpw := payL_pw (mayS_t h0.1).2.1
  have e1 : (s.pays.map (·.id))[k]? = some q.id := by rw [List.getElem?_map, hq]; rfl
  have e2 : (s.pays.map (·.id))[posI (s.pays.map (·.id)) x]? = some b.id := by rw [List.getElem?_map, hb']; rfl
  have := pw_get hpw hk e1 e2
  omega
/-- What a side does never leaves the other one with less. -/
theorem doS_gd {s : Sta} {side : Int} {o : WOp} (hs : s.ok) (ho : o.pay.ok) (h : (doS s side o).2 = 0) :
    Gd s (doS s side o).1 ∧ mayS s = true ∧ (side = 0 ∨ side = 1) ∧ othS s side ≤ othS (doS s side o).1 side ∧ (othS s side + sumQ side s.pays ≤ othS (doS s side o).1 side + sumQ side (doS s side o).1.pays ∨ o.kind = 3) := by
  unfold doS at h ⊢
  split at h
  · simp at h
  rename_i hg
  have hg' := Classical.not_not.1 hg
  rw [if_neg hg]
  obtain ⟨hm, hsd, hk1, hk4⟩ := hg'
  split at h
  · rename_i k1
    rw [if_pos k1]
    have g := moveS_gd hs h
    refine ⟨g, hm, hsd, ?_⟩
    have h1 : ¬ (nxt s).2 ≠ 0 := by
      intro h1
      unfold moveS at h
      rw [if_pos h1] at h
      exact h1 h
    have h2 : ¬ ¬ (side = 0 ∨ side = 1) := fun h => h hsd
    unfold moveS at h ⊢
    rw [if_neg h1, if_neg h2] at h
    rw [if_neg h1, if_neg h2]
    by_cases h3 : o.am < 1
    · rw [if_pos h3] at h; simp at h
    rw [if_neg h3] at h ⊢
    by_cases h4 : (if side = 0 then s.h0 else s.h1) < o.am
    · rw [if_pos h4] at h; simp at h
    rw [if_neg h4]
    unfold othS sideS
    rcases hsd with e | e
    · rw [if_pos e]; subst e; simp; omega
    · have e0 : ¬ side = 0 := by omega
      rw [if_neg e0]; subst e; simp; omega
  rename_i k1
  rw [if_neg k1]
  split at h
  · rename_i k2
    rw [if_pos k2]
    split at h
    · simp at h
    rename_i k3
    rw [if_neg k3]
    have hf : o.pay.fr = side := Classical.not_not.1 k3
    refine ⟨addP_gd hs ho h, hm, hsd, ?_⟩
    obtain ⟨_, _, _, _, h5, _⟩ := addP_may h
    rw [h5]
    have hq : sumQ side (insP s.pays o.pay) = sumQ side s.pays + qF side o.pay := sum_ins Pay.id (qF side) s.pays o.pay
    have hq0 : qF side o.pay = 0 := by unfold qF; rw [if_neg (by simpa using hf)]
    unfold othS sideS
    dsimp only
    rw [hq, hq0]
    rcases hsd with e | e
    · subst e; simp [hf]
    · subst e; simp [hf]
  rename_i k2
  rw [if_neg k2]
  cases hl : layI s.pays o.id with
  | none => rw [hl] at h; simp at h
  | some p =>
  rw [hl] at h
  dsimp only at h ⊢
  split at h
  · simp at h
  rename_i k3
  rw [if_neg k3]
  split at h
  · rename_i k4
    rw [if_pos k4]
    refine ⟨setS_gd hs h, hm, hsd, ?_, .inr k4⟩
    unfold setS at h ⊢
    split at h
    · rename_i h1; exact absurd h h1
    rename_i h1
    rw [if_neg h1]
    split at h
    · simp at h
    rename_i h2
    rw [if_neg h2]
    obtain ⟨_, _, hmem, _, _, h10⟩ := takS_gd (Classical.not_not.1 h1)
    have hfr := (mayP_pos (payL_mem (mayS_t hm).2.1 _ hmem)).1
    unfold othS sideS
    dsimp only
    split <;> split <;> omega
  · rename_i k4
    rw [if_neg k4]
    refine ⟨falS_gd hs h, hm, hsd, ?_⟩
    unfold falS at h ⊢
    split at h
    · rename_i h1; exact absurd h h1
    rename_i h1
    rw [if_neg h1]
    have ht : (takS s o.id).2.2 = 0 := Classical.not_not.1 h1
    obtain ⟨_, _, hmem, _, _, h10⟩ := takS_gd ht
    obtain ⟨q1, q2, q3⟩ := tak_lay ht
    rw [hl] at q1
    have hp := Option.some.inj q1
    rw [← hp] at q2 q3 h10 hmem ⊢
    have hfr := (mayP_pos (payL_mem (mayS_t hm).2.1 _ hmem)).1
    have hq : sumQ side (takS s o.id).1.pays = sumQ side s.pays - p.am := by
      rcases hsd with e | e
      · subst e; rw [q2]; unfold qF; rw [if_pos k3]
      · subst e; rw [q3]; unfold qF; rw [if_pos k3]
    unfold othS sideS
    dsimp only
    rw [hq]
    rcases hsd with e | e
    · subst e
      have hp1 : ¬ p.fr = 0 := k3
      simp [hp1]; omega
    · subst e
      have hp1 : p.fr = 0 := by omega
      simp [hp1]; omega

end Go.Proofs.YtpilpjameifcfaaDoor

namespace Go.Proofs.YtpilpjameifcfaaDoor
open Go Go.EW
set_option linter.unusedSimpArgs false
set_option linter.unusedVariables false

@[simp] def l_WireGives_1 (_ : Unit) : List EOp := [⟨0, (some 3), none, (.q (.box 26 (.t 0))), []⟩, ⟨1, (some 5), none, (.q (.box 33 (.t 2))), []⟩, ⟨2, (some 6), none, (.q (.mov (.k (.bool false)))), []⟩]
@[simp] def b_WireGives_2 (_ : Unit) : EB := reg0 (hid l_WireGives_1) 3
@[simp] def l_WireGives_4 (_ : Unit) : List EOp := [⟨6, (some 20), (some (16, false)), (.q (.bin .gtr (.t 19) (.k (.int .i64 1000)))), []⟩, ⟨7, (some 21), none, (.q (.pick (.t 16) (.k (.bool true)) (.t 20))), []⟩]
@[simp] def l_WireGives_3 (_ : Unit) : List EOp := ⟨0, (some 14), none, (.q (.lda 5 (.t 3))), []⟩ :: ⟨1, (some 15), none, (.call 6 [(.t 14)]), []⟩ :: ⟨2, (some 16), none, (.q (.mov (.t 15))), []⟩ :: ⟨3, (some 17), (some (16, false)), (.q (.fad 39 (.t 5))), []⟩ :: ⟨4, (some 18), (some (16, false)), (.q (.ldc (.t 17))), []⟩ :: ⟨5, (some 19), (some (16, false)), (.q (.len (.t 18))), []⟩ :: hid l_WireGives_4
@[simp] def b_WireGives_5 (_ : Unit) : EB := reg0 (hid l_WireGives_3) 8
@[simp] def l_WireGives_6 (_ : Unit) : List EOp := [⟨0, (some 22), none, (.call 7 []), []⟩, ⟨1, (some 6), none, (.q (.mov (.t 22))), []⟩]
@[simp] def b_WireGives_7 (_ : Unit) : EB := reg0 (hid l_WireGives_6) 2
@[simp] def b_WireGives_8 (_ : Unit) : EB := .seq (hid b_WireGives_7) .ret
@[simp] def b_WireGives_9 (_ : Unit) : EB := .cond (.t 21) (hid b_WireGives_8) .skip
@[simp] def b_WireGives_10 (_ : Unit) : EB := .seq (hid b_WireGives_5) (hid b_WireGives_9)
@[simp] def l_WireGives_11 (_ : Unit) : List EOp := [⟨0, (some 23), none, (.q (.lda 5 (.t 3))), []⟩, ⟨1, (some 24), none, (.call 8 [(.t 23)]), []⟩, ⟨2, (some 7), none, (.q (.alloc 39 [(.int .i64 0), (.int .i64 0), (.int .i64 0), (.slice none 0 0), (.slice none 0 0)])), []⟩, ⟨3, none, none, (.fz (.sto 5 (.t 7) (.t 24))), []⟩]
@[simp] def b_WireGives_12 (_ : Unit) : EB := reg0 (hid l_WireGives_11) 4
@[simp] def l_WireGives_14 (_ : Unit) : List EOp := [⟨5, (some 25), none, (.q (.mov (.t 30))), []⟩, ⟨6, (some 31), none, (.q (.ext 0 (.t 25))), []⟩, ⟨7, (some 32), none, (.q (.ext 1 (.t 25))), []⟩, ⟨9, none, none, (.fz (.sto 5 (.t 8) (.t 31))), [7]⟩, ⟨10, (some 9), none, (.q (.mov (.t 32))), []⟩]
@[simp] def l_WireGives_13 (_ : Unit) : List EOp := ⟨0, (some 26), none, (.q (.lda 5 (.t 7))), []⟩ :: ⟨1, (some 27), none, (.q (.mov (.t 1))), []⟩ :: ⟨2, (some 28), none, (.q (.lda 40 (.t 5))), []⟩ :: ⟨8, (some 8), none, (.q (.alloc 39 [(.int .i64 0), (.int .i64 0), (.int .i64 0), (.slice none 0 0), (.slice none 0 0)])), []⟩ :: ⟨3, (some 29), none, (.call 10 [(.t 28)]), [0, 1, 8]⟩ :: ⟨4, (some 30), none, (.call 9 [(.t 26), (.t 27), (.t 29)]), [8]⟩ :: hid l_WireGives_14
@[simp] def b_WireGives_15 (_ : Unit) : EB := reg1 (hid l_WireGives_13) 11
@[simp] def l_WireGives_16 (_ : Unit) : List EOp := [⟨0, (some 33), none, (.q (.mov (.t 9))), []⟩, ⟨1, (some 34), none, (.q (.eqi true (.t 33))), []⟩]
@[simp] def b_WireGives_17 (_ : Unit) : EB := reg0 (hid l_WireGives_16) 2
@[simp] def l_WireGives_21 (_ : Unit) : List EOp := [⟨18, (some 53), none, (.q (.pick (.t 48) (.t 52) (.k (.bool false)))), []⟩, ⟨19, (some 54), none, (.q (.mov (.t 53))), []⟩, ⟨20, (some 55), (some (54, true)), (.call 7 []), []⟩, ⟨21, (some 56), none, (.q (.pick (.t 54) (.t 55) (.k (.bool false)))), []⟩, ⟨22, (some 6), none, (.q (.mov (.t 56))), []⟩]
@[simp] def l_WireGives_20 (_ : Unit) : List EOp := ⟨12, (some 47), none, (.q (.pick (.t 38) (.t 46) (.k (.bool false)))), []⟩ :: ⟨13, (some 48), none, (.q (.mov (.t 47))), []⟩ :: ⟨14, (some 49), (some (48, true)), (.q (.fad 1 (.t 8))), []⟩ :: ⟨15, (some 50), (some (48, true)), (.q (.lda 2 (.t 49))), []⟩ :: ⟨16, (some 51), (some (48, true)), (.q (.build [(.int .i64 0), (.int .i64 0)] [])), []⟩ :: ⟨17, (some 52), (some (48, true)), (.q (.eqa false 2 .i64 (.t 50) (.t 51))), []⟩ :: hid l_WireGives_21
@[simp] def l_WireGives_19 (_ : Unit) : List EOp := ⟨6, (some 41), (some (38, true)), (.q (.len (.t 40))), []⟩ :: ⟨7, (some 42), (some (38, true)), (.q (.fad 4 (.t 8))), []⟩ :: ⟨8, (some 43), (some (38, true)), (.q (.ldc (.t 42))), []⟩ :: ⟨9, (some 44), (some (38, true)), (.q (.len (.t 43))), []⟩ :: ⟨10, (some 45), (some (38, true)), (.q (.bin .add (.t 41) (.t 44))), []⟩ :: ⟨11, (some 46), (some (38, true)), (.q (.bin .eql (.t 45) (.k (.int .i64 0)))), []⟩ :: hid l_WireGives_20
@[simp] def l_WireGives_18 (_ : Unit) : List EOp := ⟨0, (some 35), none, (.q (.fad 0 (.t 8))), []⟩ :: ⟨1, (some 36), none, (.q (.ldc (.t 35))), []⟩ :: ⟨2, (some 37), none, (.q (.bin .eql (.t 36) (.k (.int .i64 0)))), []⟩ :: ⟨3, (some 38), none, (.q (.mov (.t 37))), []⟩ :: ⟨4, (some 39), (some (38, true)), (.q (.fad 3 (.t 8))), []⟩ :: ⟨5, (some 40), (some (38, true)), (.q (.ldc (.t 39))), []⟩ :: hid l_WireGives_19
@[simp] def b_WireGives_22 (_ : Unit) : EB := reg0 (hid l_WireGives_18) 23
@[simp] def b_WireGives_23 (_ : Unit) : EB := .seq (hid b_WireGives_22) .ret
@[simp] def b_WireGives_24 (_ : Unit) : EB := .cond (.t 34) (hid b_WireGives_23) .skip
@[simp] def b_WireGives_25 (_ : Unit) : EB := .seq (hid b_WireGives_17) (hid b_WireGives_24)
@[simp] def l_WireGives_26 (_ : Unit) : List EOp := [⟨0, (some 57), none, (.q (.mov (.t 1))), []⟩, ⟨1, (some 58), none, (.q (.bin .neq (.t 57) (.k (.int .i64 0)))), []⟩, ⟨2, (some 59), none, (.q (.mov (.t 58))), []⟩, ⟨3, (some 60), (some (59, true)), (.q (.mov (.t 1))), []⟩, ⟨4, (some 61), (some (59, true)), (.q (.bin .neq (.t 60) (.k (.int .i64 1)))), []⟩, ⟨5, (some 62), none, (.q (.pick (.t 59) (.t 61) (.k (.bool false)))), []⟩]
@[simp] def b_WireGives_27 (_ : Unit) : EB := reg0 (hid l_WireGives_26) 6
@[simp] def l_WireGives_28 (_ : Unit) : List EOp := [⟨0, (some 6), none, (.q (.mov (.k (.bool false)))), []⟩]
@[simp] def b_WireGives_29 (_ : Unit) : EB := reg0 (hid l_WireGives_28) 1
@[simp] def b_WireGives_30 (_ : Unit) : EB := .seq (hid b_WireGives_29) .ret
@[simp] def b_WireGives_31 (_ : Unit) : EB := .cond (.t 62) (hid b_WireGives_30) .skip
@[simp] def b_WireGives_32 (_ : Unit) : EB := .seq (hid b_WireGives_27) (hid b_WireGives_31)
@[simp] def l_WireGives_34 (_ : Unit) : List EOp := [⟨6, (some 69), none, (.q (.bin .sub (.k (.int .i64 1)) (.t 68))), []⟩, ⟨7, (some 70), none, (.q (.fad 1 (.t 8))), []⟩, ⟨8, (some 71), none, (.q (.iad 2 1 (.t 70) (.t 69))), []⟩, ⟨9, (some 72), none, (.q (.ldc (.t 71))), []⟩, ⟨10, (some 10), none, (.q (.mov (.t 67))), []⟩, ⟨11, (some 11), none, (.q (.mov (.t 72))), []⟩]
@[simp] def l_WireGives_33 (_ : Unit) : List EOp := ⟨0, (some 63), none, (.q (.mov (.t 1))), []⟩ :: ⟨1, (some 64), none, (.q (.bin .sub (.k (.int .i64 1)) (.t 63))), []⟩ :: ⟨2, (some 65), none, (.q (.fad 1 (.t 7))), []⟩ :: ⟨3, (some 66), none, (.q (.iad 2 1 (.t 65) (.t 64))), []⟩ :: ⟨4, (some 67), none, (.q (.ldc (.t 66))), []⟩ :: ⟨5, (some 68), none, (.q (.mov (.t 1))), []⟩ :: hid l_WireGives_34
@[simp] def b_WireGives_35 (_ : Unit) : EB := reg0 (hid l_WireGives_33) 12
@[simp] def l_WireGives_36 (_ : Unit) : List EOp := [⟨0, (some 12), none, (.q (.mov (.k (.int .i64 0)))), []⟩]
@[simp] def b_WireGives_37 (_ : Unit) : EB := reg0 (hid l_WireGives_36) 1
@[simp] def l_WireGives_38 (_ : Unit) : List EOp := [⟨0, (some 73), none, (.q (.mov (.t 12))), []⟩, ⟨1, (some 74), none, (.q (.fad 3 (.t 7))), []⟩, ⟨2, (some 75), none, (.q (.ldc (.t 74))), []⟩, ⟨3, (some 76), none, (.q (.len (.t 75))), []⟩, ⟨4, (some 77), none, (.q (.bin .lss (.t 73) (.t 76))), []⟩]
@[simp] def b_WireGives_39 (_ : Unit) : EB := reg0 (hid l_WireGives_38) 5
@[simp] def b_WireGives_40 (_ : Unit) : EB := .cond (.t 77) .skip (.exit 0)
@[simp] def b_WireGives_41 (_ : Unit) : EB := .seq (hid b_WireGives_39) (hid b_WireGives_40)
@[simp] def l_WireGives_43 (_ : Unit) : List EOp := [⟨6, (some 86), none, (.q (.mov (.t 1))), []⟩, ⟨7, (some 87), none, (.q (.bin .neq (.t 85) (.t 86))), []⟩]
@[simp] def l_WireGives_42 (_ : Unit) : List EOp := ⟨0, (some 80), none, (.q (.fad 3 (.t 7))), []⟩ :: ⟨1, (some 81), none, (.q (.ldc (.t 80))), []⟩ :: ⟨2, (some 82), none, (.q (.mov (.t 12))), []⟩ :: ⟨3, (some 83), none, (.q (.isl 36 (.t 81) (.t 82))), []⟩ :: ⟨4, (some 84), none, (.q (.fad 1 (.t 83))), []⟩ :: ⟨5, (some 85), none, (.q (.ldc (.t 84))), []⟩ :: hid l_WireGives_43
@[simp] def b_WireGives_44 (_ : Unit) : EB := reg0 (hid l_WireGives_42) 8
@[simp] def l_WireGives_46 (_ : Unit) : List EOp := [⟨6, (some 94), none, (.q (.ldc (.t 93))), []⟩, ⟨7, (some 95), none, (.q (.bin .add (.t 88) (.t 94))), []⟩, ⟨8, (some 10), none, (.q (.mov (.t 95))), []⟩]
@[simp] def l_WireGives_45 (_ : Unit) : List EOp := ⟨0, (some 88), none, (.q (.mov (.t 10))), []⟩ :: ⟨1, (some 89), none, (.q (.fad 3 (.t 7))), []⟩ :: ⟨2, (some 90), none, (.q (.ldc (.t 89))), []⟩ :: ⟨3, (some 91), none, (.q (.mov (.t 12))), []⟩ :: ⟨4, (some 92), none, (.q (.isl 36 (.t 90) (.t 91))), []⟩ :: ⟨5, (some 93), none, (.q (.fad 2 (.t 92))), []⟩ :: hid l_WireGives_46
@[simp] def b_WireGives_47 (_ : Unit) : EB := reg0 (hid l_WireGives_45) 9
@[simp] def b_WireGives_48 (_ : Unit) : EB := .cond (.t 87) (hid b_WireGives_47) .skip
@[simp] def b_WireGives_49 (_ : Unit) : EB := .seq (hid b_WireGives_44) (hid b_WireGives_48)
@[simp] def b_WireGives_50 (_ : Unit) : EB := .block 1 (hid b_WireGives_49)
@[simp] def l_WireGives_51 (_ : Unit) : List EOp := [⟨0, (some 78), none, (.q (.mov (.t 12))), []⟩, ⟨1, (some 79), none, (.q (.bin .add (.t 78) (.k (.int .i64 1)))), []⟩, ⟨2, (some 12), none, (.q (.mov (.t 79))), []⟩]
@[simp] def b_WireGives_52 (_ : Unit) : EB := reg0 (hid l_WireGives_51) 3
@[simp] def b_WireGives_53 (_ : Unit) : EB := .seq (hid b_WireGives_50) (hid b_WireGives_52)
@[simp] def b_WireGives_54 (_ : Unit) : EB := .seq (hid b_WireGives_41) (hid b_WireGives_53)
@[simp] def b_WireGives_55 (_ : Unit) : EB := .loop (hid b_WireGives_54)
@[simp] def b_WireGives_56 (_ : Unit) : EB := .block 0 (hid b_WireGives_55)
@[simp] def b_WireGives_57 (_ : Unit) : EB := .seq (hid b_WireGives_37) (hid b_WireGives_56)
@[simp] def l_WireGives_58 (_ : Unit) : List EOp := [⟨0, (some 13), none, (.q (.mov (.k (.int .i64 0)))), []⟩]
@[simp] def b_WireGives_59 (_ : Unit) : EB := reg0 (hid l_WireGives_58) 1
@[simp] def l_WireGives_60 (_ : Unit) : List EOp := [⟨0, (some 96), none, (.q (.mov (.t 13))), []⟩, ⟨1, (some 97), none, (.q (.fad 3 (.t 8))), []⟩, ⟨2, (some 98), none, (.q (.ldc (.t 97))), []⟩, ⟨3, (some 99), none, (.q (.len (.t 98))), []⟩, ⟨4, (some 100), none, (.q (.bin .lss (.t 96) (.t 99))), []⟩]
@[simp] def b_WireGives_61 (_ : Unit) : EB := reg0 (hid l_WireGives_60) 5
@[simp] def b_WireGives_62 (_ : Unit) : EB := .cond (.t 100) .skip (.exit 2)
@[simp] def b_WireGives_63 (_ : Unit) : EB := .seq (hid b_WireGives_61) (hid b_WireGives_62)
@[simp] def l_WireGives_65 (_ : Unit) : List EOp := [⟨6, (some 109), none, (.q (.mov (.t 1))), []⟩, ⟨7, (some 110), none, (.q (.bin .neq (.t 108) (.t 109))), []⟩]
@[simp] def l_WireGives_64 (_ : Unit) : List EOp := ⟨0, (some 103), none, (.q (.fad 3 (.t 8))), []⟩ :: ⟨1, (some 104), none, (.q (.ldc (.t 103))), []⟩ :: ⟨2, (some 105), none, (.q (.mov (.t 13))), []⟩ :: ⟨3, (some 106), none, (.q (.isl 36 (.t 104) (.t 105))), []⟩ :: ⟨4, (some 107), none, (.q (.fad 1 (.t 106))), []⟩ :: ⟨5, (some 108), none, (.q (.ldc (.t 107))), []⟩ :: hid l_WireGives_65
@[simp] def b_WireGives_66 (_ : Unit) : EB := reg0 (hid l_WireGives_64) 8
@[simp] def l_WireGives_68 (_ : Unit) : List EOp := [⟨6, (some 117), none, (.q (.ldc (.t 116))), []⟩, ⟨7, (some 118), none, (.q (.bin .add (.t 111) (.t 117))), []⟩, ⟨8, (some 11), none, (.q (.mov (.t 118))), []⟩]
@[simp] def l_WireGives_67 (_ : Unit) : List EOp := ⟨0, (some 111), none, (.q (.mov (.t 11))), []⟩ :: ⟨1, (some 112), none, (.q (.fad 3 (.t 8))), []⟩ :: ⟨2, (some 113), none, (.q (.ldc (.t 112))), []⟩ :: ⟨3, (some 114), none, (.q (.mov (.t 13))), []⟩ :: ⟨4, (some 115), none, (.q (.isl 36 (.t 113) (.t 114))), []⟩ :: ⟨5, (some 116), none, (.q (.fad 2 (.t 115))), []⟩ :: hid l_WireGives_68
@[simp] def b_WireGives_69 (_ : Unit) : EB := reg0 (hid l_WireGives_67) 9
@[simp] def b_WireGives_70 (_ : Unit) : EB := .cond (.t 110) (hid b_WireGives_69) .skip
@[simp] def b_WireGives_71 (_ : Unit) : EB := .seq (hid b_WireGives_66) (hid b_WireGives_70)
@[simp] def b_WireGives_72 (_ : Unit) : EB := .block 3 (hid b_WireGives_71)
@[simp] def l_WireGives_73 (_ : Unit) : List EOp := [⟨0, (some 101), none, (.q (.mov (.t 13))), []⟩, ⟨1, (some 102), none, (.q (.bin .add (.t 101) (.k (.int .i64 1)))), []⟩, ⟨2, (some 13), none, (.q (.mov (.t 102))), []⟩]
@[simp] def b_WireGives_74 (_ : Unit) : EB := reg0 (hid l_WireGives_73) 3
@[simp] def b_WireGives_75 (_ : Unit) : EB := .seq (hid b_WireGives_72) (hid b_WireGives_74)
@[simp] def b_WireGives_76 (_ : Unit) : EB := .seq (hid b_WireGives_63) (hid b_WireGives_75)
@[simp] def b_WireGives_77 (_ : Unit) : EB := .loop (hid b_WireGives_76)
@[simp] def b_WireGives_78 (_ : Unit) : EB := .block 2 (hid b_WireGives_77)
@[simp] def b_WireGives_79 (_ : Unit) : EB := .seq (hid b_WireGives_59) (hid b_WireGives_78)
@[simp] def l_WireGives_86 (_ : Unit) : List EOp := [⟨36, (some 155), none, (.q (.mov (.t 154))), []⟩, ⟨37, (some 156), (some (155, true)), (.call 7 []), []⟩, ⟨38, (some 157), none, (.q (.pick (.t 155) (.t 156) (.k (.bool false)))), []⟩, ⟨39, (some 6), none, (.q (.mov (.t 157))), []⟩]
@[simp] def l_WireGives_85 (_ : Unit) : List EOp := ⟨30, (some 149), (some (147, true)), (.q (.ldc (.t 148))), []⟩ :: ⟨31, (some 150), (some (147, true)), (.q (.fad 0 (.t 7))), []⟩ :: ⟨32, (some 151), (some (147, true)), (.q (.ldc (.t 150))), []⟩ :: ⟨33, (some 152), (some (147, true)), (.q (.bin .add (.t 151) (.k (.int .i64 1)))), []⟩ :: ⟨34, (some 153), (some (147, true)), (.q (.bin .eql (.t 149) (.t 152))), []⟩ :: ⟨35, (some 154), none, (.q (.pick (.t 147) (.t 153) (.k (.bool false)))), []⟩ :: hid l_WireGives_86
@[simp] def l_WireGives_84 (_ : Unit) : List EOp := ⟨23, (some 142), (some (140, true)), (.call 11 [(.t 141)]), [24]⟩ :: ⟨25, (some 144), (some (140, true)), (.call 11 [(.t 143)]), []⟩ :: ⟨26, (some 145), (some (140, true)), (.q (.bin .eql (.t 142) (.t 144))), []⟩ :: ⟨27, (some 146), none, (.q (.pick (.t 140) (.t 145) (.k (.bool false)))), []⟩ :: ⟨28, (some 147), none, (.q (.mov (.t 146))), []⟩ :: ⟨29, (some 148), (some (147, true)), (.q (.fad 0 (.t 8))), []⟩ :: hid l_WireGives_85
@[simp] def l_WireGives_83 (_ : Unit) : List EOp := ⟨18, (some 137), (some (134, false)), (.q (.bin .eql (.t 136) (.k (.int .i64 3)))), []⟩ :: ⟨19, (some 138), (some (130, true)), (.q (.pick (.t 134) (.k (.bool true)) (.t 137))), []⟩ :: ⟨20, (some 139), none, (.q (.pick (.t 130) (.t 138) (.k (.bool false)))), []⟩ :: ⟨21, (some 140), none, (.q (.mov (.t 139))), []⟩ :: ⟨22, (some 141), (some (140, true)), (.q (.lda 5 (.t 8))), []⟩ :: ⟨24, (some 143), (some (140, true)), (.q (.lda 5 (.t 7))), []⟩ :: hid l_WireGives_84
@[simp] def l_WireGives_82 (_ : Unit) : List EOp := ⟨12, (some 131), (some (130, true)), (.q (.mov (.t 11))), []⟩ :: ⟨13, (some 132), (some (130, true)), (.q (.mov (.t 10))), []⟩ :: ⟨14, (some 133), (some (130, true)), (.q (.bin .geq (.t 131) (.t 132))), []⟩ :: ⟨15, (some 134), (some (130, true)), (.q (.mov (.t 133))), []⟩ :: ⟨16, (some 135), (some (134, false)), (.q (.fad 0 (.t 5))), []⟩ :: ⟨17, (some 136), (some (134, false)), (.q (.ldc (.t 135))), []⟩ :: hid l_WireGives_83
@[simp] def l_WireGives_81 (_ : Unit) : List EOp := ⟨6, (some 125), none, (.q (.bin .sub (.k (.int .i64 1)) (.t 124))), []⟩ :: ⟨7, (some 126), none, (.q (.fad 1 (.t 7))), []⟩ :: ⟨8, (some 127), none, (.q (.iad 2 1 (.t 126) (.t 125))), []⟩ :: ⟨9, (some 128), none, (.q (.ldc (.t 127))), []⟩ :: ⟨10, (some 129), none, (.q (.bin .geq (.t 123) (.t 128))), []⟩ :: ⟨11, (some 130), none, (.q (.mov (.t 129))), []⟩ :: hid l_WireGives_82
@[simp] def l_WireGives_80 (_ : Unit) : List EOp := ⟨0, (some 119), none, (.q (.mov (.t 1))), []⟩ :: ⟨1, (some 120), none, (.q (.bin .sub (.k (.int .i64 1)) (.t 119))), []⟩ :: ⟨2, (some 121), none, (.q (.fad 1 (.t 8))), []⟩ :: ⟨3, (some 122), none, (.q (.iad 2 1 (.t 121) (.t 120))), []⟩ :: ⟨4, (some 123), none, (.q (.ldc (.t 122))), []⟩ :: ⟨5, (some 124), none, (.q (.mov (.t 1))), []⟩ :: hid l_WireGives_81
@[simp] def b_WireGives_87 (_ : Unit) : EB := reg1 (hid l_WireGives_80) 40
@[simp] def b_WireGives_88 (_ : Unit) : EB := .seq (hid b_WireGives_87) .ret
@[simp] def b_WireGives_89 (_ : Unit) : EB := .seq (hid b_WireGives_79) (hid b_WireGives_88)
@[simp] def b_WireGives_90 (_ : Unit) : EB := .seq (hid b_WireGives_57) (hid b_WireGives_89)
@[simp] def b_WireGives_91 (_ : Unit) : EB := .seq (hid b_WireGives_35) (hid b_WireGives_90)
@[simp] def b_WireGives_92 (_ : Unit) : EB := .seq (hid b_WireGives_32) (hid b_WireGives_91)
@[simp] def b_WireGives_93 (_ : Unit) : EB := .seq (hid b_WireGives_25) (hid b_WireGives_92)
@[simp] def b_WireGives_94 (_ : Unit) : EB := .seq (hid b_WireGives_15) (hid b_WireGives_93)
@[simp] def b_WireGives_95 (_ : Unit) : EB := .seq (hid b_WireGives_12) (hid b_WireGives_94)
@[simp] def b_WireGives_96 (_ : Unit) : EB := .seq (hid b_WireGives_10) (hid b_WireGives_95)
@[simp] def b_WireGives_97 (_ : Unit) : EB := .seq (hid b_WireGives_2) (hid b_WireGives_96)
def c_WireGives : EB × List QOp × Nat := ((hid b_WireGives_97), [(.mov (.t 6))], 158)
theorem k_WireGives : cfun Tryd.prog 3 = some c_WireGives := by kernel_rfl


set_option maxHeartbeats 8000000 in
set_option maxRecDepth 8000 in
theorem WireGives_ok (s : Sta) (side : Int) (o : WOp) (hs : s.ok) (hsd : i64 side) (ho : o.ok) : ECalls Tryd.prog 3 [SV s, I .i64 side, OpV o] [] fun y H' => H' = [] ∧ y = .lit (.bool true) := by
  obtain ⟨⟨o1, o1'⟩, ⟨o2, o2'⟩, ⟨o3, o3'⟩, op, osl⟩ := id ho
  have h32 := op.2.2.2.2
  have t32 : o.pay.lock.take 32 = o.pay.lock := List.take_of_length_le (by omega)
  have hcl : (Go.EW.hc o.pay.lock).length = 32 := by rw [hc_len]; exact h32
  have hth : ∀ e : EC, List.take 32 (Go.EW.hc o.pay.lock ++ [e]) = Go.EW.hc o.pay.lock := fun e => by rw [List.take_append_of_le_length (by omega), List.take_of_length_le (by omega)]
  have hat : ∀ e : EC, (Go.EW.hc o.pay.lock ++ [e])[32]? = some e := fun e => by rw [List.getElem?_append_right (by omega), hcl]; rfl
  refine ecalls k_WireGives ?_
  simp [c_WireGives, SV, staC, I, OpV, wopC, t32, h32, tk33 h32, dr33 h32]
  refine call0 (longState_ok s hs) (by simp [SV, staC]) ?_
  rintro y H' ⟨rfl, rfl⟩
  refine ⟨.inl (by simp), le_ok rfl, ?_⟩
  by_cases hl : longS s = true
  · simp [hl]
    refine call0 (sure_ok) (by simp [Ptr, I, EV.lit, Bs, SV, staC, SE, OpV, wopC]) ?_
    rintro y H' ⟨rfl, rfl⟩
    refine ⟨.inl (by simp [Ptr, I, EV.lit, Bs, SV, staC, SE, OpV, wopC]), le_ok rfl, ?_⟩
    simp [Ptr, I, EV.lit, Bs, SV, staC, SE, OpV, wopC]
    exact fin [] (by decide) rfl rfl rfl ⟨rfl, rfl⟩
  have hl' : longS s = false := by simpa using hl
  have hsm := (longS_small hl').1
  by_cases h1000 : (1000 : Int) < (o.sec.length : Int)
  · simp [hl', hat, h1000]
    refine call0 (sure_ok) (by simp [Ptr, I, EV.lit, Bs, SV, staC, SE, OpV, wopC]) ?_
    rintro y H' ⟨rfl, rfl⟩
    refine ⟨.inl (by simp [Ptr, I, EV.lit, Bs, SV, staC, SE, OpV, wopC]), le_ok rfl, ?_⟩
    simp [Ptr, I, EV.lit, Bs, SV, staC, SE, OpV, wopC]
    exact fin [] (by decide) rfl rfl rfl ⟨rfl, rfl⟩
  simp [hl', hat, h1000]
  refine call0 (giveState_ok s hs hsm) (by simp [SV, staC]) ?_
  rintro y H' ⟨rfl, rfl⟩
  refine ⟨.inl (by simp), le_ok rfl, ?_⟩
  simp [SV, staC, t32, h32, tk33 h32, dr33 h32]
  refine call0 (giveOp_ok o ho) (by simp [OpV, wopC]) ?_
  rintro y H' ⟨rfl, rfl⟩
  refine ⟨.inl (by simp [OpV, wopC]), le_ok rfl, ?_⟩
  simp [OpV, wopC]
  refine call0 (WDo_ok s side o hs hsd ho) (by simp [SV, staC, I, OpV, wopC]) ?_
  rintro y H' ⟨rfl, rfl⟩
  refine ⟨.inl (by simp), le_ok rfl, ?_⟩
  obtain ⟨r, hr, hz, hg⟩ : ∃ r, doS s side o = r ∧ (r.2 ≠ 0 → r.1 = zSta) ∧ (r.2 = 0 → Gd s r.1 ∧ mayS s = true ∧ (side = 0 ∨ side = 1) ∧ othS s side ≤ othS r.1 side ∧ (othS s side + sumQ side s.pays ≤ othS r.1 side + sumQ side r.1.pays ∨ o.kind = 3)) := ⟨_, rfl, doS_z, doS_gd hs op⟩
  rw [hr]
  obtain ⟨t, er⟩ := r
  dsimp only at hz hg
  simp [SE, staC, -errV_0]
  refine alt (fun he => ?_) (fun he => ?_)
  · have ht := hz he
    subst ht
    have w0 : IntKind.i64.wrap 0 = 0 := by decide +kernel
    simp [zSta, w0, -errV_0]
    refine call0 (sure_ok) (by simp [Ptr, I, EV.lit, Bs, SV, staC, SE, OpV, wopC]) ?_
    rintro y H' ⟨rfl, rfl⟩
    refine ⟨.inl (by simp [Ptr, I, EV.lit, Bs, SV, staC, SE, OpV, wopC]), le_ok rfl, ?_⟩
    simp [Ptr, I, EV.lit, Bs, SV, staC, SE, OpV, wopC]
    exact fin [] (by decide) rfl rfl rfl ⟨rfl, rfl⟩
  have he' : er = 0 := by first | exact he | simpa using he
  obtain ⟨⟨g1, g2, g3, g4⟩, hm, hsd, hot, hq⟩ := hg he'
  obtain ⟨ok1, ok2, ok3, ok4, ok5, ok6, ok7⟩ := id hs
  obtain ⟨gk1, gk2, gk3, gk4, gk5, gk6, gk7⟩ := id g4
  obtain ⟨hb, _, hhs, hts0⟩ := mayS_t hm
  have n1 := sumH_nn hhs
  have e1 : total s = s.h0 + s.h1 + sumP s.pays + sumH s.holds := rfl
  obtain ⟨hbt, _, hht, htt0⟩ := mayS_t g1
  have n2 := sumH_nn hht
  have e2 : total t = t.h0 + t.h1 + sumP t.pays + sumH t.holds := rfl
  rcases hsd with e | e
  · have w1 : IntKind.i64.wrap 1 = 1 := by decide +kernel
    have ho1 : othS s side = s.h1 := by rw [e]; rfl
    have ho2 : othS t side = t.h1 := by rw [e]; rfl
    rw [ho1, ho2] at hot hq
    rw [e] at hq
    simp [e, w1]
    have hqs := sumQ_b 0 s.pays (fun p hp => by have := mayP_pos (payL_mem (mayS_t hm).2.1 p hp); omega)
    have hqt := sumQ_b 0 t.pays (fun p hp => by have := mayP_pos (payL_mem (mayS_t g1).2.1 p hp); omega)
    have wI : ∀ i : Nat, i < s.pays.length → IntKind.i64.wrap ((i : Int) + 1) = ((i + 1 : Nat) : Int) := fun i hi => wrap_i64 (by omega) (by omega)
    refine eloop (α := Nat) (fun i => i ≤ s.pays.length) (fun i => s.pays.length - i)
      (fun i => [.any, I .i64 0, .any, .any, .any, .v (.c (.ptr 0 0)), .any, .v (.c (.ptr 1 0)), .v (.c (.ptr 2 0)), .any, I .i64 (s.h1 + sumQ 0 (s.pays.take i)), I .i64 t.h1, I .i64 i, .any, .any, .any, .any, .any, .any, .any, .any, .any, .any, .any, .any, .any, .any, .any, .any, .any, .any, .any, .any, .any, .any, .any, .any, .any, .any, .any, .any, .any, .any, .any, .any, .any, .any, .any, .any, .any, .any, .any, .any, .any, .any, .any, .any, .any, .any, .any, .any, .any, .any, .any, .any, .any, .any, .any, .any, .any, .any, .any, .any, .any, .any, .any, .any, .any, .any, .any, .any, .any, .any, .any, .any, .any, .any, .any, .any, .any, .any, .any, .any, .any, .any, .any, .any, .any, .any, .any, .any, .any, .any, .any, .any, .any, .any, .any, .any, .any, .any, .any, .any, .any, .any, .any, .any, .any, .any, .any, .any, .any, .any, .any, .any, .any, .any, .any, .any, .any, .any, .any, .any, .any, .any, .any, .any, .any, .any, .any, .any, .any, .any, .any, .any, .any, .any, .any, .any, .any, .any, .any, .any, .any, .any, .any, .any, .any])
      (fun _ => [some (.box 33 (wopC o)), some (.box 39 (staC s)), some (.box 39 (staC t))]) 0 [16, 208, 368]
      (Nat.zero_le _) (by simp [I, sumQ]) (by simp [staC, wopC]) (by simp) (by simp) (by simp) ?_
    intro i hi
    simp [I, staC, wopC]
    refine alt (fun hlt => ?_) (fun hlt => ?_)
    · have hln : i < s.pays.length := by omega
      obtain ⟨p, hc⟩ : ∃ p, s.pays[i]? = some p := ⟨s.pays[i], by simp [hln]⟩
      have hge : (payv s.pays)[i]'(by simp [hln]) = payF p := by
        have e := payv_get hc
        rw [List.getElem?_eq_getElem (by simp [hln])] at e
        exact Option.some.inj e
      have hpo := ok4 p (List.mem_of_getElem? hc)
      have hfl := payF_len hpo.2.2.2.2
      have hb1 := hqs (i + 1)
      have hsu := sumQ_succ 0 hc
      have w4 := wI i hln
      simp [hln, hge, hfl, payF]
      refine alt (fun hf => ?_) (fun hf => ?_)
      · have hq1 : qF 0 p = p.am := if_pos hf
        have w5 : IntKind.i64.wrap (s.h1 + sumQ 0 (List.take i s.pays) + p.am) = s.h1 + sumQ 0 (List.take (i + 1) s.pays) := by rw [wrap_i64 (by omega) (by omega)]; omega
        simp [hln, hge, hfl, payF, hf, w4, w5, -Int.natCast_add]
        exact round (i + 1) [0, 1, 2] (by omega) (by omega) (by simp) (by simp) (by simp) (by simp) (by simp)
      · have hq0 : qF 0 p = 0 := if_neg (by simpa using hf)
        have hs0 : sumQ 0 (List.take (i + 1) s.pays) = sumQ 0 (List.take i s.pays) := by omega
        simp [hf, w4, -Int.natCast_add]
        exact round (i + 1) [0, 1, 2] (by omega) (by omega) (by simp [hs0]) (by simp) (by simp) (by simp) (by simp)
    obtain rfl : i = s.pays.length := by omega
    simp [I, staC, wopC]
    have wI : ∀ i : Nat, i < t.pays.length → IntKind.i64.wrap ((i : Int) + 1) = ((i + 1 : Nat) : Int) := fun i hi => wrap_i64 (by omega) (by omega)
    refine eloop (α := Nat) (fun i => i ≤ t.pays.length) (fun i => t.pays.length - i)
      (fun i => [.any, I .i64 0, .any, .any, .any, .v (.c (.ptr 0 0)), .any, .v (.c (.ptr 1 0)), .v (.c (.ptr 2 0)), .any, I .i64 (s.h1 + sumQ 0 s.pays), I .i64 (t.h1 + sumQ 0 (t.pays.take i)), .any, I .i64 i, .any, .any, .any, .any, .any, .any, .any, .any, .any, .any, .any, .any, .any, .any, .any, .any, .any, .any, .any, .any, .any, .any, .any, .any, .any, .any, .any, .any, .any, .any, .any, .any, .any, .any, .any, .any, .any, .any, .any, .any, .any, .any, .any, .any, .any, .any, .any, .any, .any, .any, .any, .any, .any, .any, .any, .any, .any, .any, .any, .any, .any, .any, .any, .any, .any, .any, .any, .any, .any, .any, .any, .any, .any, .any, .any, .any, .any, .any, .any, .any, .any, .any, .any, .any, .any, .any, .any, .any, .any, .any, .any, .any, .any, .any, .any, .any, .any, .any, .any, .any, .any, .any, .any, .any, .any, .any, .any, .any, .any, .any, .any, .any, .any, .any, .any, .any, .any, .any, .any, .any, .any, .any, .any, .any, .any, .any, .any, .any, .any, .any, .any, .any, .any, .any, .any, .any, .any, .any, .any, .any, .any, .any, .any, .any])
      (fun _ => [some (.box 33 (wopC o)), some (.box 39 (staC s)), some (.box 39 (staC t))]) 0 [0, 1, 2]
      (Nat.zero_le _) (by simp [I, sumQ]) (by simp [staC, wopC]) (by simp) (by simp) (by simp) ?_
    intro i hi
    simp [I, staC, wopC]
    refine alt (fun hlt => ?_) (fun hlt => ?_)
    · have hln : i < t.pays.length := by omega
      obtain ⟨p, hc⟩ : ∃ p, t.pays[i]? = some p := ⟨t.pays[i], by simp [hln]⟩
      have hge : (payv t.pays)[i]'(by simp [hln]) = payF p := by
        have e := payv_get hc
        rw [List.getElem?_eq_getElem (by simp [hln])] at e
        exact Option.some.inj e
      have hpo := gk4 p (List.mem_of_getElem? hc)
      have hfl := payF_len hpo.2.2.2.2
      have hb1 := hqt (i + 1)
      have hsu := sumQ_succ 0 hc
      have w4 := wI i hln
      simp [hln, hge, hfl, payF]
      refine alt (fun hf => ?_) (fun hf => ?_)
      · have hq1 : qF 0 p = p.am := if_pos hf
        have w5 : IntKind.i64.wrap (t.h1 + sumQ 0 (List.take i t.pays) + p.am) = t.h1 + sumQ 0 (List.take (i + 1) t.pays) := by rw [wrap_i64 (by omega) (by omega)]; omega
        simp [hln, hge, hfl, payF, hf, w4, w5, -Int.natCast_add]
        exact round (i + 1) [0, 1, 2] (by omega) (by omega) (by simp) (by simp) (by simp) (by simp) (by simp)
      · have hq0 : qF 0 p = 0 := if_neg (by simpa using hf)
        have hs0 : sumQ 0 (List.take (i + 1) t.pays) = sumQ 0 (List.take i t.pays) := by omega
        simp [hf, w4, -Int.natCast_add]
        exact round (i + 1) [0, 1, 2] (by omega) (by omega) (by simp [hs0]) (by simp) (by simp) (by simp) (by simp)
    obtain rfl : i = t.pays.length := by omega
    have z1 : t.h1 ≥ s.h1 := hot
    have wN : IntKind.i64.wrap (s.num + 1) = s.num + 1 := wrap_i64 (by omega) (by omega)
    by_cases hge : s.h1 + sumQ 0 s.pays ≤ t.h1 + sumQ 0 t.pays
    · simp [I, staC, wopC, w1, hot, hge, -errV_0]
      refine call0 (Total_ok t g4) (by simp [SV, staC]) ?_
      rintro y H' ⟨rfl, rfl⟩
      refine ⟨.inl (by simp), le_ok rfl, ?_⟩
      simp [I, staC, wopC, -errV_0]
      refine call0 (Total_ok s hs) (by simp [SV, staC]) ?_
      rintro y H' ⟨rfl, rfl⟩
      refine ⟨.inl (by simp), le_ok rfl, ?_⟩
      have hts : totS t = totS s := by rw [totS, totS, if_pos hm, if_pos g1]; exact g2
      simp [I, staC, wopC, hts, g3, wN, -errV_0]
      refine call0 (sure_ok) (by simp [Ptr, I, EV.lit, Bs, SV, staC, SE, OpV, wopC]) ?_
      rintro y H' ⟨rfl, rfl⟩
      refine ⟨.inl (by simp [Ptr, I, EV.lit, Bs, SV, staC, SE, OpV, wopC]), le_ok rfl, ?_⟩
      simp [Ptr, I, EV.lit, Bs, SV, staC, SE, OpV, wopC]
      exact fin [] (by decide) rfl rfl rfl ⟨rfl, rfl⟩
    · have hk3 : o.kind = 3 := by rcases hq with h | h; exact absurd h hge; exact h
      simp [I, staC, wopC, w1, hot, hge, hk3, -errV_0]
      refine call0 (Total_ok t g4) (by simp [SV, staC]) ?_
      rintro y H' ⟨rfl, rfl⟩
      refine ⟨.inl (by simp), le_ok rfl, ?_⟩
      simp [I, staC, wopC, -errV_0]
      refine call0 (Total_ok s hs) (by simp [SV, staC]) ?_
      rintro y H' ⟨rfl, rfl⟩
      refine ⟨.inl (by simp), le_ok rfl, ?_⟩
      have hts : totS t = totS s := by rw [totS, totS, if_pos hm, if_pos g1]; exact g2
      simp [I, staC, wopC, hts, g3, wN, -errV_0]
      refine call0 (sure_ok) (by simp [Ptr, I, EV.lit, Bs, SV, staC, SE, OpV, wopC]) ?_
      rintro y H' ⟨rfl, rfl⟩
      refine ⟨.inl (by simp [Ptr, I, EV.lit, Bs, SV, staC, SE, OpV, wopC]), le_ok rfl, ?_⟩
      simp [Ptr, I, EV.lit, Bs, SV, staC, SE, OpV, wopC]
      exact fin [] (by decide) rfl rfl rfl ⟨rfl, rfl⟩
  · have w1 : IntKind.i64.wrap 0 = 0 := by decide +kernel
    have ho1 : othS s side = s.h0 := by rw [e]; rfl
    have ho2 : othS t side = t.h0 := by rw [e]; rfl
    rw [ho1, ho2] at hot hq
    rw [e] at hq
    simp [e, w1]
    have hqs := sumQ_b 1 s.pays (fun p hp => by have := mayP_pos (payL_mem (mayS_t hm).2.1 p hp); omega)
    have hqt := sumQ_b 1 t.pays (fun p hp => by have := mayP_pos (payL_mem (mayS_t g1).2.1 p hp); omega)
    have wI : ∀ i : Nat, i < s.pays.length → IntKind.i64.wrap ((i : Int) + 1) = ((i + 1 : Nat) : Int) := fun i hi => wrap_i64 (by omega) (by omega)
    refine eloop (α := Nat) (fun i => i ≤ s.pays.length) (fun i => s.pays.length - i)
      (fun i => [.any, I .i64 1, .any, .any, .any, .v (.c (.ptr 0 0)), .any, .v (.c (.ptr 1 0)), .v (.c (.ptr 2 0)), .any, I .i64 (s.h0 + sumQ 1 (s.pays.take i)), I .i64 t.h0, I .i64 i, .any, .any, .any, .any, .any, .any, .any, .any, .any, .any, .any, .any, .any, .any, .any, .any, .any, .any, .any, .any, .any, .any, .any, .any, .any, .any, .any, .any, .any, .any, .any, .any, .any, .any, .any, .any, .any, .any, .any, .any, .any, .any, .any, .any, .any, .any, .any, .any, .any, .any, .any, .any, .any, .any, .any, .any, .any, .any, .any, .any, .any, .any, .any, .any, .any, .any, .any, .any, .any, .any, .any, .any, .any, .any, .any, .any, .any, .any, .any, .any, .any, .any, .any, .any, .any, .any, .any, .any, .any, .any, .any, .any, .any, .any, .any, .any, .any, .any, .any, .any, .any, .any, .any, .any, .any, .any, .any, .any, .any, .any, .any, .any, .any, .any, .any, .any, .any, .any, .any, .any, .any, .any, .any, .any, .any, .any, .any, .any, .any, .any, .any, .any, .any, .any, .any, .any, .any, .any, .any, .any, .any, .any, .any, .any, .any])
      (fun _ => [some (.box 33 (wopC o)), some (.box 39 (staC s)), some (.box 39 (staC t))]) 0 [16, 208, 368]
      (Nat.zero_le _) (by simp [I, sumQ]) (by simp [staC, wopC]) (by simp) (by simp) (by simp) ?_
    intro i hi
    simp [I, staC, wopC]
    refine alt (fun hlt => ?_) (fun hlt => ?_)
    · have hln : i < s.pays.length := by omega
      obtain ⟨p, hc⟩ : ∃ p, s.pays[i]? = some p := ⟨s.pays[i], by simp [hln]⟩
      have hge : (payv s.pays)[i]'(by simp [hln]) = payF p := by
        have e := payv_get hc
        rw [List.getElem?_eq_getElem (by simp [hln])] at e
        exact Option.some.inj e
      have hpo := ok4 p (List.mem_of_getElem? hc)
      have hfl := payF_len hpo.2.2.2.2
      have hb1 := hqs (i + 1)
      have hsu := sumQ_succ 1 hc
      have w4 := wI i hln
      simp [hln, hge, hfl, payF]
      refine alt (fun hf => ?_) (fun hf => ?_)
      · have hq1 : qF 1 p = p.am := if_pos hf
        have w5 : IntKind.i64.wrap (s.h0 + sumQ 1 (List.take i s.pays) + p.am) = s.h0 + sumQ 1 (List.take (i + 1) s.pays) := by rw [wrap_i64 (by omega) (by omega)]; omega
        simp [hln, hge, hfl, payF, hf, w4, w5, -Int.natCast_add]
        exact round (i + 1) [0, 1, 2] (by omega) (by omega) (by simp) (by simp) (by simp) (by simp) (by simp)
      · have hq0 : qF 1 p = 0 := if_neg (by simpa using hf)
        have hs0 : sumQ 1 (List.take (i + 1) s.pays) = sumQ 1 (List.take i s.pays) := by omega
        simp [hf, w4, -Int.natCast_add]
        exact round (i + 1) [0, 1, 2] (by omega) (by omega) (by simp [hs0]) (by simp) (by simp) (by simp) (by simp)
    obtain rfl : i = s.pays.length := by omega
    simp [I, staC, wopC]
    have wI : ∀ i : Nat, i < t.pays.length → IntKind.i64.wrap ((i : Int) + 1) = ((i + 1 : Nat) : Int) := fun i hi => wrap_i64 (by omega) (by omega)
    refine eloop (α := Nat) (fun i => i ≤ t.pays.length) (fun i => t.pays.length - i)
      (fun i => [.any, I .i64 1, .any, .any, .any, .v (.c (.ptr 0 0)), .any, .v (.c (.ptr 1 0)), .v (.c (.ptr 2 0)), .any, I .i64 (s.h0 + sumQ 1 s.pays), I .i64 (t.h0 + sumQ 1 (t.pays.take i)), .any, I .i64 i, .any, .any, .any, .any, .any, .any, .any, .any, .any, .any, .any, .any, .any, .any, .any, .any, .any, .any, .any, .any, .any, .any, .any, .any, .any, .any, .any, .any, .any, .any, .any, .any, .any, .any, .any, .any, .any, .any, .any, .any, .any, .any, .any, .any, .any, .any, .any, .any, .any, .any, .any, .any, .any, .any, .any, .any, .any, .any, .any, .any, .any, .any, .any, .any, .any, .any, .any, .any, .any, .any, .any, .any, .any, .any, .any, .any, .any, .any, .any, .any, .any, .any, .any, .any, .any, .any, .any, .any, .any, .any, .any, .any, .any, .any, .any, .any, .any, .any, .any, .any, .any, .any, .any, .any, .any, .any, .any, .any, .any, .any, .any, .any, .any, .any, .any, .any, .any, .any, .any, .any, .any, .any, .any, .any, .any, .any, .any, .any, .any, .any, .any, .any, .any, .any, .any, .any, .any, .any, .any, .any, .any, .any, .any, .any])
      (fun _ => [some (.box 33 (wopC o)), some (.box 39 (staC s)), some (.box 39 (staC t))]) 0 [0, 1, 2]
      (Nat.zero_le _) (by simp [I, sumQ]) (by simp [staC, wopC]) (by simp) (by simp) (by simp) ?_
    intro i hi
    simp [I, staC, wopC]
    refine alt (fun hlt => ?_) (fun hlt => ?_)
    · have hln : i < t.pays.length := by omega
      obtain ⟨p, hc⟩ : ∃ p, t.pays[i]? = some p := ⟨t.pays[i], by simp [hln]⟩
      have hge : (payv t.pays)[i]'(by simp [hln]) = payF p := by
        have e := payv_get hc
        rw [List.getElem?_eq_getElem (by simp [hln])] at e
        exact Option.some.inj e
      have hpo := gk4 p (List.mem_of_getElem? hc)
      have hfl := payF_len hpo.2.2.2.2
      have hb1 := hqt (i + 1)
      have hsu := sumQ_succ 1 hc
      have w4 := wI i hln
      simp [hln, hge, hfl, payF]
      refine alt (fun hf => ?_) (fun hf => ?_)
      · have hq1 : qF 1 p = p.am := if_pos hf
        have w5 : IntKind.i64.wrap (t.h0 + sumQ 1 (List.take i t.pays) + p.am) = t.h0 + sumQ 1 (List.take (i + 1) t.pays) := by rw [wrap_i64 (by omega) (by omega)]; omega
        simp [hln, hge, hfl, payF, hf, w4, w5, -Int.natCast_add]
        exact round (i + 1) [0, 1, 2] (by omega) (by omega) (by simp) (by simp) (by simp) (by simp) (by simp)
      · have hq0 : qF 1 p = 0 := if_neg (by simpa using hf)
        have hs0 : sumQ 1 (List.take (i + 1) t.pays) = sumQ 1 (List.take i t.pays) := by omega
        simp [hf, w4, -Int.natCast_add]
        exact round (i + 1) [0, 1, 2] (by omega) (by omega) (by simp [hs0]) (by simp) (by simp) (by simp) (by simp)
    obtain rfl : i = t.pays.length := by omega
    have z1 : t.h0 ≥ s.h0 := hot
    have wN : IntKind.i64.wrap (s.num + 1) = s.num + 1 := wrap_i64 (by omega) (by omega)
    by_cases hge : s.h0 + sumQ 1 s.pays ≤ t.h0 + sumQ 1 t.pays
    · simp [I, staC, wopC, w1, hot, hge, -errV_0]
      refine call0 (Total_ok t g4) (by simp [SV, staC]) ?_
      rintro y H' ⟨rfl, rfl⟩
      refine ⟨.inl (by simp), le_ok rfl, ?_⟩
      simp [I, staC, wopC, -errV_0]
      refine call0 (Total_ok s hs) (by simp [SV, staC]) ?_
      rintro y H' ⟨rfl, rfl⟩
      refine ⟨.inl (by simp), le_ok rfl, ?_⟩
      have hts : totS t = totS s := by rw [totS, totS, if_pos hm, if_pos g1]; exact g2
      simp [I, staC, wopC, hts, g3, wN, -errV_0]
      refine call0 (sure_ok) (by simp [Ptr, I, EV.lit, Bs, SV, staC, SE, OpV, wopC]) ?_
      rintro y H' ⟨rfl, rfl⟩
      refine ⟨.inl (by simp [Ptr, I, EV.lit, Bs, SV, staC, SE, OpV, wopC]), le_ok rfl, ?_⟩
      simp [Ptr, I, EV.lit, Bs, SV, staC, SE, OpV, wopC]
      exact fin [] (by decide) rfl rfl rfl ⟨rfl, rfl⟩
    · have hk3 : o.kind = 3 := by rcases hq with h | h; exact absurd h hge; exact h
      simp [I, staC, wopC, w1, hot, hge, hk3, -errV_0]
      refine call0 (Total_ok t g4) (by simp [SV, staC]) ?_
      rintro y H' ⟨rfl, rfl⟩
      refine ⟨.inl (by simp), le_ok rfl, ?_⟩
      simp [I, staC, wopC, -errV_0]
      refine call0 (Total_ok s hs) (by simp [SV, staC]) ?_
      rintro y H' ⟨rfl, rfl⟩
      refine ⟨.inl (by simp), le_ok rfl, ?_⟩
      have hts : totS t = totS s := by rw [totS, totS, if_pos hm, if_pos g1]; exact g2
      simp [I, staC, wopC, hts, g3, wN, -errV_0]
      refine call0 (sure_ok) (by simp [Ptr, I, EV.lit, Bs, SV, staC, SE, OpV, wopC]) ?_
      rintro y H' ⟨rfl, rfl⟩
      refine ⟨.inl (by simp [Ptr, I, EV.lit, Bs, SV, staC, SE, OpV, wopC]), le_ok rfl, ?_⟩
      simp [Ptr, I, EV.lit, Bs, SV, staC, SE, OpV, wopC]
      exact fin [] (by decide) rfl rfl rfl ⟨rfl, rfl⟩

end Go.Proofs.YtpilpjameifcfaaDoor
