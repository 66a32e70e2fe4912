import Derived.Test.YtejjhgdnmknejaaState4R
import Derived.Test.YtejjhgdnmknejaaInsP
namespace Go.Proofs.Ytejjhgdnmknejaa
open Go Go.EW
set_option linter.unusedSimpArgs false
set_option linter.unusedVariables false

@[simp] def l_CmpI_1 (_ : Unit) : List EOp := [⟨0, (some 4), none, (.q (.mov (.k (.int .i64 0)))), []⟩]
@[simp] def b_CmpI_2 (_ : Unit) : EB := reg0 (hid l_CmpI_1) 1
@[simp] def l_CmpI_3 (_ : Unit) : List EOp := [⟨0, (some 7), none, (.q (.mov (.t 0))), []⟩, ⟨1, (some 8), none, (.call 44 [(.t 7)]), []⟩, ⟨2, (some 5), none, (.q (.mov (.t 8))), []⟩]
@[simp] def b_CmpI_4 (_ : Unit) : EB := reg0 (hid l_CmpI_3) 3
@[simp] def l_CmpI_5 (_ : Unit) : List EOp := [⟨0, (some 9), none, (.q (.mov (.t 1))), []⟩, ⟨1, (some 10), none, (.call 44 [(.t 9)]), []⟩, ⟨2, (some 6), none, (.q (.mov (.t 10))), []⟩]
@[simp] def b_CmpI_6 (_ : Unit) : EB := reg0 (hid l_CmpI_5) 3
@[simp] def l_CmpI_7 (_ : Unit) : List EOp := [⟨0, (some 11), none, (.q (.mov (.t 5))), []⟩]
@[simp] def b_CmpI_8 (_ : Unit) : EB := reg0 (hid l_CmpI_7) 1
@[simp] def l_CmpI_9 (_ : Unit) : List EOp := [⟨0, (some 12), none, (.q (.mov (.t 6))), []⟩]
@[simp] def b_CmpI_10 (_ : Unit) : EB := reg0 (hid l_CmpI_9) 1
@[simp] def l_CmpI_11 (_ : Unit) : List EOp := [⟨0, (some 4), none, (.q (.mov (.k (.int .i64 0)))), []⟩]
@[simp] def b_CmpI_12 (_ : Unit) : EB := reg0 (hid l_CmpI_11) 1
@[simp] def b_CmpI_13 (_ : Unit) : EB := .seq (hid b_CmpI_12) .ret
@[simp] def b_CmpI_14 (_ : Unit) : EB := .cond (.t 12) (hid b_CmpI_13) .skip
@[simp] def b_CmpI_15 (_ : Unit) : EB := .seq (hid b_CmpI_10) (hid b_CmpI_14)
@[simp] def l_CmpI_16 (_ : Unit) : List EOp := [⟨0, (some 4), none, (.q (.mov (.k (.int .i64 (-1))))), []⟩]
@[simp] def b_CmpI_17 (_ : Unit) : EB := reg0 (hid l_CmpI_16) 1
@[simp] def b_CmpI_18 (_ : Unit) : EB := .seq (hid b_CmpI_17) .ret
@[simp] def b_CmpI_19 (_ : Unit) : EB := .seq (hid b_CmpI_15) (hid b_CmpI_18)
@[simp] def b_CmpI_20 (_ : Unit) : EB := .cond (.t 11) (hid b_CmpI_19) .skip
@[simp] def b_CmpI_21 (_ : Unit) : EB := .seq (hid b_CmpI_8) (hid b_CmpI_20)
@[simp] def l_CmpI_22 (_ : Unit) : List EOp := [⟨0, (some 13), none, (.q (.mov (.t 6))), []⟩]
@[simp] def b_CmpI_23 (_ : Unit) : EB := reg0 (hid l_CmpI_22) 1
@[simp] def l_CmpI_24 (_ : Unit) : List EOp := [⟨0, (some 4), none, (.q (.mov (.k (.int .i64 1)))), []⟩]
@[simp] def b_CmpI_25 (_ : Unit) : EB := reg0 (hid l_CmpI_24) 1
@[simp] def b_CmpI_26 (_ : Unit) : EB := .seq (hid b_CmpI_25) .ret
@[simp] def b_CmpI_27 (_ : Unit) : EB := .cond (.t 13) (hid b_CmpI_26) .skip
@[simp] def b_CmpI_28 (_ : Unit) : EB := .seq (hid b_CmpI_23) (hid b_CmpI_27)
@[simp] def l_CmpI_29 (_ : Unit) : List EOp := [⟨0, (some 14), none, (.q (.mov (.t 0))), []⟩, ⟨1, (some 15), none, (.q (.mov (.t 1))), []⟩, ⟨2, (some 16), none, (.q (.bin .lss (.t 14) (.t 15))), []⟩]
@[simp] def b_CmpI_30 (_ : Unit) : EB := reg0 (hid l_CmpI_29) 3
@[simp] def l_CmpI_31 (_ : Unit) : List EOp := [⟨0, (some 4), none, (.q (.mov (.k (.int .i64 (-1))))), []⟩]
@[simp] def b_CmpI_32 (_ : Unit) : EB := reg0 (hid l_CmpI_31) 1
@[simp] def b_CmpI_33 (_ : Unit) : EB := .seq (hid b_CmpI_32) .ret
@[simp] def b_CmpI_34 (_ : Unit) : EB := .cond (.t 16) (hid b_CmpI_33) .skip
@[simp] def b_CmpI_35 (_ : Unit) : EB := .seq (hid b_CmpI_30) (hid b_CmpI_34)
@[simp] def l_CmpI_36 (_ : Unit) : List EOp := [⟨0, (some 17), none, (.q (.mov (.t 0))), []⟩, ⟨1, (some 18), none, (.q (.mov (.t 1))), []⟩, ⟨2, (some 19), none, (.q (.bin .gtr (.t 17) (.t 18))), []⟩]
@[simp] def b_CmpI_37 (_ : Unit) : EB := reg0 (hid l_CmpI_36) 3
@[simp] def l_CmpI_38 (_ : Unit) : List EOp := [⟨0, (some 4), none, (.q (.mov (.k (.int .i64 1)))), []⟩]
@[simp] def b_CmpI_39 (_ : Unit) : EB := reg0 (hid l_CmpI_38) 1
@[simp] def b_CmpI_40 (_ : Unit) : EB := .seq (hid b_CmpI_39) .ret
@[simp] def b_CmpI_41 (_ : Unit) : EB := .cond (.t 19) (hid b_CmpI_40) .skip
@[simp] def b_CmpI_42 (_ : Unit) : EB := .seq (hid b_CmpI_37) (hid b_CmpI_41)
@[simp] def l_CmpI_43 (_ : Unit) : List EOp := [⟨0, (some 4), none, (.q (.mov (.k (.int .i64 0)))), []⟩]
@[simp] def b_CmpI_44 (_ : Unit) : EB := reg0 (hid l_CmpI_43) 1
@[simp] def b_CmpI_45 (_ : Unit) : EB := .seq (hid b_CmpI_44) .ret
@[simp] def b_CmpI_46 (_ : Unit) : EB := .seq (hid b_CmpI_42) (hid b_CmpI_45)
@[simp] def b_CmpI_47 (_ : Unit) : EB := .seq (hid b_CmpI_35) (hid b_CmpI_46)
@[simp] def b_CmpI_48 (_ : Unit) : EB := .seq (hid b_CmpI_28) (hid b_CmpI_47)
@[simp] def b_CmpI_49 (_ : Unit) : EB := .seq (hid b_CmpI_21) (hid b_CmpI_48)
@[simp] def b_CmpI_50 (_ : Unit) : EB := .seq (hid b_CmpI_6) (hid b_CmpI_49)
@[simp] def b_CmpI_51 (_ : Unit) : EB := .seq (hid b_CmpI_4) (hid b_CmpI_50)
@[simp] def b_CmpI_52 (_ : Unit) : EB := .seq (hid b_CmpI_2) (hid b_CmpI_51)
def c_CmpI : EB × List QOp × Nat := ((hid b_CmpI_52), [(.mov (.t 4))], 20)
theorem k_CmpI : cfun Try.prog 37 = some c_CmpI := by kernel_rfl

@[simp] def l_NaNI_1 (_ : Unit) : List EOp := [⟨0, (some 2), none, (.q (.mov (.k (.bool false)))), []⟩]
@[simp] def b_NaNI_2 (_ : Unit) : EB := reg0 (hid l_NaNI_1) 1
@[simp] def l_NaNI_3 (_ : Unit) : List EOp := [⟨0, (some 3), none, (.q (.mov (.t 0))), []⟩, ⟨1, (some 4), none, (.q (.mov (.t 0))), []⟩, ⟨2, (some 5), none, (.q (.bin .neq (.t 3) (.t 4))), []⟩, ⟨3, (some 2), none, (.q (.mov (.t 5))), []⟩]
@[simp] def b_NaNI_4 (_ : Unit) : EB := reg0 (hid l_NaNI_3) 4
@[simp] def b_NaNI_5 (_ : Unit) : EB := .seq (hid b_NaNI_4) .ret
@[simp] def b_NaNI_6 (_ : Unit) : EB := .seq (hid b_NaNI_2) (hid b_NaNI_5)
def c_NaNI : EB × List QOp × Nat := ((hid b_NaNI_6), [(.mov (.t 2))], 6)
theorem k_NaNI : cfun Try.prog 44 = some c_NaNI := by kernel_rfl

@[simp] def l_Sslots_1 (_ : Unit) : List EOp := [⟨0, (some 1), none, (.q (.box 37 (.t 0))), []⟩, ⟨1, (some 2), none, (.q (.mov (.k (.int .i64 0)))), []⟩]
@[simp] def b_Sslots_2 (_ : Unit) : EB := reg0 (hid l_Sslots_1) 2
@[simp] def l_Sslots_4 (_ : Unit) : List EOp := [⟨6, (some 9), none, (.q (.bin .add (.t 5) (.t 8))), []⟩, ⟨7, (some 2), none, (.q (.mov (.t 9))), []⟩]
@[simp] def l_Sslots_3 (_ : Unit) : List EOp := ⟨0, (some 3), none, (.q (.fad 3 (.t 1))), []⟩ :: ⟨1, (some 4), none, (.q (.ldc (.t 3))), []⟩ :: ⟨2, (some 5), none, (.q (.len (.t 4))), []⟩ :: ⟨3, (some 6), none, (.q (.fad 4 (.t 1))), []⟩ :: ⟨4, (some 7), none, (.q (.ldc (.t 6))), []⟩ :: ⟨5, (some 8), none, (.q (.len (.t 7))), []⟩ :: hid l_Sslots_4
@[simp] def b_Sslots_5 (_ : Unit) : EB := reg0 (hid l_Sslots_3) 8
@[simp] def b_Sslots_6 (_ : Unit) : EB := .seq (hid b_Sslots_5) .ret
@[simp] def b_Sslots_7 (_ : Unit) : EB := .seq (hid b_Sslots_2) (hid b_Sslots_6)
def c_Sslots : EB × List QOp × Nat := ((hid b_Sslots_7), [(.mov (.t 2))], 10)
theorem k_Sslots : cfun Try.prog 25 = some c_Sslots := by kernel_rfl


@[simp] theorem conAll_payC (H : Nat → Option EO) (ids : List Nat) (p : Pay) : conAll H ids (payC p) = some (payC p) := by simp [payC]
@[simp] theorem strAll_payC (ids : List Nat) (p : Pay) : strAll ids (payC p) = some (payC p) := by simp [payC, strAll, strC]
@[simp] theorem frzAll_payC (p : Pay) : frzAll (payC p) = some (payF p) := by simp [payC, payF, frzAll, frz]
@[simp] theorem refs_payC (p : Pay) : (payC p).flatMap refsC = [] := by simp [payC]
@[simp] theorem fz_payC (ids : List Nat) (p : Pay) : (payC p).flatMap (fzC ids) = [] := by simp [payC]
@[simp] theorem ren_payC (g : Nat → Nat) (p : Pay) : (payC p).map (renC g) = payC p := by simp [payC]
theorem pc0 (p : Pay) : (payC p)[0]? = some (.fz (.lit (.int .i64 p.id))) := rfl
theorem pc1 (p : Pay) : (payC p)[1]? = some (.fz (.lit (.int .i64 p.fr))) := rfl
theorem pc2 (p : Pay) : (payC p)[2]? = some (.fz (.lit (.int .i64 p.am))) := rfl
theorem pc3 (p : Pay) : (payC p)[3]? = some (.fz (.lit (.int .i64 p.af))) := rfl
theorem pe0 (p : Pay) (h : 0 < (payC p).length) : (payC p)[0]'h = .fz (.lit (.int .i64 p.id)) := rfl
theorem pe1 (p : Pay) (h : 1 < (payC p).length) : (payC p)[1]'h = .fz (.lit (.int .i64 p.fr)) := rfl
theorem pe2 (p : Pay) (h : 2 < (payC p).length) : (payC p)[2]'h = .fz (.lit (.int .i64 p.am)) := rfl
theorem pd1 (p : Pay) : (payC p).drop 1 = .fz (.lit (.int .i64 p.fr)) :: .fz (.lit (.int .i64 p.am)) :: .fz (.lit (.int .i64 p.af)) :: hc p.lock := rfl
theorem pd2 (p : Pay) : (payC p).drop 2 = .fz (.lit (.int .i64 p.am)) :: .fz (.lit (.int .i64 p.af)) :: hc p.lock := rfl
/-! ### places in a rising row -/
def posI (l : List Int) (x : Int) : Nat := (l.takeWhile fun k => decide (k < x)).length
def fndI (l : List Int) (x : Int) : Bool := decide (l[posI l x]? = some x)
theorem posI_le (l : List Int) (x : Int) : posI l x ≤ l.length := (List.takeWhile_sublist _).length_le
theorem posI_eq : ∀ {l : List Int} {x : Int} {i : Nat}, i ≤ l.length → (∀ k y, k < i → l[k]? = some y → y < x) → (∀ y, l[i]? = some y → x ≤ y) → posI l x = i
  | [], x, i, h, _, _ => by simp at h; subst h; rfl
  | a :: r, x, 0, _, _, h => by
    have := h a rfl
    simp [posI, List.takeWhile_cons, show ¬ a < x by omega]
  | a :: r, x, i + 1, h0, h1, h2 => by
    have := h1 0 a (by omega) rfl
    have ih := posI_eq (l := r) (x := x) (i := i) (by simpa using h0) (fun k y hk hy => h1 (k + 1) y (by omega) (by simpa using hy)) (fun y hy => h2 y (by simpa using hy))
    unfold posI at ih ⊢
    simp [List.takeWhile_cons, this, ih]
theorem pw_get {l : List Int} (h : l.Pairwise (· < ·)) {i j : Nat} {x y : Int} (hij : i < j) (hx : l[i]? = some x) (hy : l[j]? = some y) : x < y := by
  obtain ⟨hi, rfl⟩ := List.getElem?_eq_some_iff.1 hx
  obtain ⟨hj, rfl⟩ := List.getElem?_eq_some_iff.1 hy
  exact List.pairwise_iff_getElem.1 h i j hi hj hij
theorem payL_lo : ∀ {o : Option Int} {l : List Pay}, payL o l = true → ∀ p ∈ l, ∀ q, o = some q → q < p.id
  | o, [], _, p, hp, q, _ => by simp at hp
  | o, a :: r, h, p, hp, q, hq => by
    simp only [payL, Bool.and_eq_true] at h
    have ha : q < a.id := by
      have := h.1.2
      rw [hq] at this
      exact of_decide_eq_true this
    rcases List.mem_cons.1 hp with rfl | hp
    · exact ha
    · have := payL_lo h.2 p hp a.id rfl
      omega
theorem payL_pw : ∀ {o : Option Int} {l : List Pay}, payL o l = true → (l.map (·.id)).Pairwise (· < ·)
  | o, [], _ => by simp
  | o, a :: r, h => by
    simp only [payL, Bool.and_eq_true] at h
    simp only [List.map_cons, List.pairwise_cons]
    refine ⟨?_, payL_pw h.2⟩
    intro y hy
    obtain ⟨p, hp, rfl⟩ := List.mem_map.1 hy
    exact payL_lo h.2 p hp a.id rfl

def cmpI (a b : Int) : Int := if a < b then -1 else if b < a then 1 else 0
theorem NaNI_ok (a : Int) : ECalls Try.prog 44 [I .i64 a] [] fun y H' => H' = [] ∧ y = .lit (.bool false) := by
  refine ecalls k_NaNI ?_
  simp [c_NaNI, I]
  exact fin [] (by decide) rfl rfl rfl ⟨rfl, rfl⟩
theorem CmpI_ok (a b : Int) : ECalls Try.prog 37 [I .i64 a, I .i64 b] [] fun y H' => H' = [] ∧ y = I .i64 (cmpI a b) := by
  refine ecalls k_CmpI ?_
  simp [c_CmpI, I]
  refine call0 (NaNI_ok a) (by simp [Ptr, I, EV.lit]) ?_
  rintro y H' ⟨rfl, rfl⟩
  refine ⟨.inl (by simp [Ptr, I, EV.lit]), le_ok rfl, ?_⟩
  simp [Ptr, I, EV.lit]
  refine call0 (NaNI_ok b) (by simp [Ptr, I, EV.lit]) ?_
  rintro y H' ⟨rfl, rfl⟩
  refine ⟨.inl (by simp [Ptr, I, EV.lit]), le_ok rfl, ?_⟩
  simp [Ptr, I, EV.lit]
  refine alt (fun h => ?_) (fun h => ?_)
  · have e : cmpI a b = -1 := if_pos h
    rw [e]
    simp
    exact fin [] (by decide) rfl rfl rfl ⟨rfl, rfl⟩
  simp
  refine alt (fun h2 => ?_) (fun h2 => ?_)
  · have e : cmpI a b = 1 := by unfold cmpI; rw [if_neg h, if_pos h2]
    rw [e]
    simp
    exact fin [] (by decide) rfl rfl rfl ⟨rfl, rfl⟩
  · have e : cmpI a b = 0 := by unfold cmpI; rw [if_neg h, if_neg h2]
    rw [e]
    simp
    exact fin [] (by decide) rfl rfl rfl ⟨rfl, rfl⟩

theorem Sslots_ok (s : Sta) (hs : s.ok) : ECalls Try.prog 25 [SV s] [] fun y H' => H' = [] ∧ y = I .i64 ((s.pays.length + s.holds.length : Nat) : Int) := by
  obtain ⟨ok1, ok2, ok3, ok4, ok5, ok6, ok7⟩ := id hs
  have w : IntKind.i64.wrap ((s.pays.length : Int) + (s.holds.length : Int)) = ((s.pays.length + s.holds.length : Nat) : Int) := by rw [wrap_i64 (by omega) (by omega)]; omega
  refine ecalls k_Sslots ?_
  simp [c_Sslots, SV, staC, I, w, -Int.natCast_add]
  exact fin [] (by decide) rfl rfl rfl ⟨rfl, rfl⟩

def sideS (s : Sta) (k : Int) : Int := if k = 0 then s.h0 else s.h1
def insP (l : List Pay) (p : Pay) : List Pay := l.take (posI (l.map (·.id)) p.id) ++ p :: l.drop (posI (l.map (·.id)) p.id)
/-- A payment laid; the error. -/
def addP (s : Sta) (p : Pay) : Sta × Nat :=
  if (nxt s).2 ≠ 0 then (zSta, 1) else if ¬ (p.fr = 0 ∨ p.fr = 1) then (zSta, 33) else if p.am < 10 then (zSta, 27) else if mayP p = false then (zSta, 1)
  else if fndI (s.pays.map (·.id)) p.id = true then (zSta, 9) else if 8 ≤ s.pays.length + s.holds.length then (zSta, 30) else if sideS s p.fr < p.am then (zSta, 20)
  else (⟨s.num + 1, if p.fr = 0 then s.h0 - p.am else s.h0, if p.fr = 0 then s.h1 else s.h1 - p.am, insP s.pays p, s.holds⟩, 0)
theorem payv_ins (l : List Pay) (p : Pay) : payv (insP l p) = (payv l).take (posI (l.map (·.id)) p.id) ++ payF p :: (payv l).drop (posI (l.map (·.id)) p.id) := by simp [payv, insP]
@[simp] theorem errV_9 : Value.iface 59 (.int .i64 9) = errV 9 := rfl
@[simp] theorem errV_30 : Value.iface 59 (.int .i64 30) = errV 30 := rfl
@[simp] theorem errV_8 : Value.iface 59 (.int .i64 8) = errV 8 := rfl

end Go.Proofs.Ytejjhgdnmknejaa
