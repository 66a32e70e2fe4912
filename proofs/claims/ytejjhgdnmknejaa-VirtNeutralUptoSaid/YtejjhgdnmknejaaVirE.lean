import Derived.Test.YtejjhgdnmknejaaVirD
import Derived.Test.YtejjhgdnmknejaaState3
namespace Go.Proofs.Ytejjhgdnmknejaa
open Go Go.EW
set_option linter.unusedSimpArgs false
set_option linter.unusedVariables false

@[simp] def l_IdxI_1 (_ : Unit) : List EOp := [⟨0, (some 4), none, (.q (.mov (.k (.int .i64 0)))), []⟩]
@[simp] def b_IdxI_2 (_ : Unit) : EB := reg0 (hid l_IdxI_1) 1
@[simp] def l_IdxI_3 (_ : Unit) : List EOp := [⟨0, (some 6), none, (.q (.mov (.t 0))), []⟩, ⟨1, (some 7), none, (.q (.len (.t 6))), []⟩, ⟨2, (some 8), none, (.q (.mov (.k (.int .i64 0)))), []⟩]
@[simp] def b_IdxI_4 (_ : Unit) : EB := reg0 (hid l_IdxI_3) 3
@[simp] def l_IdxI_5 (_ : Unit) : List EOp := [⟨0, (some 9), none, (.q (.bin .lss (.t 8) (.t 7))), []⟩]
@[simp] def b_IdxI_6 (_ : Unit) : EB := reg0 (hid l_IdxI_5) 1
@[simp] def b_IdxI_7 (_ : Unit) : EB := .cond (.t 9) .skip (.exit 0)
@[simp] def l_IdxI_8 (_ : Unit) : List EOp := [⟨0, (some 10), none, (.q (.mov (.t 8))), []⟩, ⟨1, (some 5), none, (.q (.mov (.t 10))), []⟩]
@[simp] def b_IdxI_9 (_ : Unit) : EB := reg0 (hid l_IdxI_8) 2
@[simp] def l_IdxI_10 (_ : Unit) : List EOp := [⟨0, (some 11), none, (.q (.mov (.t 1))), []⟩, ⟨1, (some 12), none, (.q (.mov (.t 0))), []⟩, ⟨2, (some 13), none, (.q (.mov (.t 5))), []⟩, ⟨3, (some 14), none, (.q (.isl 1 (.t 12) (.t 13))), []⟩, ⟨4, (some 15), none, (.q (.ldc (.t 14))), []⟩, ⟨5, (some 16), none, (.q (.bin .eql (.t 11) (.t 15))), []⟩]
@[simp] def b_IdxI_11 (_ : Unit) : EB := reg0 (hid l_IdxI_10) 6
@[simp] def l_IdxI_12 (_ : Unit) : List EOp := [⟨0, (some 17), none, (.q (.mov (.t 5))), []⟩, ⟨1, (some 4), none, (.q (.mov (.t 17))), []⟩]
@[simp] def b_IdxI_13 (_ : Unit) : EB := reg0 (hid l_IdxI_12) 2
@[simp] def b_IdxI_14 (_ : Unit) : EB := .seq (hid b_IdxI_13) .ret
@[simp] def b_IdxI_15 (_ : Unit) : EB := .cond (.t 16) (hid b_IdxI_14) .skip
@[simp] def b_IdxI_16 (_ : Unit) : EB := .seq (hid b_IdxI_11) (hid b_IdxI_15)
@[simp] def b_IdxI_17 (_ : Unit) : EB := .seq (hid b_IdxI_9) (hid b_IdxI_16)
@[simp] def b_IdxI_18 (_ : Unit) : EB := .block 1 (hid b_IdxI_17)
@[simp] def l_IdxI_19 (_ : Unit) : List EOp := [⟨0, (some 18), none, (.q (.bin .add (.t 8) (.k (.int .i64 1)))), []⟩, ⟨1, (some 8), none, (.q (.mov (.t 18))), []⟩]
@[simp] def b_IdxI_20 (_ : Unit) : EB := reg0 (hid l_IdxI_19) 2
@[simp] def b_IdxI_21 (_ : Unit) : EB := .seq (hid b_IdxI_18) (hid b_IdxI_20)
@[simp] def b_IdxI_22 (_ : Unit) : EB := .seq (hid b_IdxI_7) (hid b_IdxI_21)
@[simp] def b_IdxI_23 (_ : Unit) : EB := .seq (hid b_IdxI_6) (hid b_IdxI_22)
@[simp] def b_IdxI_24 (_ : Unit) : EB := .loop (hid b_IdxI_23)
@[simp] def b_IdxI_25 (_ : Unit) : EB := .block 0 (hid b_IdxI_24)
@[simp] def b_IdxI_26 (_ : Unit) : EB := .seq (hid b_IdxI_4) (hid b_IdxI_25)
@[simp] def l_IdxI_27 (_ : Unit) : List EOp := [⟨0, (some 4), none, (.q (.mov (.k (.int .i64 (-1))))), []⟩]
@[simp] def b_IdxI_28 (_ : Unit) : EB := reg0 (hid l_IdxI_27) 1
@[simp] def b_IdxI_29 (_ : Unit) : EB := .seq (hid b_IdxI_28) .ret
@[simp] def b_IdxI_30 (_ : Unit) : EB := .seq (hid b_IdxI_26) (hid b_IdxI_29)
@[simp] def b_IdxI_31 (_ : Unit) : EB := .seq (hid b_IdxI_2) (hid b_IdxI_30)
def c_IdxI : EB × List QOp × Nat := ((hid b_IdxI_31), [(.mov (.t 4))], 19)
theorem k_IdxI : cfun Try.prog 19 = some c_IdxI := by kernel_rfl

@[simp] def l_Vsides_1 (_ : Unit) : List EOp := [⟨0, (some 1), none, (.q (.box 33 (.t 0))), []⟩, ⟨1, (some 2), none, (.q (.mov (.k (.int .i64 0)))), []⟩, ⟨2, (some 3), none, (.q (.mov (.k (.int .i64 0)))), []⟩]
@[simp] def b_Vsides_2 (_ : Unit) : EB := reg0 (hid l_Vsides_1) 3
@[simp] def l_Vsides_5 (_ : Unit) : List EOp := [⟨6, (some 10), none, (.call 19 [(.t 6), (.t 9)]), [7, 8, 9, 10, 11, 12]⟩, ⟨13, (some 17), none, (.call 19 [(.t 13), (.t 16)]), []⟩, ⟨14, (some 2), none, (.q (.mov (.t 10))), []⟩, ⟨15, (some 3), none, (.q (.mov (.t 17))), []⟩]
@[simp] def l_Vsides_4 (_ : Unit) : List EOp := ⟨7, (some 11), none, (.q (.fad 38 (.t 1))), []⟩ :: ⟨8, (some 12), none, (.q (.fad 34 (.t 11))), []⟩ :: ⟨9, (some 13), none, (.q (.sar 2 (.t 12) none none)), []⟩ :: ⟨10, (some 14), none, (.q (.fad 76 (.t 1))), []⟩ :: ⟨11, (some 15), none, (.q (.iad 3 1 (.t 14) (.k (.int .i64 1)))), []⟩ :: ⟨12, (some 16), none, (.q (.ldc (.t 15))), []⟩ :: hid l_Vsides_5
@[simp] def l_Vsides_3 (_ : Unit) : List EOp := ⟨0, (some 4), none, (.q (.fad 0 (.t 1))), []⟩ :: ⟨1, (some 5), none, (.q (.fad 34 (.t 4))), []⟩ :: ⟨2, (some 6), none, (.q (.sar 2 (.t 5) none none)), []⟩ :: ⟨3, (some 7), none, (.q (.fad 76 (.t 1))), []⟩ :: ⟨4, (some 8), none, (.q (.iad 3 1 (.t 7) (.k (.int .i64 0)))), []⟩ :: ⟨5, (some 9), none, (.q (.ldc (.t 8))), []⟩ :: hid l_Vsides_4
@[simp] def b_Vsides_6 (_ : Unit) : EB := reg1 (hid l_Vsides_3) 16
@[simp] def b_Vsides_7 (_ : Unit) : EB := .seq (hid b_Vsides_6) .ret
@[simp] def b_Vsides_8 (_ : Unit) : EB := .seq (hid b_Vsides_2) (hid b_Vsides_7)
def c_Vsides : EB × List QOp × Nat := ((hid b_Vsides_8), [(.mov (.t 2)), (.mov (.t 3))], 18)
theorem k_Vsides : cfun Try.prog 11 = some c_Vsides := by kernel_rfl

@[simp] def l_Vhold_1 (_ : Unit) : List EOp := [⟨0, (some 2), none, (.q (.box 33 (.t 0))), []⟩, ⟨1, (some 4), none, (.q (.alloc 57 [(.int .i64 0), (.int .i64 0), (.slice none 0 0)])), []⟩]
@[simp] def b_Vhold_2 (_ : Unit) : EB := reg0 (hid l_Vhold_1) 2
@[simp] def l_Vhold_3 (_ : Unit) : List EOp := [⟨0, (some 6), none, (.q (.fad 76 (.t 2))), []⟩, ⟨1, (some 7), none, (.q (.sar 3 (.t 6) none none)), []⟩, ⟨2, (some 8), none, (.call 26 [(.t 7)]), []⟩, ⟨3, (some 5), none, (.q (.mov (.t 8))), []⟩]
@[simp] def b_Vhold_4 (_ : Unit) : EB := reg0 (hid l_Vhold_3) 4
@[simp] def l_Vhold_5 (_ : Unit) : List EOp := [⟨0, (some 9), none, (.q (.mov (.t 5))), []⟩, ⟨1, (some 10), none, (.call 28 [(.t 9)]), []⟩]
@[simp] def b_Vhold_6 (_ : Unit) : EB := reg0 (hid l_Vhold_5) 2
@[simp] def l_Vhold_7 (_ : Unit) : List EOp := [⟨0, (some 11), none, (.q (.mov (.t 1))), []⟩, ⟨1, (some 12), none, (.q (.fad 79 (.t 2))), []⟩, ⟨2, (some 13), none, (.q (.ldc (.t 12))), []⟩, ⟨3, (some 14), none, (.q (.mov (.t 5))), []⟩, ⟨4, (some 15), none, (.q (.build [(.int .i64 0), (.int .i64 0), (.slice none 0 0)] [(0, 1, (.t 11)), (1, 1, (.t 13)), (2, 1, (.t 14))])), []⟩, ⟨5, none, none, (.fz (.sto 3 (.t 4) (.t 15))), []⟩]
@[simp] def b_Vhold_8 (_ : Unit) : EB := reg0 (hid l_Vhold_7) 6
@[simp] def b_Vhold_9 (_ : Unit) : EB := .seq (hid b_Vhold_8) .ret
@[simp] def b_Vhold_10 (_ : Unit) : EB := .seq (hid b_Vhold_6) (hid b_Vhold_9)
@[simp] def b_Vhold_11 (_ : Unit) : EB := .seq (hid b_Vhold_4) (hid b_Vhold_10)
@[simp] def b_Vhold_12 (_ : Unit) : EB := .seq (hid b_Vhold_2) (hid b_Vhold_11)
def c_Vhold : EB × List QOp × Nat := ((hid b_Vhold_12), [(.lda 3 (.t 4))], 16)
theorem k_Vhold : cfun Try.prog 13 = some c_Vhold := by kernel_rfl


def sid (a b x : Int) : Int := if a = x then 0 else if b = x then 1 else -1
theorem IdxI_ok (a b x : Int) : ECalls Try.prog 19 [IL [a, b], I .i64 x] [] fun y H' => H' = [] ∧ y = I .i64 (sid a b x) := by
  refine ecalls k_IdxI ?_
  simp [c_IdxI, IL, I]
  refine eloop (α := Nat) (fun i => i ≤ 2 ∧ (0 < i → ¬ a = x) ∧ (1 < i → ¬ b = x)) (fun i => 2 - i) (fun i => [IL [a, b], I .i64 x, .any, .any, .any, .any, .any, I .i64 2, I .i64 i, .any, .any, .any, .any, .any, .any, .any, .any, .any, .any]) (fun _ => []) 0 []
    ⟨by omega, by omega, by omega⟩ (by simp [I, IL]) (by simp) (by simp) (by simp) (by simp) ?_
  rintro i ⟨hi, h0, h1⟩
  rcases (by omega : i = 0 ∨ i = 1 ∨ i = 2) with rfl | rfl | rfl
  · by_cases ha : a = x
    · have hv : sid a b x = 0 := if_pos ha
      rw [hv]
      subst ha
      simp [I, IL, intv]
      exact fin [] (by decide) rfl rfl rfl ⟨rfl, rfl⟩
    · have ha' : ¬ x = a := fun h => ha h.symm
      have w : IntKind.i64.wrap 1 = 1 := by decide +kernel
      simp [I, IL, intv, ha', w]
      exact round 1 [] ⟨by omega, fun _ => ha, by omega⟩ (by omega) (by simp [I, IL, intv]) (by simp) (by simp) (by simp) (by simp)
  · have ha := h0 (by omega)
    by_cases hb : b = x
    · have hv : sid a b x = 1 := by unfold sid; rw [if_neg ha, if_pos hb]
      rw [hv]
      subst hb
      simp [I, IL, intv]
      exact fin [] (by decide) rfl rfl rfl ⟨rfl, rfl⟩
    · have hb' : ¬ x = b := fun h => hb h.symm
      have w : IntKind.i64.wrap (1 + 1) = 2 := by decide +kernel
      have w2 : IntKind.i64.wrap 2 = 2 := by decide +kernel
      simp [I, IL, intv, hb', w, w2]
      exact round 2 [] ⟨by omega, fun _ => ha, fun _ => hb⟩ (by omega) (by simp [I, IL, intv]) (by simp) (by simp) (by simp) (by simp)
  · have ha := h0 (by omega)
    have hb := h1 (by omega)
    have hv : sid a b x = -1 := by unfold sid; rw [if_neg ha, if_neg hb]
    rw [hv]
    simp [I, IL]
    exact fin [] (by decide) rfl rfl rfl ⟨rfl, rfl⟩

def sidV (p : Prm) (who : Int) : Int × Nat := if p.k0 = who then (0, 0) else if p.k1 = who then (1, 0) else (0, 33)
theorem frz2 (a b : Int) : frzAll [iC a, iC b] = some [iF a, iF b] := rfl

theorem Vsides_ok (r : Rte) (hr : r.ok) : ECalls Try.prog 11 [RVv r] [] fun y H' => H' = [] ∧ y = .tup [.c (iC (sid r.f.k0 r.f.k1 r.a)), .c (iC (sid r.s.k0 r.s.k1 r.b))] := by
  obtain ⟨⟨h1, _⟩, ⟨h2, _⟩, _⟩ := id hr
  have l0 := rteC_len h1 h2
  have t0 := rt_take h1 h2
  have e76 := idx_of (rt_76 h1 h2) (by omega)
  have e77 := idx_of (rt_77 h1 h2) (by omega)
  have k1 := rt_k1 h1
  have k2 := rt_k2 h1 h2
  refine ecalls k_Vsides ?_
  simp [c_Vsides, RVv, I, l0, t0, e76, e77, iC]
  refine call0 (IdxI_ok r.f.k0 r.f.k1 r.a) (by simp [IL, I, l0, k1, iC, intv]) ?_
  rintro y H' ⟨rfl, rfl⟩
  refine ⟨.inr ⟨rfl, by simp⟩, le_ok rfl, ?_⟩
  simp [I, l0, t0, e76, e77, iC]
  refine call0 (IdxI_ok r.s.k0 r.s.k1 r.b) (by simp [IL, I, l0, k2, iC, intv]) ?_
  rintro y H' ⟨rfl, rfl⟩
  refine ⟨.inr ⟨rfl, by simp⟩, le_ok rfl, ?_⟩
  simp [I]
  exact fin [] (by decide) rfl rfl rfl ⟨rfl, rfl⟩

/-- What is held. -/
def holV (r : Rte) (id' : Int) : Hol := ⟨id', r.am, srt [r.a, r.b, r.c]⟩
theorem Vhold_ok (r : Rte) (id' : Int) (hr : r.ok) : ECalls Try.prog 13 [RVv r, I .i64 id'] [] fun y H' => H' = [some (.row 3 1 (intv (srt [r.a, r.b, r.c])))] ∧ y = .v (.agg [iC id', iC r.am, .row 0 3]) := by
  obtain ⟨⟨h1, _⟩, ⟨h2, _⟩, _⟩ := id hr
  have l0 := rteC_len h1 h2
  have t0 := rt_take h1 h2
  have e79 := idx_of (rt_79 h1 h2) (by omega)
  have d76 := rt_d76 h1 h2
  have hso := SortI_ok [r.a, r.b, r.c] rfl
  have hcl := cloneI_ok [r.a, r.b, r.c] (by simp)
  refine ecalls k_Vhold ?_
  simp [c_Vhold, RVv, I, l0, t0, e79, iC]
  refine call0 hcl (by simp [IL, l0, d76, frzAll, frz, iC, intv]) ?_
  rintro y H' ⟨rfl, rfl⟩
  refine ⟨.inr ⟨rfl, by simp [intv]⟩, by simp, ?_⟩
  simp
  refine callH [64] hso (by simp) (by simp) (by simp) (by simp) (by simp) ?_
  rintro y H' ⟨rfl, rfl⟩
  refine ⟨.inl (by simp), by simp, ?_⟩
  simp [e79, l0, iC]
  exact fin [64] (by decide) rfl rfl rfl ⟨rfl, rfl⟩

end Go.Proofs.Ytejjhgdnmknejaa
