import Derived.Test.YtpohjnhlhfbnaaaDoorStateA
namespace Go.Proofs.YtpohjnhlhfbnaaaDoor
open Go Go.EW
set_option linter.unusedSimpArgs false
set_option linter.unusedVariables false

@[simp] def l_same_1 (_ : Unit) : List EOp := [⟨0, (some 4), none, (.q (.box 32 (.t 0))), []⟩, ⟨1, (some 6), none, (.q (.box 26 (.t 2))), []⟩, ⟨2, (some 8), none, (.q (.mov (.k (.bool false)))), []⟩]
@[simp] def b_same_2 (_ : Unit) : EB := reg0 (hid l_same_1) 3
@[simp] def l_same_5 (_ : Unit) : List EOp := [⟨12, (some 21), none, (.q (.pick (.t 13) (.t 20) (.k (.bool false)))), []⟩, ⟨13, (some 8), none, (.q (.mov (.t 21))), []⟩]
@[simp] def l_same_4 (_ : Unit) : List EOp := ⟨8, (some 17), (some (13, true)), (.q (.lda 5 (.t 6))), []⟩ :: ⟨6, (some 15), (some (13, true)), (.call 22 [(.t 14)]), [8]⟩ :: ⟨7, (some 16), (some (13, true)), (.q (.b2s (.t 15))), []⟩ :: ⟨9, (some 18), (some (13, true)), (.call 33 [(.t 17)]), [7]⟩ :: ⟨10, (some 19), (some (13, true)), (.q (.b2s (.t 18))), []⟩ :: ⟨11, (some 20), (some (13, true)), (.q (.bin .eql (.t 16) (.t 19))), []⟩ :: hid l_same_5
@[simp] def l_same_3 (_ : Unit) : List EOp := ⟨0, (some 9), none, (.q (.mov (.t 1))), []⟩ :: ⟨2, (some 11), none, (.q (.mov (.t 3))), []⟩ :: ⟨1, (some 10), none, (.call 29 [(.t 9)]), [2]⟩ :: ⟨3, (some 12), none, (.q (.bin .eql (.t 10) (.t 11))), []⟩ :: ⟨4, (some 13), none, (.q (.mov (.t 12))), []⟩ :: ⟨5, (some 14), (some (13, true)), (.q (.lda 5 (.t 4))), []⟩ :: hid l_same_4
@[simp] def b_same_6 (_ : Unit) : EB := reg1 (hid l_same_3) 14
@[simp] def b_same_7 (_ : Unit) : EB := .seq (hid b_same_6) .ret
@[simp] def b_same_8 (_ : Unit) : EB := .seq (hid b_same_2) (hid b_same_7)
def c_same : EB × List QOp × Nat := ((hid b_same_8), [(.mov (.t 8))], 22)
theorem k_same : cfun Tryd.prog 15 = some c_same := by kernel_rfl

@[simp] def l_sure_1 (_ : Unit) : List EOp := [⟨0, (some 0), none, (.q (.mov (.k (.bool false)))), []⟩]
@[simp] def b_sure_2 (_ : Unit) : EB := reg0 (hid l_sure_1) 1
@[simp] def l_sure_4 (_ : Unit) : List EOp := [⟨6, (some 1), none, (.q (.alloc 32 [(.int .i64 0), (.int .i64 0), (.int .i64 0), (.slice none 0 0), (.slice none 0 0)])), []⟩, ⟨7, none, none, (.fz (.sto 5 (.t 1) (.t 7))), []⟩, ⟨8, (some 2), none, (.q (.mov (.t 8))), []⟩]
@[simp] def l_sure_3 (_ : Unit) : List EOp := ⟨0, (some 4), none, (.q (.build [(.int .i64 0), (.int .i64 0)] [(0, 1, (.k (.int .i64 50))), (1, 1, (.k (.int .i64 50)))])), []⟩ :: ⟨1, (some 5), none, (.q (.build [(.int .i64 0), (.int .i64 0), (.int .i64 0), (.slice none 0 0), (.slice none 0 0)] [(1, 2, (.t 4))])), []⟩ :: ⟨2, (some 6), none, (.call 12 [(.t 5), (.k (.int .i64 0)), (.k (.int .i64 20))]), []⟩ :: ⟨3, (some 3), none, (.q (.mov (.t 6))), []⟩ :: ⟨4, (some 7), none, (.q (.ext 0 (.t 3))), []⟩ :: ⟨5, (some 8), none, (.q (.ext 1 (.t 3))), []⟩ :: hid l_sure_4
@[simp] def b_sure_5 (_ : Unit) : EB := reg0 (hid l_sure_3) 9
@[simp] def l_sure_8 (_ : Unit) : List EOp := [⟨12, (some 21), none, (.q (.pick (.t 17) (.t 20) (.k (.bool false)))), []⟩, ⟨13, (some 0), none, (.q (.mov (.t 21))), []⟩]
@[simp] def l_sure_7 (_ : Unit) : List EOp := ⟨6, (some 15), (some (11, true)), (.q (.eqa false 2 .i64 (.t 13) (.t 14))), []⟩ :: ⟨7, (some 16), none, (.q (.pick (.t 11) (.t 15) (.k (.bool false)))), []⟩ :: ⟨8, (some 17), none, (.q (.mov (.t 16))), []⟩ :: ⟨9, (some 18), (some (17, true)), (.q (.fad 0 (.t 1))), []⟩ :: ⟨10, (some 19), (some (17, true)), (.q (.ldc (.t 18))), []⟩ :: ⟨11, (some 20), (some (17, true)), (.q (.bin .eql (.t 19) (.k (.int .i64 1)))), []⟩ :: hid l_sure_8
@[simp] def l_sure_6 (_ : Unit) : List EOp := ⟨0, (some 9), none, (.q (.mov (.t 2))), []⟩ :: ⟨1, (some 10), none, (.q (.eqi false (.t 9))), []⟩ :: ⟨2, (some 11), none, (.q (.mov (.t 10))), []⟩ :: ⟨3, (some 12), (some (11, true)), (.q (.fad 1 (.t 1))), []⟩ :: ⟨4, (some 13), (some (11, true)), (.q (.lda 2 (.t 12))), []⟩ :: ⟨5, (some 14), (some (11, true)), (.q (.build [(.int .i64 0), (.int .i64 0)] [(0, 1, (.k (.int .i64 30))), (1, 1, (.k (.int .i64 70)))])), []⟩ :: hid l_sure_7
@[simp] def b_sure_9 (_ : Unit) : EB := reg0 (hid l_sure_6) 14
@[simp] def b_sure_10 (_ : Unit) : EB := .seq (hid b_sure_9) .ret
@[simp] def b_sure_11 (_ : Unit) : EB := .seq (hid b_sure_5) (hid b_sure_10)
@[simp] def b_sure_12 (_ : Unit) : EB := .seq (hid b_sure_2) (hid b_sure_11)
def c_sure : EB × List QOp × Nat := ((hid b_sure_12), [(.mov (.t 0))], 22)
theorem k_sure : cfun Tryd.prog 11 = some c_sure := by kernel_rfl

@[simp] def l_StateMoves_1 (_ : Unit) : List EOp := [⟨0, (some 3), none, (.q (.box 26 (.t 0))), []⟩, ⟨1, (some 6), none, (.q (.mov (.k (.bool false)))), []⟩]
@[simp] def b_StateMoves_2 (_ : Unit) : EB := reg0 (hid l_StateMoves_1) 2
@[simp] def l_StateMoves_3 (_ : Unit) : List EOp := [⟨0, (some 11), none, (.q (.lda 5 (.t 3))), []⟩, ⟨1, (some 12), none, (.call 10 [(.t 11)]), []⟩]
@[simp] def b_StateMoves_4 (_ : Unit) : EB := reg0 (hid l_StateMoves_3) 2
@[simp] def l_StateMoves_5 (_ : Unit) : List EOp := [⟨0, (some 13), none, (.call 11 []), []⟩, ⟨1, (some 6), none, (.q (.mov (.t 13))), []⟩]
@[simp] def b_StateMoves_6 (_ : Unit) : EB := reg0 (hid l_StateMoves_5) 2
@[simp] def b_StateMoves_7 (_ : Unit) : EB := .seq (hid b_StateMoves_6) .ret
@[simp] def b_StateMoves_8 (_ : Unit) : EB := .cond (.t 12) (hid b_StateMoves_7) .skip
@[simp] def b_StateMoves_9 (_ : Unit) : EB := .seq (hid b_StateMoves_4) (hid b_StateMoves_8)
@[simp] def l_StateMoves_11 (_ : Unit) : List EOp := [⟨6, (some 20), none, (.q (.ext 0 (.t 14))), []⟩, ⟨7, (some 21), none, (.q (.ext 1 (.t 14))), []⟩, ⟨8, (some 7), none, (.q (.alloc 32 [(.int .i64 0), (.int .i64 0), (.int .i64 0), (.slice none 0 0), (.slice none 0 0)])), []⟩, ⟨9, none, none, (.fz (.sto 5 (.t 7) (.t 20))), []⟩, ⟨10, (some 8), none, (.q (.mov (.t 21))), []⟩]
@[simp] def l_StateMoves_10 (_ : Unit) : List EOp := ⟨0, (some 15), none, (.q (.lda 5 (.t 3))), []⟩ :: ⟨1, (some 16), none, (.call 13 [(.t 15)]), []⟩ :: ⟨2, (some 17), none, (.q (.mov (.t 1))), []⟩ :: ⟨3, (some 18), none, (.q (.mov (.t 2))), []⟩ :: ⟨4, (some 19), none, (.call 12 [(.t 16), (.t 17), (.t 18)]), []⟩ :: ⟨5, (some 14), none, (.q (.mov (.t 19))), []⟩ :: hid l_StateMoves_11
@[simp] def b_StateMoves_12 (_ : Unit) : EB := reg0 (hid l_StateMoves_10) 11
@[simp] def l_StateMoves_14 (_ : Unit) : List EOp := [⟨6, (some 28), none, (.q (.ext 1 (.t 22))), []⟩, ⟨7, (some 9), none, (.q (.alloc 26 [(.int .i64 0), (.int .i64 0), (.int .i64 0), (.slice none 0 0), (.slice none 0 0)])), []⟩, ⟨8, none, none, (.fz (.sto 5 (.t 9) (.t 27))), []⟩, ⟨9, (some 10), none, (.q (.mov (.t 28))), []⟩]
@[simp] def l_StateMoves_13 (_ : Unit) : List EOp := ⟨0, (some 23), none, (.q (.lda 5 (.t 3))), []⟩ :: ⟨1, (some 24), none, (.q (.mov (.t 1))), []⟩ :: ⟨2, (some 25), none, (.q (.mov (.t 2))), []⟩ :: ⟨3, (some 26), none, (.call 14 [(.t 23), (.t 24), (.t 25)]), []⟩ :: ⟨4, (some 22), none, (.q (.mov (.t 26))), []⟩ :: ⟨5, (some 27), none, (.q (.ext 0 (.t 22))), []⟩ :: hid l_StateMoves_14
@[simp] def b_StateMoves_15 (_ : Unit) : EB := reg0 (hid l_StateMoves_13) 10
@[simp] def l_StateMoves_17 (_ : Unit) : List EOp := [⟨6, (some 35), (some (34, true)), (.call 11 []), []⟩, ⟨7, (some 36), none, (.q (.pick (.t 34) (.t 35) (.k (.bool false)))), []⟩, ⟨8, (some 6), none, (.q (.mov (.t 36))), []⟩]
@[simp] def l_StateMoves_16 (_ : Unit) : List EOp := ⟨0, (some 29), none, (.q (.lda 5 (.t 7))), []⟩ :: ⟨1, (some 30), none, (.q (.mov (.t 8))), []⟩ :: ⟨2, (some 31), none, (.q (.lda 5 (.t 9))), []⟩ :: ⟨3, (some 32), none, (.q (.mov (.t 10))), []⟩ :: ⟨4, (some 33), none, (.call 15 [(.t 29), (.t 30), (.t 31), (.t 32)]), []⟩ :: ⟨5, (some 34), none, (.q (.mov (.t 33))), []⟩ :: hid l_StateMoves_17
@[simp] def b_StateMoves_18 (_ : Unit) : EB := reg0 (hid l_StateMoves_16) 9
@[simp] def b_StateMoves_19 (_ : Unit) : EB := .seq (hid b_StateMoves_18) .ret
@[simp] def b_StateMoves_20 (_ : Unit) : EB := .seq (hid b_StateMoves_15) (hid b_StateMoves_19)
@[simp] def b_StateMoves_21 (_ : Unit) : EB := .seq (hid b_StateMoves_12) (hid b_StateMoves_20)
@[simp] def b_StateMoves_22 (_ : Unit) : EB := .seq (hid b_StateMoves_9) (hid b_StateMoves_21)
@[simp] def b_StateMoves_23 (_ : Unit) : EB := .seq (hid b_StateMoves_2) (hid b_StateMoves_22)
def c_StateMoves : EB × List QOp × Nat := ((hid b_StateMoves_23), [(.mov (.t 6))], 37)
theorem k_StateMoves : cfun Tryd.prog 3 = some c_StateMoves := by kernel_rfl

@[simp] def l_StateSizes_1 (_ : Unit) : List EOp := [⟨0, (some 3), none, (.q (.box 26 (.t 0))), []⟩, ⟨1, (some 6), none, (.q (.mov (.k (.bool false)))), []⟩]
@[simp] def b_StateSizes_2 (_ : Unit) : EB := reg0 (hid l_StateSizes_1) 2
@[simp] def l_StateSizes_3 (_ : Unit) : List EOp := [⟨0, (some 11), none, (.q (.lda 5 (.t 3))), []⟩, ⟨1, (some 12), none, (.call 10 [(.t 11)]), []⟩]
@[simp] def b_StateSizes_4 (_ : Unit) : EB := reg0 (hid l_StateSizes_3) 2
@[simp] def l_StateSizes_5 (_ : Unit) : List EOp := [⟨0, (some 13), none, (.call 11 []), []⟩, ⟨1, (some 6), none, (.q (.mov (.t 13))), []⟩]
@[simp] def b_StateSizes_6 (_ : Unit) : EB := reg0 (hid l_StateSizes_5) 2
@[simp] def b_StateSizes_7 (_ : Unit) : EB := .seq (hid b_StateSizes_6) .ret
@[simp] def b_StateSizes_8 (_ : Unit) : EB := .cond (.t 12) (hid b_StateSizes_7) .skip
@[simp] def b_StateSizes_9 (_ : Unit) : EB := .seq (hid b_StateSizes_4) (hid b_StateSizes_8)
@[simp] def l_StateSizes_11 (_ : Unit) : List EOp := [⟨6, (some 20), none, (.q (.ext 0 (.t 14))), []⟩, ⟨7, (some 21), none, (.q (.ext 1 (.t 14))), []⟩, ⟨8, (some 7), none, (.q (.alloc 32 [(.int .i64 0), (.int .i64 0), (.int .i64 0), (.slice none 0 0), (.slice none 0 0)])), []⟩, ⟨9, none, none, (.fz (.sto 5 (.t 7) (.t 20))), []⟩, ⟨10, (some 8), none, (.q (.mov (.t 21))), []⟩]
@[simp] def l_StateSizes_10 (_ : Unit) : List EOp := ⟨0, (some 15), none, (.q (.lda 5 (.t 3))), []⟩ :: ⟨1, (some 16), none, (.call 13 [(.t 15)]), []⟩ :: ⟨2, (some 17), none, (.q (.mov (.t 1))), []⟩ :: ⟨3, (some 18), none, (.q (.mov (.t 2))), []⟩ :: ⟨4, (some 19), none, (.call 16 [(.t 16), (.t 17), (.t 18)]), []⟩ :: ⟨5, (some 14), none, (.q (.mov (.t 19))), []⟩ :: hid l_StateSizes_11
@[simp] def b_StateSizes_12 (_ : Unit) : EB := reg0 (hid l_StateSizes_10) 11
@[simp] def l_StateSizes_14 (_ : Unit) : List EOp := [⟨6, (some 28), none, (.q (.ext 1 (.t 22))), []⟩, ⟨7, (some 9), none, (.q (.alloc 26 [(.int .i64 0), (.int .i64 0), (.int .i64 0), (.slice none 0 0), (.slice none 0 0)])), []⟩, ⟨8, none, none, (.fz (.sto 5 (.t 9) (.t 27))), []⟩, ⟨9, (some 10), none, (.q (.mov (.t 28))), []⟩]
@[simp] def l_StateSizes_13 (_ : Unit) : List EOp := ⟨0, (some 23), none, (.q (.lda 5 (.t 3))), []⟩ :: ⟨1, (some 24), none, (.q (.mov (.t 1))), []⟩ :: ⟨2, (some 25), none, (.q (.mov (.t 2))), []⟩ :: ⟨3, (some 26), none, (.call 17 [(.t 23), (.t 24), (.t 25)]), []⟩ :: ⟨4, (some 22), none, (.q (.mov (.t 26))), []⟩ :: ⟨5, (some 27), none, (.q (.ext 0 (.t 22))), []⟩ :: hid l_StateSizes_14
@[simp] def b_StateSizes_15 (_ : Unit) : EB := reg0 (hid l_StateSizes_13) 10
@[simp] def l_StateSizes_19 (_ : Unit) : List EOp := [⟨18, (some 47), none, (.q (.mov (.t 46))), []⟩, ⟨19, (some 48), (some (47, true)), (.call 11 []), []⟩, ⟨20, (some 49), none, (.q (.pick (.t 47) (.t 48) (.k (.bool false)))), []⟩, ⟨21, (some 6), none, (.q (.mov (.t 49))), []⟩]
@[simp] def l_StateSizes_18 (_ : Unit) : List EOp := ⟨10, (some 39), (some (37, false)), (.call 18 [(.t 38)]), [11, 13]⟩ :: ⟨12, (some 41), (some (37, false)), (.q (.bin .sub (.t 39) (.t 40))), []⟩ :: ⟨14, (some 43), (some (37, false)), (.call 19 [(.t 42)]), [11, 12]⟩ :: ⟨15, (some 44), (some (37, false)), (.q (.bin .eql (.t 41) (.t 43))), []⟩ :: ⟨16, (some 45), (some (34, true)), (.q (.pick (.t 37) (.k (.bool true)) (.t 44))), []⟩ :: ⟨17, (some 46), none, (.q (.pick (.t 34) (.t 45) (.k (.bool false)))), []⟩ :: hid l_StateSizes_19
@[simp] def l_StateSizes_17 (_ : Unit) : List EOp := ⟨6, (some 35), (some (34, true)), (.q (.mov (.t 8))), []⟩ :: ⟨7, (some 36), (some (34, true)), (.q (.eqi true (.t 35))), []⟩ :: ⟨8, (some 37), (some (34, true)), (.q (.mov (.t 36))), []⟩ :: ⟨9, (some 38), (some (37, false)), (.q (.lda 5 (.t 7))), []⟩ :: ⟨11, (some 40), (some (37, false)), (.q (.mov (.t 2))), []⟩ :: ⟨13, (some 42), (some (37, false)), (.q (.lda 5 (.t 3))), []⟩ :: hid l_StateSizes_18
@[simp] def l_StateSizes_16 (_ : Unit) : List EOp := ⟨0, (some 29), none, (.q (.lda 5 (.t 7))), []⟩ :: ⟨1, (some 30), none, (.q (.mov (.t 8))), []⟩ :: ⟨2, (some 31), none, (.q (.lda 5 (.t 9))), []⟩ :: ⟨3, (some 32), none, (.q (.mov (.t 10))), []⟩ :: ⟨4, (some 33), none, (.call 15 [(.t 29), (.t 30), (.t 31), (.t 32)]), []⟩ :: ⟨5, (some 34), none, (.q (.mov (.t 33))), []⟩ :: hid l_StateSizes_17
@[simp] def b_StateSizes_20 (_ : Unit) : EB := reg1 (hid l_StateSizes_16) 22
@[simp] def b_StateSizes_21 (_ : Unit) : EB := .seq (hid b_StateSizes_20) .ret
@[simp] def b_StateSizes_22 (_ : Unit) : EB := .seq (hid b_StateSizes_15) (hid b_StateSizes_21)
@[simp] def b_StateSizes_23 (_ : Unit) : EB := .seq (hid b_StateSizes_12) (hid b_StateSizes_22)
@[simp] def b_StateSizes_24 (_ : Unit) : EB := .seq (hid b_StateSizes_9) (hid b_StateSizes_23)
@[simp] def b_StateSizes_25 (_ : Unit) : EB := .seq (hid b_StateSizes_2) (hid b_StateSizes_24)
def c_StateSizes : EB × List QOp × Nat := ((hid b_StateSizes_25), [(.mov (.t 6))], 50)
theorem k_StateSizes : cfun Tryd.prog 4 = some c_StateSizes := by kernel_rfl


theorem num_e (e : Nat) : ECalls Tryd.prog 29 [.lit (errV e)] [] fun y H' => H' = [] ∧ y = I .i64 e := by
  have h := num_ok (e : Int)
  have e1 : EN (e : Int) = .lit (errV e) := by
    unfold EN errV
    by_cases h : e = 0
    · subst h; rfl
    · rw [if_neg (by omega), if_neg h]
  rw [e1] at h
  exact h

/-- What is said of a state without payments and holds is said of one whose slices are nil. -/
theorem ecalls_nlS {P : Program} {f : FuncId} {e1 e2 : Nat} {a b c : EC} {rest : List EV} {H : List EO} {post : EV → List (Option EO) → Prop} (h : ECalls P f (.v (.agg [a, b, c, .fz (.sl e1 []), .fz (.sl e2 [])]) :: rest) H post) :
    ECalls P f (.v (.agg [a, b, c, .fz (.lit (.slice none 0 0)), .fz (.lit (.slice none 0 0))]) :: rest) H post := by
  intro ρ Φ w vals r ha
  refine h ρ Φ w vals r ?_
  obtain ⟨u, us, rfl, h1, h2⟩ := ha.cons_left
  refine All2.cons ?_ h2
  obtain ⟨vs, rfl, hv⟩ := h1
  refine ⟨vs, rfl, by simpa using hv.1, ?_⟩
  intro i x y hx hy
  rcases i with _ | _ | _ | _ | _ | i
  · exact hv.2 0 x y hx hy
  · exact hv.2 1 x y hx hy
  · exact hv.2 2 x y hx hy
  · have := hv.2 3 _ y rfl hy
    simp at hx; subst hx
    exact nl_vr this
  · have := hv.2 4 _ y rfl hy
    simp at hx; subst hx
    exact nl_vr this
  · simp at hx

theorem zSta_ok : zSta.ok ∧ zSta.small := by simp [zSta, Sta.ok, Sta.small, i64]
theorem mayS_b {s : Sta} (h : mayS s = true) : 0 ≤ s.num ∧ s.num ≤ 1099511627776 ∧ 0 ≤ s.h0 ∧ s.h0 ≤ 1125899906842624 ∧ 0 ≤ s.h1 ∧ s.h1 ≤ 1125899906842624 := by
  unfold mayS at h
  simp only [Bool.and_eq_true, decide_eq_true_eq] at h
  omega

theorem moveS_ok {s : Sta} {a b : Int} (hs : s.ok) (hm : s.small) : (moveS s a b).1.ok ∧ (moveS s a b).1.small := by
  have hz := zSta_ok
  obtain ⟨ok1, ok2, ok3, ok4, ok5, ok6, ok7⟩ := id hs
  unfold moveS
  split
  · exact hz
  rename_i h1
  have hy : mayS s = true := by
    unfold nxt at h1
    split at h1
    · rename_i h; exact h.1
    · simp at h1
  have hb := mayS_b hy
  split
  · exact hz
  split
  · exact hz
  by_cases h5 : a = 0
  · simp only [h5, if_true]
    split
    · exact hz
    · exact ⟨⟨by unfold i64; simp; omega, by unfold i64; simp; omega, by unfold i64; simp; omega, ok4, ok5, ok6, ok7⟩, hm⟩
  · simp only [h5, if_false]
    split
    · exact hz
    · exact ⟨⟨by unfold i64; simp; omega, by unfold i64; simp; omega, by unfold i64; simp; omega, ok4, ok5, ok6, ok7⟩, hm⟩

set_option maxHeartbeats 2000000 in
theorem same_ok (x : Sta) (e : Nat) (hx : x.ok) (hm : x.small) : ECalls Tryd.prog 15 [SV x, .lit (errV e), SV x, I .i64 e] [] fun y H' => H' = [] ∧ y = .lit (.bool true) := by
  refine ecalls k_same ?_
  simp [c_same, SV, staC, I]
  refine call0 (num_e e) (by simp [Ptr, I, EV.lit, Bs, SV, staC, SE, RE]) ?_
  rintro y H' ⟨rfl, rfl⟩
  refine ⟨.inl (by simp [Ptr, I, EV.lit, Bs, SV, staC, SE, RE]), le_ok rfl, ?_⟩
  simp [Ptr, I, EV.lit, Bs, SV, staC, SE, RE]
  refine call0 (Encode_ok x hx hm) (by simp [Ptr, I, EV.lit, Bs, SV, staC, SE, RE]) ?_
  rintro y H' ⟨rfl, rfl⟩
  refine ⟨.inl (by simp [Ptr, I, EV.lit, Bs, SV, staC, SE, RE]), le_ok rfl, ?_⟩
  simp [Ptr, I, EV.lit, Bs, SV, staC, SE, RE]
  refine call0 (REncode_ok x hx hm) (by simp [Ptr, I, EV.lit, Bs, SV, staC, SE, RE]) ?_
  rintro y H' ⟨rfl, rfl⟩
  refine ⟨.inl (by simp [Ptr, I, EV.lit, Bs, SV, staC, SE, RE]), le_ok rfl, ?_⟩
  simp [Ptr, I, EV.lit, Bs, SV, staC, SE, RE]
  exact fin [] (by decide) rfl rfl rfl ⟨rfl, rfl⟩

set_option maxHeartbeats 2000000 in
theorem sure_ok : ECalls Tryd.prog 11 [] [] fun y H' => H' = [] ∧ y = .lit (.bool true) := by
  have hok : (Sta.mk 0 50 50 [] []).ok := by simp [Sta.ok, i64]
  have hv : moveS ⟨0, 50, 50, [], []⟩ 0 20 = (⟨1, 30, 70, [], []⟩, 0) := by simp [moveS, nxt, mayS, total, sumP, sumH, payL, holL]
  have hmv := Move_ok ⟨0, 50, 50, [], []⟩ 0 20 hok (by simp [i64]) (by simp [i64])
  rw [hv] at hmv
  refine ecalls k_sure ?_
  simp [c_sure]
  refine call0 (ecalls_nlS hmv) (by simp [Ptr, I, EV.lit, Bs, SV, staC, SE, RE]) ?_
  rintro y H' ⟨rfl, rfl⟩
  refine ⟨.inl (by simp [Ptr, I, EV.lit, Bs, SV, staC, SE, RE]), le_ok rfl, ?_⟩
  simp [Ptr, I, EV.lit, Bs, SV, staC, SE, RE]
  exact fin [] (by decide) rfl rfl rfl ⟨rfl, rfl⟩

set_option maxHeartbeats 2000000 in
theorem StateMoves_ok (s : Sta) (a b : Int) (hs : s.ok) (ha : i64 a) (hb : i64 b) : ECalls Tryd.prog 3 [SV s, I .i64 a, I .i64 b] [] fun y H' => H' = [] ∧ y = .lit (.bool true) := by
  refine ecalls k_StateMoves ?_
  simp [c_StateMoves, SV, staC, I]
  refine call0 (longState_ok s hs) (by simp [Ptr, I, EV.lit, Bs, SV, staC, SE, RE]) ?_
  rintro y H' ⟨rfl, rfl⟩
  refine ⟨.inl (by simp [Ptr, I, EV.lit, Bs, SV, staC, SE, RE]), le_ok rfl, ?_⟩
  simp
  refine alt (fun hl => ?_) (fun hl => ?_)
  · simp
    refine call0 (sure_ok) (by simp [Ptr, I, EV.lit, Bs, SV, staC, SE, RE]) ?_
    rintro y H' ⟨rfl, rfl⟩
    refine ⟨.inl (by simp [Ptr, I, EV.lit, Bs, SV, staC, SE, RE]), le_ok rfl, ?_⟩
    simp [Ptr, I, EV.lit, Bs, SV, staC, SE, RE]
    exact fin [] (by decide) rfl rfl rfl ⟨rfl, rfl⟩
  have hsm := (longS_small (by simpa using hl)).1
  obtain ⟨q1, q2⟩ := moveS_ok (a := a) (b := b) hs hsm
  simp
  refine call0 (giveState_ok s hs hsm) (by simp [Ptr, I, EV.lit, Bs, SV, staC, SE, RE]) ?_
  rintro y H' ⟨rfl, rfl⟩
  refine ⟨.inl (by simp [Ptr, I, EV.lit, Bs, SV, staC, SE, RE]), le_ok rfl, ?_⟩
  simp [Ptr, I, EV.lit, Bs, SV, staC, SE, RE]
  refine call0 (Move_ok s a b hs ha hb) (by simp [Ptr, I, EV.lit, Bs, SV, staC, SE, RE]) ?_
  rintro y H' ⟨rfl, rfl⟩
  refine ⟨.inl (by simp [Ptr, I, EV.lit, Bs, SV, staC, SE, RE]), le_ok rfl, ?_⟩
  simp [Ptr, I, EV.lit, Bs, SV, staC, SE, RE]
  refine call0 (RMove_ok s a b hs ha hb) (by simp [Ptr, I, EV.lit, Bs, SV, staC, SE, RE]) ?_
  rintro y H' ⟨rfl, rfl⟩
  refine ⟨.inl (by simp [Ptr, I, EV.lit, Bs, SV, staC, SE, RE]), le_ok rfl, ?_⟩
  simp [Ptr, I, EV.lit, Bs, SV, staC, SE, RE]
  refine call0 (same_ok (moveS s a b).1 (moveS s a b).2 q1 q2) (by simp [Ptr, I, EV.lit, Bs, SV, staC, SE, RE]) ?_
  rintro y H' ⟨rfl, rfl⟩
  refine ⟨.inl (by simp [Ptr, I, EV.lit, Bs, SV, staC, SE, RE]), le_ok rfl, ?_⟩
  simp [Ptr, I, EV.lit, Bs, SV, staC, SE, RE]
  refine call0 (sure_ok) (by simp [Ptr, I, EV.lit, Bs, SV, staC, SE, RE]) ?_
  rintro y H' ⟨rfl, rfl⟩
  refine ⟨.inl (by simp [Ptr, I, EV.lit, Bs, SV, staC, SE, RE]), le_ok rfl, ?_⟩
  simp [Ptr, I, EV.lit, Bs, SV, staC, SE, RE]
  exact fin [] (by decide) rfl rfl rfl ⟨rfl, rfl⟩

end Go.Proofs.YtpohjnhlhfbnaaaDoor
