import Derived.Test.YtpohjnhlhfbnaaaDoorKState4
namespace Go.Proofs.YtpohjnhlhfbnaaaDoor
open Go Go.EW
set_option linter.unusedSimpArgs false
set_option linter.unusedVariables false

@[simp] def l_sure_1 (_ : Unit) : List EOp := [⟨0, (some 0), none, (.q (.mov (.k (.bool false)))), []⟩]
@[simp] def b_sure_2 (_ : Unit) : EB := reg0 (hid l_sure_1) 1
@[simp] def l_sure_4 (_ : Unit) : List EOp := [⟨6, (some 1), none, (.q (.alloc 32 [(.int .i64 0), (.int .i64 0), (.int .i64 0), (.slice none 0 0), (.slice none 0 0)])), []⟩, ⟨7, none, none, (.fz (.sto 5 (.t 1) (.t 7))), []⟩, ⟨8, (some 2), none, (.q (.mov (.t 8))), []⟩]
@[simp] def l_sure_3 (_ : Unit) : List EOp := ⟨0, (some 4), none, (.q (.build [(.int .i64 0), (.int .i64 0)] [(0, 1, (.k (.int .i64 50))), (1, 1, (.k (.int .i64 50)))])), []⟩ :: ⟨1, (some 5), none, (.q (.build [(.int .i64 0), (.int .i64 0), (.int .i64 0), (.slice none 0 0), (.slice none 0 0)] [(1, 2, (.t 4))])), []⟩ :: ⟨2, (some 6), none, (.call 12 [(.t 5), (.k (.int .i64 0)), (.k (.int .i64 20))]), []⟩ :: ⟨3, (some 3), none, (.q (.mov (.t 6))), []⟩ :: ⟨4, (some 7), none, (.q (.ext 0 (.t 3))), []⟩ :: ⟨5, (some 8), none, (.q (.ext 1 (.t 3))), []⟩ :: hid l_sure_4
@[simp] def b_sure_5 (_ : Unit) : EB := reg0 (hid l_sure_3) 9
@[simp] def l_sure_8 (_ : Unit) : List EOp := [⟨12, (some 21), none, (.q (.pick (.t 17) (.t 20) (.k (.bool false)))), []⟩, ⟨13, (some 0), none, (.q (.mov (.t 21))), []⟩]
@[simp] def l_sure_7 (_ : Unit) : List EOp := ⟨6, (some 15), (some (11, true)), (.q (.eqa false 2 .i64 (.t 13) (.t 14))), []⟩ :: ⟨7, (some 16), none, (.q (.pick (.t 11) (.t 15) (.k (.bool false)))), []⟩ :: ⟨8, (some 17), none, (.q (.mov (.t 16))), []⟩ :: ⟨9, (some 18), (some (17, true)), (.q (.fad 0 (.t 1))), []⟩ :: ⟨10, (some 19), (some (17, true)), (.q (.ldc (.t 18))), []⟩ :: ⟨11, (some 20), (some (17, true)), (.q (.bin .eql (.t 19) (.k (.int .i64 1)))), []⟩ :: hid l_sure_8
@[simp] def l_sure_6 (_ : Unit) : List EOp := ⟨0, (some 9), none, (.q (.mov (.t 2))), []⟩ :: ⟨1, (some 10), none, (.q (.eqi false (.t 9))), []⟩ :: ⟨2, (some 11), none, (.q (.mov (.t 10))), []⟩ :: ⟨3, (some 12), (some (11, true)), (.q (.fad 1 (.t 1))), []⟩ :: ⟨4, (some 13), (some (11, true)), (.q (.lda 2 (.t 12))), []⟩ :: ⟨5, (some 14), (some (11, true)), (.q (.build [(.int .i64 0), (.int .i64 0)] [(0, 1, (.k (.int .i64 30))), (1, 1, (.k (.int .i64 70)))])), []⟩ :: hid l_sure_7
@[simp] def b_sure_9 (_ : Unit) : EB := reg0 (hid l_sure_6) 14
@[simp] def b_sure_10 (_ : Unit) : EB := .seq (hid b_sure_9) .ret
@[simp] def b_sure_11 (_ : Unit) : EB := .seq (hid b_sure_5) (hid b_sure_10)
@[simp] def b_sure_12 (_ : Unit) : EB := .seq (hid b_sure_2) (hid b_sure_11)
def c_sure : EB × List QOp × Nat := ((hid b_sure_12), [(.mov (.t 0))], 22)
theorem k_sure : cfun Tryd.prog 11 = some c_sure := by kernel_rfl

@[simp] def l_SCheck_1 (_ : Unit) : List EOp := [⟨0, (some 1), none, (.q (.box 32 (.t 0))), []⟩, ⟨1, (some 2), none, (.q (.mov (.k .nilIface))), []⟩]
@[simp] def b_SCheck_2 (_ : Unit) : EB := reg0 (hid l_SCheck_1) 2
@[simp] def l_SCheck_3 (_ : Unit) : List EOp := [⟨0, (some 3), none, (.q (.lda 5 (.t 1))), []⟩, ⟨1, (some 4), none, (.call 43 [(.t 3)]), []⟩, ⟨2, (some 5), none, (.q (.un .not (.t 4))), []⟩]
@[simp] def b_SCheck_4 (_ : Unit) : EB := reg0 (hid l_SCheck_3) 3
@[simp] def l_SCheck_5 (_ : Unit) : List EOp := [⟨0, (some 6), none, (.q (.mki 79 (.k (.int .i64 1)))), []⟩, ⟨1, (some 2), none, (.q (.mov (.t 6))), []⟩]
@[simp] def b_SCheck_6 (_ : Unit) : EB := reg0 (hid l_SCheck_5) 2
@[simp] def b_SCheck_7 (_ : Unit) : EB := .seq (hid b_SCheck_6) .ret
@[simp] def b_SCheck_8 (_ : Unit) : EB := .cond (.t 5) (hid b_SCheck_7) .skip
@[simp] def b_SCheck_9 (_ : Unit) : EB := .seq (hid b_SCheck_4) (hid b_SCheck_8)
@[simp] def l_SCheck_10 (_ : Unit) : List EOp := [⟨0, (some 2), none, (.q (.mov (.k .nilIface))), []⟩]
@[simp] def b_SCheck_11 (_ : Unit) : EB := reg0 (hid l_SCheck_10) 1
@[simp] def b_SCheck_12 (_ : Unit) : EB := .seq (hid b_SCheck_11) .ret
@[simp] def b_SCheck_13 (_ : Unit) : EB := .seq (hid b_SCheck_9) (hid b_SCheck_12)
@[simp] def b_SCheck_14 (_ : Unit) : EB := .seq (hid b_SCheck_2) (hid b_SCheck_13)
def c_SCheck : EB × List QOp × Nat := ((hid b_SCheck_14), [(.mov (.t 2))], 7)
theorem k_SCheck : cfun Tryd.prog 28 = some c_SCheck := by kernel_rfl


/-- What is said of a state without payments and holds is said of one whose slices are nil. -/
theorem ecalls_nlS {P : Program} {f : FuncId} {e1 e2 : Nat} {a b c : EC} {rest : List EV} {H : List EO} {post : EV → List (Option EO) → Prop} (h : ECalls P f (.v (.agg [a, b, c, .fz (.sl e1 []), .fz (.sl e2 [])]) :: rest) H post) :
    ECalls P f (.v (.agg [a, b, c, .fz (.lit (.slice none 0 0)), .fz (.lit (.slice none 0 0))]) :: rest) H post := by
  intro ρ Φ w vals r ha
  refine h ρ Φ w vals r ?_
  obtain ⟨u, us, rfl, h1, h2⟩ := ha.cons_left
  refine All2.cons ?_ h2
  obtain ⟨vs, rfl, hv⟩ := h1
  refine ⟨vs, rfl, by simpa using hv.1, ?_⟩
  intro i x y hx hy
  rcases i with _ | _ | _ | _ | _ | i
  · exact hv.2 0 x y hx hy
  · exact hv.2 1 x y hx hy
  · exact hv.2 2 x y hx hy
  · have := hv.2 3 _ y rfl hy
    simp at hx; subst hx
    exact nl_vr this
  · have := hv.2 4 _ y rfl hy
    simp at hx; subst hx
    exact nl_vr this
  · simp at hx

set_option maxHeartbeats 2000000 in
theorem sure_ok : ECalls Tryd.prog 11 [] [] fun y H' => H' = [] ∧ y = .lit (.bool true) := by
  have hok : (Sta.mk 0 50 50 [] []).ok := by simp [Sta.ok, i64]
  have hv : moveS ⟨0, 50, 50, [], []⟩ 0 20 = (⟨1, 30, 70, [], []⟩, 0) := by simp [moveS, nxt, mayS, total, sumP, sumH, payL, holL]
  have hmv := Move_ok ⟨0, 50, 50, [], []⟩ 0 20 hok (by simp [i64]) (by simp [i64])
  rw [hv] at hmv
  refine ecalls k_sure ?_
  simp [c_sure]
  refine call0 (ecalls_nlS hmv) (by simp [Ptr, I, EV.lit, SV, staC, SE]) ?_
  rintro y H' ⟨rfl, rfl⟩
  refine ⟨.inl (by simp [Ptr, I, EV.lit, SV, staC, SE]), le_ok rfl, ?_⟩
  simp [Ptr, I, EV.lit, SV, staC, SE]
  exact fin [] (by decide) rfl rfl rfl ⟨rfl, rfl⟩

theorem SCheck_ok (s : Sta) (hs : s.ok) : ECalls Tryd.prog 28 [SV s] [] fun y H' => H' = [] ∧ y = .lit (if mayS s then .nilIface else errV 1) := by
  refine ecalls k_SCheck ?_
  simp [c_SCheck, SV, staC]
  refine call0 (Smay_ok s hs) (by simp [Ptr, I, EV.lit, SV, staC, SE]) ?_
  rintro y H' ⟨rfl, rfl⟩
  refine ⟨.inl (by simp [Ptr, I, EV.lit, SV, staC, SE]), le_ok rfl, ?_⟩
  simp [Ptr, I, EV.lit, SV, staC, SE]
  cases hm : mayS s
  · simp
    exact fin [] (by decide) rfl rfl rfl ⟨rfl, rfl⟩
  · simp
    exact fin [] (by decide) rfl rfl rfl ⟨rfl, rfl⟩

end Go.Proofs.YtpohjnhlhfbnaaaDoor
