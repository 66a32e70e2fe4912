import Derived.Test.YtejjhgdnmknejaaVirH
import Derived.Test.YtejjhgdnmknejaaStateKC
namespace Go.Proofs.Ytejjhgdnmknejaa
open Go Go.EW
set_option linter.unusedSimpArgs false
set_option linter.unusedVariables false

@[simp] def l_sure_1 (_ : Unit) : List EOp := [⟨0, (some 0), none, (.q (.mov (.k (.bool false)))), []⟩]
@[simp] def b_sure_2 (_ : Unit) : EB := reg0 (hid l_sure_1) 1
@[simp] def l_sure_4 (_ : Unit) : List EOp := [⟨6, (some 1), none, (.q (.alloc 33 (zU8 ++ (([(.int .i64 0), (.int .i64 0), (.int .i64 0), (.int .i64 0), (.int .i64 0), (.int .i64 0)] : List Value) ++ zU8 ++ [(.int .i64 0), (.int .i64 0), (.int .i64 0), (.int .i64 0), (.int .i64 0), (.int .i64 0), (.int .i64 0), (.int .i64 0), (.int .i64 0), (.int .i64 0), (.int .i64 0)])))), []⟩, ⟨7, none, none, (.sto 81 (.t 1) (.t 13)), []⟩]
@[simp] def l_sure_3 (_ : Unit) : List EOp := ⟨0, (some 8), none, (.q (.build [(.int .i64 0), (.int .i64 0)] [(0, 1, (.k (.int .i64 1))), (1, 1, (.k (.int .i64 2)))])), []⟩ :: ⟨1, (some 9), none, (.q (.build (zU8 ++ [(.int .i64 0), (.int .i64 0), (.int .i64 0), (.int .i64 0), (.int .i64 0), (.int .i64 0)]) [(34, 2, (.t 8))])), []⟩ :: ⟨2, (some 10), none, (.q (.build [(.int .i64 0), (.int .i64 0)] [(0, 1, (.k (.int .i64 2))), (1, 1, (.k (.int .i64 3)))])), []⟩ :: ⟨3, (some 11), none, (.q (.build (zU8 ++ [(.int .i64 0), (.int .i64 0), (.int .i64 0), (.int .i64 0), (.int .i64 0), (.int .i64 0)]) [(34, 2, (.t 10))])), []⟩ :: ⟨4, (some 12), none, (.q (.build [(.int .i64 0), (.int .i64 0), (.int .i64 0)] [(0, 1, (.k (.int .i64 1))), (1, 1, (.k (.int .i64 2))), (2, 1, (.k (.int .i64 3)))])), []⟩ :: ⟨5, (some 13), none, (.q (.build (zU8 ++ (([(.int .i64 0), (.int .i64 0), (.int .i64 0), (.int .i64 0), (.int .i64 0), (.int .i64 0)] : List Value) ++ zU8 ++ [(.int .i64 0), (.int .i64 0), (.int .i64 0), (.int .i64 0), (.int .i64 0), (.int .i64 0), (.int .i64 0), (.int .i64 0), (.int .i64 0), (.int .i64 0), (.int .i64 0)])) [(0, 38, (.t 9)), (38, 38, (.t 11)), (76, 3, (.t 12)), (79, 1, (.k (.int .i64 50)))])), []⟩ :: hid l_sure_4
@[simp] def b_sure_5 (_ : Unit) : EB := reg0 (hid l_sure_3) 8
@[simp] def l_sure_8 (_ : Unit) : List EOp := [⟨12, none, none, (.fz (.sto 5 (.t 2) (.t 21))), []⟩, ⟨13, none, none, (.fz (.sto 5 (.t 3) (.t 22))), []⟩, ⟨14, (some 4), none, (.q (.mov (.t 23))), []⟩]
@[simp] def l_sure_7 (_ : Unit) : List EOp := ⟨6, (some 14), none, (.q (.mov (.t 20))), []⟩ :: ⟨7, (some 21), none, (.q (.ext 0 (.t 14))), []⟩ :: ⟨8, (some 22), none, (.q (.ext 1 (.t 14))), []⟩ :: ⟨9, (some 23), none, (.q (.ext 2 (.t 14))), []⟩ :: ⟨10, (some 2), none, (.q (.alloc 37 [(.int .i64 0), (.int .i64 0), (.int .i64 0), (.slice none 0 0), (.slice none 0 0)])), []⟩ :: ⟨11, (some 3), none, (.q (.alloc 37 [(.int .i64 0), (.int .i64 0), (.int .i64 0), (.slice none 0 0), (.slice none 0 0)])), []⟩ :: hid l_sure_8
@[simp] def l_sure_6 (_ : Unit) : List EOp := ⟨0, (some 15), none, (.q (.lda 81 (.t 1))), []⟩ :: ⟨1, (some 16), none, (.q (.build [(.int .i64 0), (.int .i64 0)] [(0, 1, (.k (.int .i64 100))), (1, 1, (.k (.int .i64 0)))])), []⟩ :: ⟨2, (some 17), none, (.q (.build [(.int .i64 0), (.int .i64 0), (.int .i64 0), (.slice none 0 0), (.slice none 0 0)] [(1, 2, (.t 16))])), []⟩ :: ⟨3, (some 18), none, (.q (.build [(.int .i64 0), (.int .i64 0)] [(0, 1, (.k (.int .i64 100))), (1, 1, (.k (.int .i64 0)))])), []⟩ :: ⟨4, (some 19), none, (.q (.build [(.int .i64 0), (.int .i64 0), (.int .i64 0), (.slice none 0 0), (.slice none 0 0)] [(1, 2, (.t 18))])), []⟩ :: ⟨5, (some 20), none, (.call 5 [(.t 15), (.k (.int .i64 7)), (.t 17), (.t 19)]), []⟩ :: hid l_sure_7
@[simp] def b_sure_9 (_ : Unit) : EB := reg0 (hid l_sure_6) 15
@[simp] def l_sure_12 (_ : Unit) : List EOp := [⟨12, (some 7), none, (.q (.mov (.t 31))), []⟩]
@[simp] def l_sure_11 (_ : Unit) : List EOp := ⟨6, (some 30), none, (.q (.ext 1 (.t 24))), []⟩ :: ⟨7, (some 31), none, (.q (.ext 2 (.t 24))), []⟩ :: ⟨8, (some 5), none, (.q (.alloc 37 [(.int .i64 0), (.int .i64 0), (.int .i64 0), (.slice none 0 0), (.slice none 0 0)])), []⟩ :: ⟨9, (some 6), none, (.q (.alloc 37 [(.int .i64 0), (.int .i64 0), (.int .i64 0), (.slice none 0 0), (.slice none 0 0)])), []⟩ :: ⟨10, none, none, (.fz (.sto 5 (.t 5) (.t 29))), []⟩ :: ⟨11, none, none, (.fz (.sto 5 (.t 6) (.t 30))), []⟩ :: hid l_sure_12
@[simp] def l_sure_10 (_ : Unit) : List EOp := ⟨0, (some 25), none, (.q (.lda 81 (.t 1))), []⟩ :: ⟨1, (some 26), none, (.q (.lda 5 (.t 2))), []⟩ :: ⟨2, (some 27), none, (.q (.lda 5 (.t 3))), []⟩ :: ⟨3, (some 28), none, (.call 6 [(.t 25), (.k (.int .i64 7)), (.k (.int .i64 20)), (.t 26), (.t 27)]), []⟩ :: ⟨4, (some 24), none, (.q (.mov (.t 28))), []⟩ :: ⟨5, (some 29), none, (.q (.ext 0 (.t 24))), []⟩ :: hid l_sure_11
@[simp] def b_sure_13 (_ : Unit) : EB := reg0 (hid l_sure_10) 13
@[simp] def l_sure_18 (_ : Unit) : List EOp := [⟨24, (some 0), none, (.q (.mov (.t 55))), []⟩]
@[simp] def l_sure_17 (_ : Unit) : List EOp := ⟨18, (some 50), none, (.q (.mov (.t 49))), []⟩ :: ⟨19, (some 51), (some (50, true)), (.q (.fad 1 (.t 6))), []⟩ :: ⟨20, (some 52), (some (50, true)), (.q (.lda 2 (.t 51))), []⟩ :: ⟨21, (some 53), (some (50, true)), (.q (.build [(.int .i64 0), (.int .i64 0)] [(0, 1, (.k (.int .i64 80))), (1, 1, (.k (.int .i64 20)))])), []⟩ :: ⟨22, (some 54), (some (50, true)), (.q (.eqa false 2 .i64 (.t 52) (.t 53))), []⟩ :: ⟨23, (some 55), none, (.q (.pick (.t 50) (.t 54) (.k (.bool false)))), []⟩ :: hid l_sure_18
@[simp] def l_sure_16 (_ : Unit) : List EOp := ⟨12, (some 44), none, (.q (.mov (.t 43))), []⟩ :: ⟨13, (some 45), (some (44, true)), (.q (.fad 1 (.t 5))), []⟩ :: ⟨14, (some 46), (some (44, true)), (.q (.lda 2 (.t 45))), []⟩ :: ⟨15, (some 47), (some (44, true)), (.q (.build [(.int .i64 0), (.int .i64 0)] [(0, 1, (.k (.int .i64 80))), (1, 1, (.k (.int .i64 20)))])), []⟩ :: ⟨16, (some 48), (some (44, true)), (.q (.eqa false 2 .i64 (.t 46) (.t 47))), []⟩ :: ⟨17, (some 49), none, (.q (.pick (.t 44) (.t 48) (.k (.bool false)))), []⟩ :: hid l_sure_17
@[simp] def l_sure_15 (_ : Unit) : List EOp := ⟨6, (some 38), none, (.q (.mov (.t 37))), []⟩ :: ⟨7, (some 39), (some (38, true)), (.q (.fad 1 (.t 2))), []⟩ :: ⟨8, (some 40), (some (38, true)), (.q (.lda 2 (.t 39))), []⟩ :: ⟨9, (some 41), (some (38, true)), (.q (.build [(.int .i64 0), (.int .i64 0)] [(0, 1, (.k (.int .i64 50))), (1, 1, (.k (.int .i64 0)))])), []⟩ :: ⟨10, (some 42), (some (38, true)), (.q (.eqa false 2 .i64 (.t 40) (.t 41))), []⟩ :: ⟨11, (some 43), none, (.q (.pick (.t 38) (.t 42) (.k (.bool false)))), []⟩ :: hid l_sure_16
@[simp] def l_sure_14 (_ : Unit) : List EOp := ⟨0, (some 32), none, (.q (.mov (.t 4))), []⟩ :: ⟨1, (some 33), none, (.q (.eqi false (.t 32))), []⟩ :: ⟨2, (some 34), none, (.q (.mov (.t 33))), []⟩ :: ⟨3, (some 35), (some (34, true)), (.q (.mov (.t 7))), []⟩ :: ⟨4, (some 36), (some (34, true)), (.q (.eqi false (.t 35))), []⟩ :: ⟨5, (some 37), none, (.q (.pick (.t 34) (.t 36) (.k (.bool false)))), []⟩ :: hid l_sure_15
@[simp] def b_sure_19 (_ : Unit) : EB := reg0 (hid l_sure_14) 25
@[simp] def b_sure_20 (_ : Unit) : EB := .seq (hid b_sure_19) .ret
@[simp] def b_sure_21 (_ : Unit) : EB := .seq (hid b_sure_13) (hid b_sure_20)
@[simp] def b_sure_22 (_ : Unit) : EB := .seq (hid b_sure_9) (hid b_sure_21)
@[simp] def b_sure_23 (_ : Unit) : EB := .seq (hid b_sure_5) (hid b_sure_22)
@[simp] def b_sure_24 (_ : Unit) : EB := .seq (hid b_sure_2) (hid b_sure_23)
def c_sure : EB × List QOp × Nat := ((hid b_sure_24), [(.mov (.t 0))], 56)
theorem k_sure : cfun Try.prog 9 = some c_sure := by kernel_rfl


theorem VV_nl {X : Cx} {e1 e2 : Nat} {a b c : EC} {u : Value} (h : VV X (.v (.agg [a, b, c, .fz (.lit (.slice none 0 0)), .fz (.lit (.slice none 0 0))])) u) : VV X (.v (.agg [a, b, c, .fz (.sl e1 []), .fz (.sl e2 [])])) u := by
  obtain ⟨vs, rfl, hv⟩ := h
  refine ⟨vs, rfl, by simpa using hv.1, ?_⟩
  intro i x y hx hy
  rcases i with _ | _ | _ | _ | _ | i
  · exact hv.2 0 x y hx hy
  · exact hv.2 1 x y hx hy
  · exact hv.2 2 x y hx hy
  · have := hv.2 3 _ y rfl hy
    simp at hx; subst hx
    exact nl_vr this
  · have := hv.2 4 _ y rfl hy
    simp at hx; subst hx
    exact nl_vr this
  · simp at hx
theorem ecalls_nl34 {P : Program} {f : FuncId} {e1 e2 e3 e4 : Nat} {a b c a' b' c' : EC} {x y : EV} {H : List EO} {post : EV → List (Option EO) → Prop} (h : ECalls P f [x, y, .v (.agg [a, b, c, .fz (.sl e1 []), .fz (.sl e2 [])]), .v (.agg [a', b', c', .fz (.sl e3 []), .fz (.sl e4 [])])] H post) :
    ECalls P f [x, y, .v (.agg [a, b, c, .fz (.lit (.slice none 0 0)), .fz (.lit (.slice none 0 0))]), .v (.agg [a', b', c', .fz (.lit (.slice none 0 0)), .fz (.lit (.slice none 0 0))])] H post := by
  intro ρ Φ w vals r ha
  refine h ρ Φ w vals r ?_
  obtain ⟨u, us, rfl, h1, h2⟩ := ha.cons_left
  obtain ⟨u2, us2, rfl, h3, h4⟩ := h2.cons_left
  obtain ⟨u3, us3, rfl, h5, h6⟩ := h4.cons_left
  obtain ⟨u4, us4, rfl, h7, h8⟩ := h6.cons_left
  exact All2.cons h1 (All2.cons h3 (All2.cons (VV_nl h5) (All2.cons (VV_nl h7) h8)))

/-- The route of the sample. -/
def R0 : Rte := ⟨⟨hz, 0, 0, 1, 2, 0, 0⟩, ⟨hz, 0, 0, 2, 3, 0, 0⟩, 1, 2, 3, 50, 0⟩
theorem R0_ok : R0.ok := by simp [R0, Rte.ok, Prm.ok, i64, hz]
theorem s100_ok : (Sta.mk 0 100 0 [] []).ok := by simp [Sta.ok, i64]
theorem s50h_ok : (Sta.mk 1 50 0 [] [⟨7, 50, [1, 2, 3]⟩]).ok := by simp [Sta.ok, i64, Hol.ok]
theorem R0_open : opnS R0 7 ⟨0, 100, 0, [], []⟩ ⟨0, 100, 0, [], []⟩ = (⟨1, 50, 0, [], [⟨7, 50, [1, 2, 3]⟩]⟩, ⟨1, 50, 0, [], [⟨7, 50, [1, 2, 3]⟩]⟩, 0) := by kernel_rfl
theorem R0_close : cloS R0 7 20 ⟨1, 50, 0, [], [⟨7, 50, [1, 2, 3]⟩]⟩ ⟨1, 50, 0, [], [⟨7, 50, [1, 2, 3]⟩]⟩ = (⟨2, 80, 20, [], []⟩, ⟨2, 80, 20, [], []⟩, 0) := by kernel_rfl

set_option maxHeartbeats 8000000 in
set_option maxRecDepth 8000 in
theorem sure_ok : ECalls Try.prog 9 [] [] fun y H' => H' = [] ∧ y = .lit (.bool true) := by
  have hop := VOpen_ok R0 7 ⟨0, 100, 0, [], []⟩ ⟨0, 100, 0, [], []⟩ R0_ok (by simp [i64]) s100_ok s100_ok
  rw [R0_open] at hop
  have hop' : ECalls Try.prog 5 [RVv R0, I .i64 7, .v (.agg [iC 0, iC 100, iC 0, .fz (.lit (.slice none 0 0)), .fz (.lit (.slice none 0 0))]), .v (.agg [iC 0, iC 100, iC 0, .fz (.lit (.slice none 0 0)), .fz (.lit (.slice none 0 0))])] [] fun y H' => H' = [] ∧ y = SSE (⟨1, 50, 0, [], [⟨7, 50, [1, 2, 3]⟩]⟩, ⟨1, 50, 0, [], [⟨7, 50, [1, 2, 3]⟩]⟩, 0) := ecalls_nl34 (e1 := 36) (e2 := 3) (e3 := 36) (e4 := 3) hop
  have hcl := VClose_ok R0 7 20 ⟨1, 50, 0, [], [⟨7, 50, [1, 2, 3]⟩]⟩ ⟨1, 50, 0, [], [⟨7, 50, [1, 2, 3]⟩]⟩ R0_ok (by simp [i64]) (by simp [i64]) s50h_ok s50h_ok
  rw [R0_close] at hcl
  refine ecalls k_sure ?_
  simp [c_sure]
  refine call0 hop' (by kernel_rfl) ?_
  rintro y H' ⟨rfl, rfl⟩
  refine ⟨.inl (by kernel_rfl), le_ok rfl, ?_⟩
  simp [SSE, staC, -errV_0]
  refine call0 hcl (by kernel_rfl) ?_
  rintro y H' ⟨rfl, rfl⟩
  refine ⟨.inl (by kernel_rfl), le_ok rfl, ?_⟩
  simp [SSE, staC, -errV_0]
  exact fin [] (by decide) rfl rfl rfl ⟨rfl, rfl⟩

end Go.Proofs.Ytejjhgdnmknejaa
