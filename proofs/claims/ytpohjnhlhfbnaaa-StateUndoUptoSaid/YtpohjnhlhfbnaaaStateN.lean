import Derived.Test.YtpohjnhlhfbnaaaStateM
import Derived.Test.YtpohjnhlhfbnaaaStateB
namespace Go.Proofs.Ytpohjnhlhfbnaaa
open Go Go.EW
set_option linter.unusedSimpArgs false
set_option linter.unusedVariables false

@[simp] def l_StateUndo_1 (_ : Unit) : List EOp := [⟨0, (some 3), none, (.q (.box 26 (.t 0))), []⟩, ⟨1, (some 4), none, (.q (.box 30 (.t 1))), []⟩, ⟨2, (some 5), none, (.q (.box 22 (.t 2))), []⟩, ⟨3, (some 6), none, (.q (.mov (.k (.bool false)))), []⟩]
@[simp] def b_StateUndo_2 (_ : Unit) : EB := reg0 (hid l_StateUndo_1) 4
@[simp] def l_StateUndo_3 (_ : Unit) : List EOp := [⟨0, (some 18), none, (.q (.iad 2 1 (.t 5) (.k (.int .i64 0)))), []⟩, ⟨1, (some 19), none, (.q (.ldc (.t 18))), []⟩, ⟨2, (some 20), none, (.q (.iad 2 1 (.t 5) (.k (.int .i64 1)))), []⟩, ⟨3, (some 21), none, (.q (.ldc (.t 20))), []⟩, ⟨4, (some 7), none, (.q (.mov (.t 19))), []⟩, ⟨5, (some 8), none, (.q (.mov (.t 21))), []⟩]
@[simp] def b_StateUndo_4 (_ : Unit) : EB := reg0 (hid l_StateUndo_3) 6
@[simp] def l_StateUndo_6 (_ : Unit) : List EOp := [⟨6, (some 28), none, (.q (.pick (.t 24) (.k (.bool true)) (.t 27))), []⟩]
@[simp] def l_StateUndo_5 (_ : Unit) : List EOp := ⟨0, (some 22), none, (.q (.lda 5 (.t 3))), []⟩ :: ⟨1, (some 23), none, (.call 4 [(.t 22)]), []⟩ :: ⟨2, (some 24), none, (.q (.mov (.t 23))), []⟩ :: ⟨3, (some 25), (some (24, false)), (.q (.fad 0 (.t 3))), []⟩ :: ⟨4, (some 26), (some (24, false)), (.q (.ldc (.t 25))), []⟩ :: ⟨5, (some 27), (some (24, false)), (.q (.bin .gtr (.t 26) (.k (.int .i64 549755813888)))), []⟩ :: hid l_StateUndo_6
@[simp] def b_StateUndo_7 (_ : Unit) : EB := reg0 (hid l_StateUndo_5) 7
@[simp] def l_StateUndo_8 (_ : Unit) : List EOp := [⟨0, (some 29), none, (.call 5 []), []⟩, ⟨1, (some 6), none, (.q (.mov (.t 29))), []⟩]
@[simp] def b_StateUndo_9 (_ : Unit) : EB := reg0 (hid l_StateUndo_8) 2
@[simp] def b_StateUndo_10 (_ : Unit) : EB := .seq (hid b_StateUndo_9) .ret
@[simp] def b_StateUndo_11 (_ : Unit) : EB := .cond (.t 28) (hid b_StateUndo_10) .skip
@[simp] def b_StateUndo_12 (_ : Unit) : EB := .seq (hid b_StateUndo_7) (hid b_StateUndo_11)
@[simp] def l_StateUndo_13 (_ : Unit) : List EOp := [⟨0, (some 30), none, (.q (.lda 5 (.t 3))), []⟩, ⟨1, (some 31), none, (.call 6 [(.t 30)]), []⟩, ⟨2, (some 9), none, (.q (.alloc 36 [(.int .i64 0), (.int .i64 0), (.int .i64 0), (.slice none 0 0), (.slice none 0 0)])), []⟩, ⟨3, none, none, (.fz (.sto 5 (.t 9) (.t 31))), []⟩]
@[simp] def b_StateUndo_14 (_ : Unit) : EB := reg0 (hid l_StateUndo_13) 4
@[simp] def l_StateUndo_16 (_ : Unit) : List EOp := [⟨6, (some 10), none, (.q (.alloc 36 [(.int .i64 0), (.int .i64 0), (.int .i64 0), (.slice none 0 0), (.slice none 0 0)])), []⟩, ⟨7, none, none, (.fz (.sto 5 (.t 10) (.t 36))), []⟩, ⟨8, (some 11), none, (.q (.mov (.t 37))), []⟩]
@[simp] def l_StateUndo_15 (_ : Unit) : List EOp := ⟨0, (some 33), none, (.q (.lda 5 (.t 9))), []⟩ :: ⟨1, (some 34), none, (.q (.lda 36 (.t 4))), []⟩ :: ⟨2, (some 35), none, (.call 7 [(.t 33), (.t 34)]), []⟩ :: ⟨3, (some 32), none, (.q (.mov (.t 35))), []⟩ :: ⟨4, (some 36), none, (.q (.ext 0 (.t 32))), []⟩ :: ⟨5, (some 37), none, (.q (.ext 1 (.t 32))), []⟩ :: hid l_StateUndo_16
@[simp] def b_StateUndo_17 (_ : Unit) : EB := reg0 (hid l_StateUndo_15) 9
@[simp] def l_StateUndo_18 (_ : Unit) : List EOp := [⟨0, (some 38), none, (.q (.mov (.t 11))), []⟩, ⟨1, (some 39), none, (.q (.eqi false (.t 38))), []⟩]
@[simp] def b_StateUndo_19 (_ : Unit) : EB := reg0 (hid l_StateUndo_18) 2
@[simp] def l_StateUndo_21 (_ : Unit) : List EOp := [⟨6, (some 46), none, (.q (.ext 1 (.t 40))), []⟩, ⟨7, (some 12), none, (.q (.alloc 36 [(.int .i64 0), (.int .i64 0), (.int .i64 0), (.slice none 0 0), (.slice none 0 0)])), []⟩, ⟨8, none, none, (.fz (.sto 5 (.t 12) (.t 45))), []⟩, ⟨9, (some 13), none, (.q (.mov (.t 46))), []⟩]
@[simp] def l_StateUndo_20 (_ : Unit) : List EOp := ⟨0, (some 41), none, (.q (.lda 5 (.t 10))), []⟩ :: ⟨1, (some 42), none, (.q (.fad 0 (.t 4))), []⟩ :: ⟨2, (some 43), none, (.q (.ldc (.t 42))), []⟩ :: ⟨3, (some 44), none, (.call 8 [(.t 41), (.t 43)]), []⟩ :: ⟨4, (some 40), none, (.q (.mov (.t 44))), []⟩ :: ⟨5, (some 45), none, (.q (.ext 0 (.t 40))), []⟩ :: hid l_StateUndo_21
@[simp] def b_StateUndo_22 (_ : Unit) : EB := reg0 (hid l_StateUndo_20) 10
@[simp] def l_StateUndo_25 (_ : Unit) : List EOp := [⟨12, (some 59), (some (56, false)), (.q (.len (.t 58))), []⟩, ⟨13, (some 60), (some (56, false)), (.q (.fad 3 (.t 9))), []⟩, ⟨14, (some 61), (some (56, false)), (.q (.ldc (.t 60))), []⟩, ⟨15, (some 62), (some (56, false)), (.q (.len (.t 61))), []⟩, ⟨16, (some 63), (some (56, false)), (.q (.bin .neq (.t 59) (.t 62))), []⟩, ⟨17, (some 64), none, (.q (.pick (.t 56) (.k (.bool true)) (.t 63))), []⟩]
@[simp] def l_StateUndo_24 (_ : Unit) : List EOp := ⟨6, (some 53), (some (49, false)), (.q (.lda 2 (.t 52))), []⟩ :: ⟨7, (some 54), (some (49, false)), (.q (.eqa true 2 .i64 (.t 51) (.t 53))), []⟩ :: ⟨8, (some 55), none, (.q (.pick (.t 49) (.k (.bool true)) (.t 54))), []⟩ :: ⟨9, (some 56), none, (.q (.mov (.t 55))), []⟩ :: ⟨10, (some 57), (some (56, false)), (.q (.fad 3 (.t 12))), []⟩ :: ⟨11, (some 58), (some (56, false)), (.q (.ldc (.t 57))), []⟩ :: hid l_StateUndo_25
@[simp] def l_StateUndo_23 (_ : Unit) : List EOp := ⟨0, (some 47), none, (.q (.mov (.t 13))), []⟩ :: ⟨1, (some 48), none, (.q (.eqi true (.t 47))), []⟩ :: ⟨2, (some 49), none, (.q (.mov (.t 48))), []⟩ :: ⟨3, (some 50), (some (49, false)), (.q (.fad 1 (.t 12))), []⟩ :: ⟨4, (some 51), (some (49, false)), (.q (.lda 2 (.t 50))), []⟩ :: ⟨5, (some 52), (some (49, false)), (.q (.fad 1 (.t 9))), []⟩ :: hid l_StateUndo_24
@[simp] def b_StateUndo_26 (_ : Unit) : EB := reg0 (hid l_StateUndo_23) 18
@[simp] def l_StateUndo_27 (_ : Unit) : List EOp := [⟨0, (some 6), none, (.q (.mov (.k (.bool false)))), []⟩]
@[simp] def b_StateUndo_28 (_ : Unit) : EB := reg0 (hid l_StateUndo_27) 1
@[simp] def b_StateUndo_29 (_ : Unit) : EB := .seq (hid b_StateUndo_28) .ret
@[simp] def b_StateUndo_30 (_ : Unit) : EB := .cond (.t 64) (hid b_StateUndo_29) .skip
@[simp] def b_StateUndo_31 (_ : Unit) : EB := .seq (hid b_StateUndo_26) (hid b_StateUndo_30)
@[simp] def b_StateUndo_32 (_ : Unit) : EB := .seq (hid b_StateUndo_22) (hid b_StateUndo_31)
@[simp] def b_StateUndo_33 (_ : Unit) : EB := .cond (.t 39) (hid b_StateUndo_32) .skip
@[simp] def b_StateUndo_34 (_ : Unit) : EB := .seq (hid b_StateUndo_19) (hid b_StateUndo_33)
@[simp] def l_StateUndo_36 (_ : Unit) : List EOp := [⟨6, (some 71), none, (.q (.ext 1 (.t 65))), []⟩, ⟨7, (some 14), none, (.q (.alloc 36 [(.int .i64 0), (.int .i64 0), (.int .i64 0), (.slice none 0 0), (.slice none 0 0)])), []⟩, ⟨8, none, none, (.fz (.sto 5 (.t 14) (.t 70))), []⟩, ⟨9, (some 15), none, (.q (.mov (.t 71))), []⟩]
@[simp] def l_StateUndo_35 (_ : Unit) : List EOp := ⟨0, (some 66), none, (.q (.lda 5 (.t 9))), []⟩ :: ⟨1, (some 67), none, (.q (.mov (.t 7))), []⟩ :: ⟨2, (some 68), none, (.q (.mov (.t 8))), []⟩ :: ⟨3, (some 69), none, (.call 9 [(.t 66), (.t 67), (.t 68)]), []⟩ :: ⟨4, (some 65), none, (.q (.mov (.t 69))), []⟩ :: ⟨5, (some 70), none, (.q (.ext 0 (.t 65))), []⟩ :: hid l_StateUndo_36
@[simp] def b_StateUndo_37 (_ : Unit) : EB := reg0 (hid l_StateUndo_35) 10
@[simp] def l_StateUndo_38 (_ : Unit) : List EOp := [⟨0, (some 72), none, (.q (.mov (.t 15))), []⟩, ⟨1, (some 73), none, (.q (.eqi false (.t 72))), []⟩]
@[simp] def b_StateUndo_39 (_ : Unit) : EB := reg0 (hid l_StateUndo_38) 2
@[simp] def l_StateUndo_41 (_ : Unit) : List EOp := [⟨6, (some 80), none, (.q (.ext 0 (.t 74))), []⟩, ⟨7, (some 81), none, (.q (.ext 1 (.t 74))), []⟩, ⟨8, (some 16), none, (.q (.alloc 36 [(.int .i64 0), (.int .i64 0), (.int .i64 0), (.slice none 0 0), (.slice none 0 0)])), []⟩, ⟨9, none, none, (.fz (.sto 5 (.t 16) (.t 80))), []⟩, ⟨10, (some 17), none, (.q (.mov (.t 81))), []⟩]
@[simp] def l_StateUndo_40 (_ : Unit) : List EOp := ⟨0, (some 75), none, (.q (.lda 5 (.t 14))), []⟩ :: ⟨1, (some 76), none, (.q (.mov (.t 7))), []⟩ :: ⟨2, (some 77), none, (.q (.bin .sub (.k (.int .i64 1)) (.t 76))), []⟩ :: ⟨3, (some 78), none, (.q (.mov (.t 8))), []⟩ :: ⟨4, (some 79), none, (.call 9 [(.t 75), (.t 77), (.t 78)]), []⟩ :: ⟨5, (some 74), none, (.q (.mov (.t 79))), []⟩ :: hid l_StateUndo_41
@[simp] def b_StateUndo_42 (_ : Unit) : EB := reg0 (hid l_StateUndo_40) 11
@[simp] def l_StateUndo_44 (_ : Unit) : List EOp := [⟨6, (some 88), (some (84, false)), (.q (.lda 2 (.t 87))), []⟩, ⟨7, (some 89), (some (84, false)), (.q (.eqa true 2 .i64 (.t 86) (.t 88))), []⟩, ⟨8, (some 90), none, (.q (.pick (.t 84) (.k (.bool true)) (.t 89))), []⟩]
@[simp] def l_StateUndo_43 (_ : Unit) : List EOp := ⟨0, (some 82), none, (.q (.mov (.t 17))), []⟩ :: ⟨1, (some 83), none, (.q (.eqi true (.t 82))), []⟩ :: ⟨2, (some 84), none, (.q (.mov (.t 83))), []⟩ :: ⟨3, (some 85), (some (84, false)), (.q (.fad 1 (.t 16))), []⟩ :: ⟨4, (some 86), (some (84, false)), (.q (.lda 2 (.t 85))), []⟩ :: ⟨5, (some 87), (some (84, false)), (.q (.fad 1 (.t 9))), []⟩ :: hid l_StateUndo_44
@[simp] def b_StateUndo_45 (_ : Unit) : EB := reg0 (hid l_StateUndo_43) 9
@[simp] def l_StateUndo_46 (_ : Unit) : List EOp := [⟨0, (some 6), none, (.q (.mov (.k (.bool false)))), []⟩]
@[simp] def b_StateUndo_47 (_ : Unit) : EB := reg0 (hid l_StateUndo_46) 1
@[simp] def b_StateUndo_48 (_ : Unit) : EB := .seq (hid b_StateUndo_47) .ret
@[simp] def b_StateUndo_49 (_ : Unit) : EB := .cond (.t 90) (hid b_StateUndo_48) .skip
@[simp] def b_StateUndo_50 (_ : Unit) : EB := .seq (hid b_StateUndo_45) (hid b_StateUndo_49)
@[simp] def b_StateUndo_51 (_ : Unit) : EB := .seq (hid b_StateUndo_42) (hid b_StateUndo_50)
@[simp] def b_StateUndo_52 (_ : Unit) : EB := .cond (.t 73) (hid b_StateUndo_51) .skip
@[simp] def b_StateUndo_53 (_ : Unit) : EB := .seq (hid b_StateUndo_39) (hid b_StateUndo_52)
@[simp] def l_StateUndo_54 (_ : Unit) : List EOp := [⟨0, (some 91), none, (.call 5 []), []⟩, ⟨1, (some 6), none, (.q (.mov (.t 91))), []⟩]
@[simp] def b_StateUndo_55 (_ : Unit) : EB := reg0 (hid l_StateUndo_54) 2
@[simp] def b_StateUndo_56 (_ : Unit) : EB := .seq (hid b_StateUndo_55) .ret
@[simp] def b_StateUndo_57 (_ : Unit) : EB := .seq (hid b_StateUndo_53) (hid b_StateUndo_56)
@[simp] def b_StateUndo_58 (_ : Unit) : EB := .seq (hid b_StateUndo_37) (hid b_StateUndo_57)
@[simp] def b_StateUndo_59 (_ : Unit) : EB := .seq (hid b_StateUndo_34) (hid b_StateUndo_58)
@[simp] def b_StateUndo_60 (_ : Unit) : EB := .seq (hid b_StateUndo_17) (hid b_StateUndo_59)
@[simp] def b_StateUndo_61 (_ : Unit) : EB := .seq (hid b_StateUndo_14) (hid b_StateUndo_60)
@[simp] def b_StateUndo_62 (_ : Unit) : EB := .seq (hid b_StateUndo_12) (hid b_StateUndo_61)
@[simp] def b_StateUndo_63 (_ : Unit) : EB := .seq (hid b_StateUndo_4) (hid b_StateUndo_62)
@[simp] def b_StateUndo_64 (_ : Unit) : EB := .seq (hid b_StateUndo_2) (hid b_StateUndo_63)
def c_StateUndo : EB × List QOp × Nat := ((hid b_StateUndo_64), [(.mov (.t 6))], 92)
theorem k_StateUndo : cfun Try.prog 3 = some c_StateUndo := by kernel_rfl


set_option maxHeartbeats 4000000 in
theorem StateUndo_ok (s : Sta) (p : Pay) (a n : Int) (hs : s.ok) (hp : p.ok) (ha : i64 a) (hn : i64 n) : ECalls Try.prog 3 [SV s, .v (.agg (payC p)), .v (.agg [.fz (.lit (.int .i64 a)), .fz (.lit (.int .i64 n))])] [] fun y H' => H' = [] ∧ y = .lit (.bool true) := by
  have hpt := payC_take hp.2.2.2.2
  have hpl := payC_len hp.2.2.2.2
  refine ecalls k_StateUndo ?_
  simp [c_StateUndo, SV, staC, hpt, hpl, -errV_0]
  refine call0 (longState_ok s hs) (by simp [Ptr, I, EV.lit, SV, staC, SE]) ?_
  rintro y H' ⟨rfl, rfl⟩
  refine ⟨.inl (by simp [Ptr, I, EV.lit, SV, staC, SE]), le_ok rfl, ?_⟩
  cases hl : longS s with
  | true =>
    simp
    refine call0 (sure_ok) (by simp [Ptr, I, EV.lit, SV, staC, SE]) ?_
    rintro y H' ⟨rfl, rfl⟩
    refine ⟨.inl (by simp [Ptr, I, EV.lit, SV, staC, SE]), le_ok rfl, ?_⟩
    simp [Ptr, I, EV.lit, SV, staC, SE]
    exact fin [] (by decide) rfl rfl rfl ⟨rfl, rfl⟩
  | false =>
  obtain ⟨hm, _⟩ := longS_small hl
  simp [-errV_0]
  refine alt (fun hbig => ?_) (fun hbig => ?_)
  · simp
    refine call0 (sure_ok) (by simp [Ptr, I, EV.lit, SV, staC, SE]) ?_
    rintro y H' ⟨rfl, rfl⟩
    refine ⟨.inl (by simp [Ptr, I, EV.lit, SV, staC, SE]), le_ok rfl, ?_⟩
    simp [Ptr, I, EV.lit, SV, staC, SE]
    exact fin [] (by decide) rfl rfl rfl ⟨rfl, rfl⟩
  have hn39 : s.num ≤ 549755813888 := by omega
  simp [-errV_0]
  refine call0 (giveState_ok s hs hm) (by simp [Ptr, I, EV.lit, SV, staC, SE]) ?_
  rintro y H' ⟨rfl, rfl⟩
  refine ⟨.inl (by simp [Ptr, I, EV.lit, SV, staC, SE]), le_ok rfl, ?_⟩
  simp [SV, staC, hpt, hpl, -errV_0]
  refine call0 (SAdd_ok s p hs hp) (by simp [SV, staC]) ?_
  rintro y H' ⟨rfl, rfl⟩
  refine ⟨.inl (by simp [-List.flatMap_eq_nil_iff]), le_ok rfl, ?_⟩
  obtain ⟨X, hX⟩ : ∃ X, addP s p = X := ⟨_, rfl⟩
  have hadd := @addP_ok s p hs hp
  have hfa := fun h => @fal_add s p h hn39
  rw [hX] at hadd hfa ⊢
  simp [SE, staC, -errV_0]
  by_cases he : X.2 = 0
  case' pos =>
    obtain ⟨f1, f2, f3, f4⟩ := hfa he
    have hxo := hadd he
    simp [he, pc0, -errV_0]
    refine call0 (SFail_ok X.1 p.id hxo hp.1) (by simp [SV, staC, I]) ?_
    rintro y H' ⟨rfl, rfl⟩
    refine ⟨.inl (by simp [-List.flatMap_eq_nil_iff]), le_ok rfl, ?_⟩
    obtain ⟨Y, hY⟩ : ∃ Y, falS X.1 p.id = Y := ⟨_, rfl⟩
    rw [hY] at f1 f2 f3 f4 ⊢
    simp [SE, staC, f1, f2, f3, f4, -errV_0]
  case' neg =>
    simp [he, -errV_0]
  all_goals
    refine call0 (Move_ok s a n hs ha hn) (by simp [SV, staC, I]) ?_
    rintro y H' ⟨rfl, rfl⟩
    refine ⟨.inl (by simp [-List.flatMap_eq_nil_iff]), le_ok rfl, ?_⟩
    have hmo := @moveS_ok s a n hs hm
    have hba := fun h => @moveS_back s a n h hn39 hs
    obtain ⟨Z, hZ⟩ : ∃ Z, moveS s a n = Z := ⟨_, rfl⟩
    rw [hZ] at hmo hba ⊢
    simp [SE, staC, -errV_0]
    by_cases hz : Z.2 = 0
    · obtain ⟨g1, g2, g3, g4⟩ := hba hz
      have w1 : IntKind.i64.wrap (1 - a) = 1 - a := wrap_i64 (by omega) (by omega)
      simp [hz, w1, -errV_0]
      refine call0 (Move_ok Z.1 (1 - a) n hmo.1 ⟨by omega, by omega⟩ hn) (by simp [SV, staC, I]) ?_
      rintro y H' ⟨rfl, rfl⟩
      refine ⟨.inl (by simp [-List.flatMap_eq_nil_iff]), le_ok rfl, ?_⟩
      obtain ⟨U, hU⟩ : ∃ U, moveS Z.1 (1 - a) n = U := ⟨_, rfl⟩
      rw [hU] at g2 g3 g4 ⊢
      simp [SE, staC, g2, g3, g4, -errV_0]
      refine call0 (sure_ok) (by simp [I]) ?_
      rintro y H' ⟨rfl, rfl⟩
      refine ⟨.inl (by simp), le_ok rfl, ?_⟩
      simp
      exact fin [] (by decide) rfl rfl rfl ⟨rfl, rfl⟩
    · simp [hz, -errV_0]
      refine call0 (sure_ok) (by simp [I]) ?_
      rintro y H' ⟨rfl, rfl⟩
      refine ⟨.inl (by simp), le_ok rfl, ?_⟩
      simp
      exact fin [] (by decide) rfl rfl rfl ⟨rfl, rfl⟩

end Go.Proofs.Ytpohjnhlhfbnaaa
