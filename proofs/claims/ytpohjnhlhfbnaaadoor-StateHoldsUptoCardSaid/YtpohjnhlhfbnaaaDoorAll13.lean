import Derived.Test.YtpohjnhlhfbnaaaDoorAll12
namespace Go.Proofs.YtpohjnhlhfbnaaaDoor
open Go Go.EW
set_option linter.unusedSimpArgs false
set_option linter.unusedVariables false

@[simp] def l_StateHolds_1 (_ : Unit) : List EOp := [⟨0, (some 3), none, (.q (.box 26 (.t 0))), []⟩, ⟨1, (some 4), none, (.q (.box 57 (.t 1))), []⟩, ⟨2, (some 5), none, (.q (.box 22 (.t 2))), []⟩, ⟨3, (some 6), none, (.q (.mov (.k (.bool false)))), []⟩]
@[simp] def b_StateHolds_2 (_ : Unit) : EB := reg0 (hid l_StateHolds_1) 4
@[simp] def l_StateHolds_4 (_ : Unit) : List EOp := [⟨6, (some 28), (some (24, false)), (.q (.bin .gtr (.t 27) (.k (.int .i64 100)))), []⟩, ⟨7, (some 29), none, (.q (.pick (.t 24) (.k (.bool true)) (.t 28))), []⟩]
@[simp] def l_StateHolds_3 (_ : Unit) : List EOp := ⟨0, (some 22), none, (.q (.lda 5 (.t 3))), []⟩ :: ⟨1, (some 23), none, (.call 10 [(.t 22)]), []⟩ :: ⟨2, (some 24), none, (.q (.mov (.t 23))), []⟩ :: ⟨3, (some 25), (some (24, false)), (.q (.fad 2 (.t 4))), []⟩ :: ⟨4, (some 26), (some (24, false)), (.q (.ldc (.t 25))), []⟩ :: ⟨5, (some 27), (some (24, false)), (.q (.len (.t 26))), []⟩ :: hid l_StateHolds_4
@[simp] def b_StateHolds_5 (_ : Unit) : EB := reg0 (hid l_StateHolds_3) 8
@[simp] def l_StateHolds_6 (_ : Unit) : List EOp := [⟨0, (some 30), none, (.call 11 []), []⟩, ⟨1, (some 6), none, (.q (.mov (.t 30))), []⟩]
@[simp] def b_StateHolds_7 (_ : Unit) : EB := reg0 (hid l_StateHolds_6) 2
@[simp] def b_StateHolds_8 (_ : Unit) : EB := .seq (hid b_StateHolds_7) .ret
@[simp] def b_StateHolds_9 (_ : Unit) : EB := .cond (.t 29) (hid b_StateHolds_8) .skip
@[simp] def b_StateHolds_10 (_ : Unit) : EB := .seq (hid b_StateHolds_5) (hid b_StateHolds_9)
@[simp] def l_StateHolds_11 (_ : Unit) : List EOp := [⟨0, (some 31), none, (.q (.lda 5 (.t 3))), []⟩, ⟨1, (some 32), none, (.call 13 [(.t 31)]), []⟩, ⟨2, (some 7), none, (.q (.alloc 32 [(.int .i64 0), (.int .i64 0), (.int .i64 0), (.slice none 0 0), (.slice none 0 0)])), []⟩, ⟨3, none, none, (.fz (.sto 5 (.t 7) (.t 32))), []⟩]
@[simp] def b_StateHolds_12 (_ : Unit) : EB := reg0 (hid l_StateHolds_11) 4
@[simp] def l_StateHolds_13 (_ : Unit) : List EOp := [⟨0, (some 8), none, (.q (.mov (.k (.slice none 0 0)))), []⟩]
@[simp] def b_StateHolds_14 (_ : Unit) : EB := reg0 (hid l_StateHolds_13) 1
@[simp] def l_StateHolds_16 (_ : Unit) : List EOp := [⟨6, (some 39), none, (.q (.ldc (.t 38))), []⟩, ⟨9, (some 9), none, (.q (.alloc 65 [(.int .i64 0), (.int .i64 0), (.slice none 0 0)])), []⟩, ⟨7, (some 40), none, (.app 3 1 8 (.t 37) (.t 39)), [0, 1, 2, 3, 9]⟩, ⟨8, (some 41), none, (.q (.build [(.int .i64 0), (.int .i64 0), (.slice none 0 0)] [(0, 1, (.t 34)), (1, 1, (.t 36)), (2, 1, (.t 40))])), []⟩, ⟨10, none, none, (.fz (.sto 3 (.t 9) (.t 41))), []⟩]
@[simp] def l_StateHolds_15 (_ : Unit) : List EOp := ⟨0, (some 33), none, (.q (.fad 0 (.t 4))), []⟩ :: ⟨1, (some 34), none, (.q (.ldc (.t 33))), []⟩ :: ⟨2, (some 35), none, (.q (.fad 1 (.t 4))), []⟩ :: ⟨3, (some 36), none, (.q (.ldc (.t 35))), []⟩ :: ⟨4, (some 37), none, (.q (.mov (.t 8))), []⟩ :: ⟨5, (some 38), none, (.q (.fad 2 (.t 4))), []⟩ :: hid l_StateHolds_16
@[simp] def b_StateHolds_17 (_ : Unit) : EB := reg1 (hid l_StateHolds_15) 11
@[simp] def l_StateHolds_19 (_ : Unit) : List EOp := [⟨6, (some 48), none, (.q (.ext 0 (.t 42))), []⟩, ⟨7, (some 49), none, (.q (.ext 1 (.t 42))), []⟩, ⟨8, (some 10), none, (.q (.alloc 32 [(.int .i64 0), (.int .i64 0), (.int .i64 0), (.slice none 0 0), (.slice none 0 0)])), []⟩, ⟨9, none, none, (.fz (.sto 5 (.t 10) (.t 48))), []⟩, ⟨10, (some 11), none, (.q (.mov (.t 49))), []⟩]
@[simp] def l_StateHolds_18 (_ : Unit) : List EOp := ⟨0, (some 43), none, (.q (.lda 5 (.t 7))), []⟩ :: ⟨1, (some 44), none, (.q (.iad 2 1 (.t 5) (.k (.int .i64 0)))), []⟩ :: ⟨2, (some 45), none, (.q (.ldc (.t 44))), []⟩ :: ⟨3, (some 46), none, (.q (.lda 3 (.t 9))), []⟩ :: ⟨4, (some 47), none, (.call 26 [(.t 43), (.t 45), (.t 46)]), []⟩ :: ⟨5, (some 42), none, (.q (.mov (.t 47))), []⟩ :: hid l_StateHolds_19
@[simp] def b_StateHolds_20 (_ : Unit) : EB := reg0 (hid l_StateHolds_18) 11
@[simp] def l_StateHolds_22 (_ : Unit) : List EOp := [⟨6, (some 56), none, (.q (.ext 0 (.t 50))), []⟩, ⟨7, (some 57), none, (.q (.ext 1 (.t 50))), []⟩, ⟨8, (some 12), none, (.q (.alloc 26 [(.int .i64 0), (.int .i64 0), (.int .i64 0), (.slice none 0 0), (.slice none 0 0)])), []⟩, ⟨9, none, none, (.fz (.sto 5 (.t 12) (.t 56))), []⟩, ⟨10, (some 13), none, (.q (.mov (.t 57))), []⟩]
@[simp] def l_StateHolds_21 (_ : Unit) : List EOp := ⟨0, (some 51), none, (.q (.lda 5 (.t 3))), []⟩ :: ⟨1, (some 52), none, (.q (.iad 2 1 (.t 5) (.k (.int .i64 0)))), []⟩ :: ⟨2, (some 53), none, (.q (.ldc (.t 52))), []⟩ :: ⟨3, (some 54), none, (.q (.lda 3 (.t 4))), []⟩ :: ⟨4, (some 55), none, (.call 31 [(.t 51), (.t 53), (.t 54)]), []⟩ :: ⟨5, (some 50), none, (.q (.mov (.t 55))), []⟩ :: hid l_StateHolds_22
@[simp] def b_StateHolds_23 (_ : Unit) : EB := reg0 (hid l_StateHolds_21) 11
@[simp] def l_StateHolds_25 (_ : Unit) : List EOp := [⟨6, (some 58), none, (.q (.mov (.t 64))), []⟩, ⟨7, (some 65), none, (.q (.ext 0 (.t 58))), []⟩, ⟨8, (some 66), none, (.q (.ext 1 (.t 58))), []⟩, ⟨9, (some 14), none, (.q (.alloc 32 [(.int .i64 0), (.int .i64 0), (.int .i64 0), (.slice none 0 0), (.slice none 0 0)])), []⟩, ⟨10, none, none, (.fz (.sto 5 (.t 14) (.t 65))), []⟩, ⟨11, (some 15), none, (.q (.mov (.t 66))), []⟩]
@[simp] def l_StateHolds_24 (_ : Unit) : List EOp := ⟨0, (some 59), none, (.q (.lda 5 (.t 7))), []⟩ :: ⟨1, (some 60), none, (.q (.fad 0 (.t 4))), []⟩ :: ⟨2, (some 61), none, (.q (.ldc (.t 60))), []⟩ :: ⟨3, (some 62), none, (.q (.iad 2 1 (.t 5) (.k (.int .i64 1)))), []⟩ :: ⟨4, (some 63), none, (.q (.ldc (.t 62))), []⟩ :: ⟨5, (some 64), none, (.call 27 [(.t 59), (.t 61), (.t 63)]), []⟩ :: hid l_StateHolds_25
@[simp] def b_StateHolds_26 (_ : Unit) : EB := reg0 (hid l_StateHolds_24) 12
@[simp] def l_StateHolds_28 (_ : Unit) : List EOp := [⟨6, (some 67), none, (.q (.mov (.t 73))), []⟩, ⟨7, (some 74), none, (.q (.ext 0 (.t 67))), []⟩, ⟨8, (some 75), none, (.q (.ext 1 (.t 67))), []⟩, ⟨9, (some 16), none, (.q (.alloc 26 [(.int .i64 0), (.int .i64 0), (.int .i64 0), (.slice none 0 0), (.slice none 0 0)])), []⟩, ⟨10, none, none, (.fz (.sto 5 (.t 16) (.t 74))), []⟩, ⟨11, (some 17), none, (.q (.mov (.t 75))), []⟩]
@[simp] def l_StateHolds_27 (_ : Unit) : List EOp := ⟨0, (some 68), none, (.q (.lda 5 (.t 3))), []⟩ :: ⟨1, (some 69), none, (.q (.fad 0 (.t 4))), []⟩ :: ⟨2, (some 70), none, (.q (.ldc (.t 69))), []⟩ :: ⟨3, (some 71), none, (.q (.iad 2 1 (.t 5) (.k (.int .i64 1)))), []⟩ :: ⟨4, (some 72), none, (.q (.ldc (.t 71))), []⟩ :: ⟨5, (some 73), none, (.call 32 [(.t 68), (.t 70), (.t 72)]), []⟩ :: hid l_StateHolds_28
@[simp] def b_StateHolds_29 (_ : Unit) : EB := reg0 (hid l_StateHolds_27) 12
@[simp] def l_StateHolds_31 (_ : Unit) : List EOp := [⟨6, (some 76), none, (.q (.mov (.t 82))), []⟩, ⟨7, (some 83), none, (.q (.ext 0 (.t 76))), []⟩, ⟨8, (some 84), none, (.q (.ext 1 (.t 76))), []⟩, ⟨9, (some 18), none, (.q (.alloc 32 [(.int .i64 0), (.int .i64 0), (.int .i64 0), (.slice none 0 0), (.slice none 0 0)])), []⟩, ⟨10, none, none, (.fz (.sto 5 (.t 18) (.t 83))), []⟩, ⟨11, (some 19), none, (.q (.mov (.t 84))), []⟩]
@[simp] def l_StateHolds_30 (_ : Unit) : List EOp := ⟨0, (some 77), none, (.q (.lda 5 (.t 7))), []⟩ :: ⟨1, (some 78), none, (.q (.iad 2 1 (.t 5) (.k (.int .i64 0)))), []⟩ :: ⟨2, (some 79), none, (.q (.ldc (.t 78))), []⟩ :: ⟨3, (some 80), none, (.q (.iad 2 1 (.t 5) (.k (.int .i64 1)))), []⟩ :: ⟨4, (some 81), none, (.q (.ldc (.t 80))), []⟩ :: ⟨5, (some 82), none, (.call 16 [(.t 77), (.t 79), (.t 81)]), []⟩ :: hid l_StateHolds_31
@[simp] def b_StateHolds_32 (_ : Unit) : EB := reg0 (hid l_StateHolds_30) 12
@[simp] def l_StateHolds_34 (_ : Unit) : List EOp := [⟨6, (some 85), none, (.q (.mov (.t 91))), []⟩, ⟨7, (some 92), none, (.q (.ext 0 (.t 85))), []⟩, ⟨8, (some 93), none, (.q (.ext 1 (.t 85))), []⟩, ⟨9, (some 20), none, (.q (.alloc 26 [(.int .i64 0), (.int .i64 0), (.int .i64 0), (.slice none 0 0), (.slice none 0 0)])), []⟩, ⟨10, none, none, (.fz (.sto 5 (.t 20) (.t 92))), []⟩, ⟨11, (some 21), none, (.q (.mov (.t 93))), []⟩]
@[simp] def l_StateHolds_33 (_ : Unit) : List EOp := ⟨0, (some 86), none, (.q (.lda 5 (.t 3))), []⟩ :: ⟨1, (some 87), none, (.q (.iad 2 1 (.t 5) (.k (.int .i64 0)))), []⟩ :: ⟨2, (some 88), none, (.q (.ldc (.t 87))), []⟩ :: ⟨3, (some 89), none, (.q (.iad 2 1 (.t 5) (.k (.int .i64 1)))), []⟩ :: ⟨4, (some 90), none, (.q (.ldc (.t 89))), []⟩ :: ⟨5, (some 91), none, (.call 17 [(.t 86), (.t 88), (.t 90)]), []⟩ :: hid l_StateHolds_34
@[simp] def b_StateHolds_35 (_ : Unit) : EB := reg0 (hid l_StateHolds_33) 12
@[simp] def l_StateHolds_41 (_ : Unit) : List EOp := [⟨30, (some 124), none, (.q (.pick (.t 122) (.t 123) (.k (.bool false)))), []⟩, ⟨31, (some 6), none, (.q (.mov (.t 124))), []⟩]
@[simp] def l_StateHolds_40 (_ : Unit) : List EOp := ⟨24, (some 118), (some (113, true)), (.call 33 [(.t 117)]), [22]⟩ :: ⟨25, (some 119), (some (113, true)), (.q (.b2s (.t 118))), []⟩ :: ⟨26, (some 120), (some (113, true)), (.q (.bin .eql (.t 116) (.t 119))), []⟩ :: ⟨27, (some 121), none, (.q (.pick (.t 113) (.t 120) (.k (.bool false)))), []⟩ :: ⟨28, (some 122), none, (.q (.mov (.t 121))), []⟩ :: ⟨29, (some 123), (some (122, true)), (.call 11 []), []⟩ :: hid l_StateHolds_41
@[simp] def l_StateHolds_39 (_ : Unit) : List EOp := ⟨18, (some 112), none, (.q (.pick (.t 106) (.t 111) (.k (.bool false)))), []⟩ :: ⟨19, (some 113), none, (.q (.mov (.t 112))), []⟩ :: ⟨20, (some 114), (some (113, true)), (.q (.lda 5 (.t 7))), []⟩ :: ⟨23, (some 117), (some (113, true)), (.q (.lda 5 (.t 3))), []⟩ :: ⟨21, (some 115), (some (113, true)), (.call 22 [(.t 114)]), [23]⟩ :: ⟨22, (some 116), (some (113, true)), (.q (.b2s (.t 115))), []⟩ :: hid l_StateHolds_40
@[simp] def l_StateHolds_38 (_ : Unit) : List EOp := ⟨12, (some 106), none, (.q (.mov (.t 105))), []⟩ :: ⟨13, (some 107), (some (106, true)), (.q (.lda 5 (.t 18))), []⟩ :: ⟨14, (some 108), (some (106, true)), (.q (.mov (.t 19))), []⟩ :: ⟨15, (some 109), (some (106, true)), (.q (.lda 5 (.t 20))), []⟩ :: ⟨16, (some 110), (some (106, true)), (.q (.mov (.t 21))), []⟩ :: ⟨17, (some 111), (some (106, true)), (.call 15 [(.t 107), (.t 108), (.t 109), (.t 110)]), []⟩ :: hid l_StateHolds_39
@[simp] def l_StateHolds_37 (_ : Unit) : List EOp := ⟨6, (some 100), (some (99, true)), (.q (.lda 5 (.t 14))), []⟩ :: ⟨7, (some 101), (some (99, true)), (.q (.mov (.t 15))), []⟩ :: ⟨8, (some 102), (some (99, true)), (.q (.lda 5 (.t 16))), []⟩ :: ⟨9, (some 103), (some (99, true)), (.q (.mov (.t 17))), []⟩ :: ⟨10, (some 104), (some (99, true)), (.call 15 [(.t 100), (.t 101), (.t 102), (.t 103)]), []⟩ :: ⟨11, (some 105), none, (.q (.pick (.t 99) (.t 104) (.k (.bool false)))), []⟩ :: hid l_StateHolds_38
@[simp] def l_StateHolds_36 (_ : Unit) : List EOp := ⟨0, (some 94), none, (.q (.lda 5 (.t 10))), []⟩ :: ⟨1, (some 95), none, (.q (.mov (.t 11))), []⟩ :: ⟨2, (some 96), none, (.q (.lda 5 (.t 12))), []⟩ :: ⟨3, (some 97), none, (.q (.mov (.t 13))), []⟩ :: ⟨4, (some 98), none, (.call 15 [(.t 94), (.t 95), (.t 96), (.t 97)]), []⟩ :: ⟨5, (some 99), none, (.q (.mov (.t 98))), []⟩ :: hid l_StateHolds_37
@[simp] def b_StateHolds_42 (_ : Unit) : EB := reg1 (hid l_StateHolds_36) 32
@[simp] def b_StateHolds_43 (_ : Unit) : EB := .seq (hid b_StateHolds_42) .ret
@[simp] def b_StateHolds_44 (_ : Unit) : EB := .seq (hid b_StateHolds_35) (hid b_StateHolds_43)
@[simp] def b_StateHolds_45 (_ : Unit) : EB := .seq (hid b_StateHolds_32) (hid b_StateHolds_44)
@[simp] def b_StateHolds_46 (_ : Unit) : EB := .seq (hid b_StateHolds_29) (hid b_StateHolds_45)
@[simp] def b_StateHolds_47 (_ : Unit) : EB := .seq (hid b_StateHolds_26) (hid b_StateHolds_46)
@[simp] def b_StateHolds_48 (_ : Unit) : EB := .seq (hid b_StateHolds_23) (hid b_StateHolds_47)
@[simp] def b_StateHolds_49 (_ : Unit) : EB := .seq (hid b_StateHolds_20) (hid b_StateHolds_48)
@[simp] def b_StateHolds_50 (_ : Unit) : EB := .seq (hid b_StateHolds_17) (hid b_StateHolds_49)
@[simp] def b_StateHolds_51 (_ : Unit) : EB := .seq (hid b_StateHolds_14) (hid b_StateHolds_50)
@[simp] def b_StateHolds_52 (_ : Unit) : EB := .seq (hid b_StateHolds_12) (hid b_StateHolds_51)
@[simp] def b_StateHolds_53 (_ : Unit) : EB := .seq (hid b_StateHolds_10) (hid b_StateHolds_52)
@[simp] def b_StateHolds_54 (_ : Unit) : EB := .seq (hid b_StateHolds_2) (hid b_StateHolds_53)
def c_StateHolds : EB × List QOp × Nat := ((hid b_StateHolds_54), [(.mov (.t 6))], 125)
theorem k_StateHolds : cfun Tryd.prog 8 = some c_StateHolds := by kernel_rfl


/-- An own row may be handed where one is wanted that is only looked at. -/
theorem ecalls_thaw {P : Program} {f : FuncId} {args args' : List EV} {ty es : Nat} {xs : List (List FV)} {post : EV → Prop} (h : ECalls P f args' [] fun y H' => H' = [] ∧ post y)
    (hc : conArgs (fun _ => none) [] (args.map (fzEV 0 es xs)) = some args') : ECalls P f args [.row ty es xs] fun y H' => H' = [none] ∧ post y := by
  intro ρ Φ w vals r ha
  have hw := weak_frz (m := 1) (n := 1) (T := args) (H := ofL [.row ty es xs]) (o := 0) (ty := ty) (es := es) (xs := xs) rfl
  obtain ⟨⟨X, hX, r1, a1, _, hU⟩, _⟩ := hw w ρ Φ { tmps := vals.toArray, defers := [] } w ⟨⟨⟨fun o => o < 1, ρ, Φ, w⟩, rfl, r, by simpa using ha, rfl, fun i hi => hi⟩, Nat.le_refl _⟩
  obtain ⟨XU, Xρ, XΦ, Xw⟩ := X
  obtain rfl : Xw = w := hX
  have hH : (fun i => if i = 0 then none else (ofL [EO.row ty es xs] i).map (fzEO 0 es xs)) = fun _ => none := by
    funext i
    rcases i with _ | i <;> simp [ofL]
  simp only at r1
  rw [hH] at r1
  have ra : Rel Xw 0 Xρ XΦ (ofL []) ⟨fun o => o < 0, Xρ, XΦ, Xw⟩ := by
    refine ⟨rfl, rfl, rfl, Nat.le_refl _, fun _ _ _ => rfl, fun _ _ => rfl, ?_, ?_, ?_, ?_, r1.fro, fun b hb => .inl hb, r1.glob⟩
    · intro o x hx; simp [ofL] at hx
    · intro o o' x x' b hx; simp [ofL] at hx
    · intro o x b hx; simp [ofL] at hx
    · intro o x b hx; simp [ofL] at hx
  have hi : Into ⟨XU, Xρ, XΦ, Xw⟩ ⟨fun o => o < 0, Xρ, XΦ, Xw⟩ [] := by
    constructor <;> simp
  have a2 := conArgs_spec r1 hi hc (fun o _ y b hy => by simp at hy) (by simpa using a1)
  refine (h Xρ XΦ Xw vals ra a2).mono ?_
  rintro e w' ⟨y, H', v, ρ', Φ', he, ⟨rfl, hp⟩, hlen, hv, hr⟩
  have hl : Later ⟨fun o => o < 0, ρ', Φ', w'⟩ ⟨fun o => o < 1, ρ, Φ', w'⟩ := ⟨fun o ho => absurd ho (Nat.not_lt_zero _), fun o ho => absurd ho (Nat.not_lt_zero _), fun _ h => h, fun _ _ => rfl⟩
  refine ⟨y, [none], v, ρ, Φ', he, ⟨rfl, hp⟩, Nat.le_refl _, hl.vv hv, ?_⟩
  refine ⟨hr.os, hr.tape, hr.output, hr.size, ?_, fun _ _ => rfl, ?_, ?_, ?_, ?_, hr.fro, ?_, hr.glob⟩
  · intro b hb1 hn
    exact hr.block b hb1 fun o ho => absurd ho (Nat.not_lt_zero _)
  · intro o x hx; rcases o with _ | o <;> simp [ofO] at hx
  · intro o o' x x' b hx; rcases o with _ | o <;> simp [ofO] at hx
  · intro o x b hx; rcases o with _ | o <;> simp [ofO] at hx
  · intro o x b hx; rcases o with _ | o <;> simp [ofO] at hx
  · intro b hb1
    rcases hr.phi b hb1 with h3 | h3 | ⟨o', h3, h4⟩
    · exact r1.phi b h3
    · exact .inr (.inl h3)
    · exact absurd h3 (Nat.not_lt_zero _)

theorem nxt_mayS {s : Sta} (h : ¬ (nxt s).2 ≠ 0) : mayS s = true ∧ s.num ≠ 1099511627776 := by
  unfold nxt at h
  split at h
  · rename_i h'; exact h'
  · simp at h
theorem keeS_ok {s : Sta} {who : Int} {h : Hol} (hs : s.ok) (hm : s.small) (hh : h.ok) (hk : h.keys.length ≤ 1000) : (keeS s who h).1.ok ∧ (keeS s who h).1.small := by
  have hz := zSta_ok
  obtain ⟨ok1, ok2, ok3, ok4, ok5, ok6, ok7⟩ := id hs
  obtain ⟨m1, m2, m3⟩ := id hm
  obtain ⟨⟨p1, p1'⟩, ⟨p2, p2'⟩, p3, p4⟩ := id hh
  unfold keeS
  split
  · exact hz
  rename_i h1
  have hy := nxt_mayS h1
  have hb := mayS_b hy.1
  obtain ⟨hr', hpl', hhl, htot⟩ := mayS_t hy.1
  split
  · exact hz
  split
  · exact hz
  split
  · exact hz
  split
  · exact hz
  split
  · exact hz
  have hl := len_ins Hol.id s.holds h
  have key : ∀ x y : Int, i64 x → i64 y → (Sta.mk (s.num + 1) x y s.pays (insA Hol.id s.holds h)).ok ∧ (Sta.mk (s.num + 1) x y s.pays (insA Hol.id s.holds h)).small := by
    intro x y hx hy
    refine ⟨⟨by unfold i64; simp; omega, hx, hy, ok4, ?_, ok6, by dsimp only; omega⟩, m1, by dsimp only; omega, ?_⟩
    · intro b hb
      rcases mem_ins hb with rfl | hb
      · exact hh
      · exact ok5 b hb
    · intro b hb
      rcases mem_ins hb with rfl | hb
      · exact hk
      · exact m3 b hb
  rename_i c1 c2 c3 c4 c5
  split
  · exact hz
  exact key _ _ (by unfold i64; split <;> omega) (by unfold i64; split <;> omega)
theorem freS_ok {s : Sta} {x a : Int} (hs : s.ok) (hm : s.small) : (freS s x a).1.ok ∧ (freS s x a).1.small := by
  have hz := zSta_ok
  obtain ⟨ok1, ok2, ok3, ok4, ok5, ok6, ok7⟩ := id hs
  obtain ⟨m1, m2, m3⟩ := id hm
  unfold freS
  split
  · exact hz
  rename_i h1
  have hy := nxt_mayS h1
  have hb := mayS_b hy.1
  obtain ⟨hr', hpl', hhl, htot⟩ := mayS_t hy.1
  split
  · exact hz
  rename_i h hc
  split
  · exact hz
  split
  · exact hz
  have hl := len_del (f := Hol.id) hc
  have hle := holL_sum hhl h (List.mem_of_getElem? hc)
  have hma := mayH_am (holL_mem hhl h (List.mem_of_getElem? hc))
  have hnn := sumP_nn hpl'
  have hto : total s = s.h0 + s.h1 + sumP s.pays + sumH s.holds := rfl
  refine ⟨⟨by unfold i64; dsimp only; omega, by unfold i64; dsimp only; omega, by unfold i64; dsimp only; omega, ok4, ?_, ok6, by dsimp only; omega⟩, m1, by dsimp only; omega, ?_⟩
  · intro b hb
    exact ok5 b (mem_del hb)
  · intro b hb
    exact m3 b (mem_del hb)

set_option maxHeartbeats 4000000 in
theorem StateHolds_ok (s : Sta) (h : Hol) (a b : Int) (hs : s.ok) (hh : h.ok) (ha : i64 a) (hb : i64 b) : ECalls Tryd.prog 8 [SV s, .v (.agg (holC h)), .v (.agg [.fz (.lit (.int .i64 a)), .fz (.lit (.int .i64 b))])] [] fun y H' => H' = [] ∧ y = .lit (.bool true) := by
  refine ecalls k_StateHolds ?_
  simp [c_StateHolds, SV, staC, I, hc0']
  refine call0 (longState_ok s hs) (by simp [Ptr, I, EV.lit, Bs, SV, staC, SE, RE, hc0']) ?_
  rintro y H' ⟨rfl, rfl⟩
  refine ⟨.inl (by simp [Ptr, I, EV.lit, Bs, SV, staC, SE, RE, hc0']), le_ok rfl, ?_⟩
  simp
  refine alt (fun hl => ?_) (fun hl => ?_)
  rotate_left
  · simp [hl]
    refine call0 (sure_ok) (by simp [Ptr, I, EV.lit, Bs, SV, staC, SE, RE, hc0']) ?_
    rintro y H' ⟨rfl, rfl⟩
    refine ⟨.inl (by simp [Ptr, I, EV.lit, Bs, SV, staC, SE, RE, hc0']), le_ok rfl, ?_⟩
    simp [Ptr, I, EV.lit, Bs, SV, staC, SE, RE, hc0']
    exact fin [] (by decide) rfl rfl rfl ⟨rfl, rfl⟩
  have hsm := (longS_small hl).1
  simp [hl]
  refine alt (fun hl2 => ?_) (fun hl2 => ?_)
  · simp
    refine call0 (sure_ok) (by simp [Ptr, I, EV.lit, Bs, SV, staC, SE, RE, hc0']) ?_
    rintro y H' ⟨rfl, rfl⟩
    refine ⟨.inl (by simp [Ptr, I, EV.lit, Bs, SV, staC, SE, RE, hc0']), le_ok rfl, ?_⟩
    simp [Ptr, I, EV.lit, Bs, SV, staC, SE, RE, hc0']
    exact fin [] (by decide) rfl rfl rfl ⟨rfl, rfl⟩
  have hkl : h.keys.length ≤ 100 := by omega
  obtain ⟨q1, q2⟩ := keeS_ok (who := a) hs hsm hh (by omega)
  obtain ⟨q3, q4⟩ := freS_ok (x := h.id) (a := b) hs hsm
  obtain ⟨q5, q6, _⟩ := resS_ok (a := a) (n := b) hs hsm
  simp
  refine call0 (giveState_ok s hs hsm) (by simp [Ptr, I, EV.lit, Bs, SV, staC, SE, RE, hc0']) ?_
  rintro y H' ⟨rfl, rfl⟩
  refine ⟨.inl (by simp [Ptr, I, EV.lit, Bs, SV, staC, SE, RE, hc0']), le_ok rfl, ?_⟩
  have hke : ECalls Tryd.prog 26 [SV s, I .i64 a, .v (.agg [.fz (.lit (.int .i64 h.id)), .fz (.lit (.int .i64 h.am)), .row 0 h.keys.length])] [.row 3 1 (intv h.keys)] fun y H' => H' = [none] ∧ y = SE (keeS s a h) :=
    ecalls_thaw (SKeep_ok s a h hs ha hh) (by simp [SV, staC, I, hc0', List.take_of_length_le])
  simp [SV, staC]
  refine ⟨by omega, ?_⟩
  refine callH [384] hke (by simp [SV, staC, I]) (by simp) (by simp) (by simp) (by simp) ?_
  rintro y H' ⟨rfl, rfl⟩
  refine ⟨.inl (by simp), by simp, ?_⟩
  simp [SE, SV, staC, EV.lit]
  refine call0 (RKeep_ok s a h hs ha hh) (by simp [Ptr, I, EV.lit, Bs, SV, staC, SE, RE, hc0']) ?_
  rintro y H' ⟨rfl, rfl⟩
  refine ⟨.inl (by simp [Ptr, I, EV.lit, Bs, SV, staC, SE, RE, hc0']), le_ok rfl, ?_⟩
  simp [Ptr, I, EV.lit, Bs, SV, staC, SE, RE, hc0']
  refine call0 (SFree_ok s h.id b hs ⟨hh.1.1, hh.1.2⟩ hb) (by simp [Ptr, I, EV.lit, Bs, SV, staC, SE, RE, hc0']) ?_
  rintro y H' ⟨rfl, rfl⟩
  refine ⟨.inl (by simp [Ptr, I, EV.lit, Bs, SV, staC, SE, RE, hc0']), le_ok rfl, ?_⟩
  simp [Ptr, I, EV.lit, Bs, SV, staC, SE, RE, hc0']
  refine call0 (RFree_ok s h.id b hs ⟨hh.1.1, hh.1.2⟩ hb) (by simp [Ptr, I, EV.lit, Bs, SV, staC, SE, RE, hc0']) ?_
  rintro y H' ⟨rfl, rfl⟩
  refine ⟨.inl (by simp [Ptr, I, EV.lit, Bs, SV, staC, SE, RE, hc0']), le_ok rfl, ?_⟩
  simp [Ptr, I, EV.lit, Bs, SV, staC, SE, RE, hc0']
  refine call0 (Resize_ok s a b hs ha hb) (by simp [Ptr, I, EV.lit, Bs, SV, staC, SE, RE, hc0']) ?_
  rintro y H' ⟨rfl, rfl⟩
  refine ⟨.inl (by simp [Ptr, I, EV.lit, Bs, SV, staC, SE, RE, hc0']), le_ok rfl, ?_⟩
  simp [Ptr, I, EV.lit, Bs, SV, staC, SE, RE, hc0']
  refine call0 (RResize_ok s a b hs ha hb) (by simp [Ptr, I, EV.lit, Bs, SV, staC, SE, RE, hc0']) ?_
  rintro y H' ⟨rfl, rfl⟩
  refine ⟨.inl (by simp [Ptr, I, EV.lit, Bs, SV, staC, SE, RE, hc0']), le_ok rfl, ?_⟩
  simp [Ptr, I, EV.lit, Bs, SV, staC, SE, RE, hc0']
  refine call0 (same_ok (keeS s a h).1 (keeS s a h).2 q1 q2) (by simp [Ptr, I, EV.lit, Bs, SV, staC, SE, RE, hc0']) ?_
  rintro y H' ⟨rfl, rfl⟩
  refine ⟨.inl (by simp [Ptr, I, EV.lit, Bs, SV, staC, SE, RE, hc0']), le_ok rfl, ?_⟩
  simp [Ptr, I, EV.lit, Bs, SV, staC, SE, RE, hc0']
  refine call0 (same_ok (freS s h.id b).1 (freS s h.id b).2 q3 q4) (by simp [Ptr, I, EV.lit, Bs, SV, staC, SE, RE, hc0']) ?_
  rintro y H' ⟨rfl, rfl⟩
  refine ⟨.inl (by simp [Ptr, I, EV.lit, Bs, SV, staC, SE, RE, hc0']), le_ok rfl, ?_⟩
  simp [Ptr, I, EV.lit, Bs, SV, staC, SE, RE, hc0']
  refine call0 (same_ok (resS s a b).1 (resS s a b).2 q5 q6) (by simp [Ptr, I, EV.lit, Bs, SV, staC, SE, RE, hc0']) ?_
  rintro y H' ⟨rfl, rfl⟩
  refine ⟨.inl (by simp [Ptr, I, EV.lit, Bs, SV, staC, SE, RE, hc0']), le_ok rfl, ?_⟩
  simp [Ptr, I, EV.lit, Bs, SV, staC, SE, RE, hc0']
  refine call0 (Encode_ok s hs hsm) (by simp [Ptr, I, EV.lit, Bs, SV, staC, SE, RE, hc0']) ?_
  rintro y H' ⟨rfl, rfl⟩
  refine ⟨.inl (by simp [Ptr, I, EV.lit, Bs, SV, staC, SE, RE, hc0']), le_ok rfl, ?_⟩
  simp [Ptr, I, EV.lit, Bs, SV, staC, SE, RE, hc0']
  refine call0 (REncode_ok s hs hsm) (by simp [Ptr, I, EV.lit, Bs, SV, staC, SE, RE, hc0']) ?_
  rintro y H' ⟨rfl, rfl⟩
  refine ⟨.inl (by simp [Ptr, I, EV.lit, Bs, SV, staC, SE, RE, hc0']), le_ok rfl, ?_⟩
  simp [Ptr, I, EV.lit, Bs, SV, staC, SE, RE, hc0']
  refine call0 (sure_ok) (by simp [Ptr, I, EV.lit, Bs, SV, staC, SE, RE, hc0']) ?_
  rintro y H' ⟨rfl, rfl⟩
  refine ⟨.inl (by simp [Ptr, I, EV.lit, Bs, SV, staC, SE, RE, hc0']), le_ok rfl, ?_⟩
  simp [Ptr, I, EV.lit, Bs, SV, staC, SE, RE, hc0']
  exact fin [] (by decide) rfl rfl rfl ⟨rfl, rfl⟩

end Go.Proofs.YtpohjnhlhfbnaaaDoor
