import Derived.Test.YtflcfdeanneoeaaGreatDoorAll7
import Derived.Test.YtflcfdeanneoeaaGreatDoorProg
import Derived.Test.YtflcfdeanneoeaaGreatDoorAll5
namespace Go.Proofs.YtflcfdeanneoeaaGreatDoor
open Go Go.EW
set_option linter.unusedSimpArgs false
set_option linter.unusedVariables false
variable {α : Type}
end Go.Proofs.YtflcfdeanneoeaaGreatDoor
namespace Go.Proofs.YtflcfdeanneoeaaGreatDoor
open Go Go.EW
set_option linter.unusedSimpArgs false
set_option linter.unusedVariables false
theorem ecalls_thaw {P : Program} {f : FuncId} {args args' : List EV} {ty es : Nat} {xs : List (List FV)} {post : EV → Prop} (h : ECalls P f args' [] fun y H' => H' = [] ∧ post y)
    (hc : conArgs (fun _ => none) [] (args.map (fzEV 0 es xs)) = some args') : ECalls P f args [.row ty es xs] fun y H' => H' = [none] ∧ post y := by
  intro ρ Φ w vals r ha
  have hw := weak_frz (m := 1) (n := 1) (T := args) (H := ofL [.row ty es xs]) (o := 0) (ty := ty) (es := es) (xs := xs) rfl
  obtain ⟨⟨X, hX, r1, a1, _, hU⟩, _⟩ := hw w ρ Φ { tmps := vals.toArray, defers := [] } w ⟨⟨⟨fun o => o < 1, ρ, Φ, w⟩, rfl, r, by simpa using ha, rfl, fun i hi => hi⟩, Nat.le_refl _⟩
  obtain ⟨XU, Xρ, XΦ, Xw⟩ := X
  obtain rfl : Xw = w := hX
  have hH : (fun i => if i = 0 then none else (ofL [EO.row ty es xs] i).map (fzEO 0 es xs)) = fun _ => none := by
    funext i
    rcases i with _ | i <;> simp [ofL]
  simp only at r1
  rw [hH] at r1
  have ra : Rel Xw 0 Xρ XΦ (ofL []) ⟨fun o => o < 0, Xρ, XΦ, Xw⟩ := by
    refine ⟨rfl, rfl, rfl, Nat.le_refl _, fun _ _ _ => rfl, fun _ _ => rfl, ?_, ?_, ?_, ?_, r1.fro, fun b hb => .inl hb, r1.glob⟩
    · intro o x hx; simp [ofL] at hx
    · intro o o' x x' b hx; simp [ofL] at hx
    · intro o x b hx; simp [ofL] at hx
    · intro o x b hx; simp [ofL] at hx
  have hi : Into ⟨XU, Xρ, XΦ, Xw⟩ ⟨fun o => o < 0, Xρ, XΦ, Xw⟩ [] := by
    constructor <;> simp
  have a2 := conArgs_spec r1 hi hc (fun o _ y b hy => by simp at hy) (by simpa using a1)
  refine (h Xρ XΦ Xw vals ra a2).mono ?_
  rintro e w' ⟨y, H', v, ρ', Φ', he, ⟨rfl, hp⟩, hlen, hv, hr⟩
  have hl : Later ⟨fun o => o < 0, ρ', Φ', w'⟩ ⟨fun o => o < 1, ρ, Φ', w'⟩ := ⟨fun o ho => absurd ho (Nat.not_lt_zero _), fun o ho => absurd ho (Nat.not_lt_zero _), fun _ h => h, fun _ _ => rfl⟩
  refine ⟨y, [none], v, ρ, Φ', he, ⟨rfl, hp⟩, Nat.le_refl _, hl.vv hv, ?_⟩
  refine ⟨hr.os, hr.tape, hr.output, hr.size, ?_, fun _ _ => rfl, ?_, ?_, ?_, ?_, hr.fro, ?_, hr.glob⟩
  · intro b hb1 hn
    exact hr.block b hb1 fun o ho => absurd ho (Nat.not_lt_zero _)
  · intro o x hx; rcases o with _ | o <;> simp [ofO] at hx
  · intro o o' x x' b hx; rcases o with _ | o <;> simp [ofO] at hx
  · intro o x b hx; rcases o with _ | o <;> simp [ofO] at hx
  · intro o x b hx; rcases o with _ | o <;> simp [ofO] at hx
  · intro b hb1
    rcases hr.phi b hb1 with h3 | h3 | ⟨o', h3, h4⟩
    · exact r1.phi b h3
    · exact .inr (.inl h3)
    · exact absurd h3 (Nat.not_lt_zero _)
end Go.Proofs.YtflcfdeanneoeaaGreatDoor
namespace Go.Proofs.YtflcfdeanneoeaaGreatDoor
open Go Go.EW
set_option linter.unusedSimpArgs false
set_option linter.unusedVariables false
@[simp] theorem conAll_holC (H : Nat → Option EO) (ids : List Nat) (p : Hol) : conAll H ids (holC p) = some (holC p) := by simp [holC]
@[simp] theorem strAll_holC (ids : List Nat) (p : Hol) : strAll ids (holC p) = some (holC p) := by simp [holC, strAll, strC]
@[simp] theorem frzAll_holC (p : Hol) : frzAll (holC p) = some (holF p) := by simp [holC, holF, frzAll, frz]
@[simp] theorem refs_holC (p : Hol) : (holC p).flatMap refsC = [] := by simp [holC]
@[simp] theorem fz_holC (ids : List Nat) (p : Hol) : (holC p).flatMap (fzC ids) = [] := by simp [holC]
@[simp] theorem ren_holC (g : Nat → Nat) (p : Hol) : (holC p).map (renC g) = holC p := by simp [holC]
theorem holL_lo : ∀ {o : Option Int} {l : List Hol}, holL o l = true → ∀ p ∈ l, ∀ q, o = some q → q < p.id
  | o, [], _, p, hp, q, _ => by simp at hp
  | o, a :: r, h, p, hp, q, hq => by
    simp only [holL, Bool.and_eq_true] at h
    have ha : q < a.id := by
      have := h.1.2
      rw [hq] at this
      exact of_decide_eq_true this
    rcases List.mem_cons.1 hp with rfl | hp
    · exact ha
    · have := holL_lo h.2 p hp a.id rfl
      omega
theorem holL_mem : ∀ {o : Option Int} {l : List Hol}, holL o l = true → ∀ p ∈ l, mayH p = true
  | o, [], _, p, hp => by simp at hp
  | o, q :: r, h, p, hp => by
    simp only [holL, Bool.and_eq_true] at h
    rcases List.mem_cons.1 hp with rfl | hp
    · exact h.1.1
    · exact holL_mem h.2 p hp
end Go.Proofs.YtflcfdeanneoeaaGreatDoor
namespace Go.Proofs.YtflcfdeanneoeaaGreatDoor
open Go Go.EW
set_option linter.unusedSimpArgs false
set_option linter.unusedVariables false
@[simp] def l_LessI_1 (_ : Unit) : List EOp := [xQ 0 4 (.mov (.k (.bool false)))]
@[simp] def b_LessI_2 (_ : Unit) : EB := reg0 (hid l_LessI_1) 1
@[simp] def l_LessI_5 (_ : Unit) : List EOp := [xM 12 4 16]
@[simp] def l_LessI_4 (_ : Unit) : List EOp := xQ 6 11 (.pick (.t 7) (.t 10) (.k (.bool false))) :: xM 7 12 11 :: xG 8 13 12 false (.mov (.t 0)) :: xG 9 14 12 false (.mov (.t 1)) :: xG 10 15 12 false (.bin .lss (.t 13) (.t 14)) :: xQ 11 16 (.pick (.t 12) (.k (.bool true)) (.t 15)) :: hid l_LessI_5
@[simp] def l_LessI_3 (_ : Unit) : List EOp := xM 0 5 0 :: xO 1 6 (.call 163 [(.t 5)]) :: xM 2 7 6 :: xG 3 8 7 true (.mov (.t 1)) :: ⟨4, (some 9), (some (7, true)), (.call 163 [(.t 8)]), []⟩ :: xG 5 10 7 true (.un .not (.t 9)) :: hid l_LessI_4
@[simp] def b_LessI_6 (_ : Unit) : EB := reg0 (hid l_LessI_3) 13
@[simp] def b_LessI_7 (_ : Unit) : EB := .seq (hid b_LessI_6) .ret
@[simp] def b_LessI_8 (_ : Unit) : EB := .seq (hid b_LessI_2) (hid b_LessI_7)
def c_LessI : EB × List QOp × Nat := ((hid b_LessI_8), [(.mov (.t 4))], 17)
theorem k_LessI : cfun Tryz.prog 122 = some c_LessI := by kernel_rfl
@[simp] def l_InsI_1 (_ : Unit) : List EOp := [xM 0 8 1, xQ 1 9 (.bin .add (.t 8) (.k (.int .i64 1))), xM 2 6 9]
@[simp] def b_InsI_2 (_ : Unit) : EB := reg0 (hid l_InsI_1) 3
@[simp] def l_InsI_3 (_ : Unit) : List EOp := [xM 0 10 6, xM 1 11 2, xQ 2 12 (.bin .lss (.t 10) (.t 11))]
@[simp] def b_InsI_4 (_ : Unit) : EB := reg0 (hid l_InsI_3) 3
@[simp] def b_InsI_5 (_ : Unit) : EB := .cond (.t 12) .skip (.exit 0)
@[simp] def b_InsI_6 (_ : Unit) : EB := .seq (hid b_InsI_4) (hid b_InsI_5)
@[simp] def l_InsI_7 (_ : Unit) : List EOp := [xM 0 15 6, xM 1 7 15]
@[simp] def b_InsI_8 (_ : Unit) : EB := reg0 (hid l_InsI_7) 2
@[simp] def l_InsI_11 (_ : Unit) : List EOp := [xG 12 28 19 true (.ldc (.t 27)), ⟨13, (some 29), (some (19, true)), (.call 122 [(.t 23), (.t 28)]), []⟩, xQ 14 30 (.pick (.t 19) (.t 29) (.k (.bool false)))]
@[simp] def l_InsI_10 (_ : Unit) : List EOp := xG 6 22 19 true (.isl 1 (.t 20) (.t 21)) :: xG 7 23 19 true (.ldc (.t 22)) :: xG 8 24 19 true (.mov (.t 0)) :: xG 9 25 19 true (.mov (.t 7)) :: xG 10 26 19 true (.bin .sub (.t 25) (.k (.int .i64 1))) :: xG 11 27 19 true (.isl 1 (.t 24) (.t 26)) :: hid l_InsI_11
@[simp] def l_InsI_9 (_ : Unit) : List EOp := xM 0 16 7 :: xM 1 17 1 :: xQ 2 18 (.bin .gtr (.t 16) (.t 17)) :: xM 3 19 18 :: xG 4 20 19 true (.mov (.t 0)) :: xG 5 21 19 true (.mov (.t 7)) :: hid l_InsI_10
@[simp] def b_InsI_12 (_ : Unit) : EB := reg0 (hid l_InsI_9) 15
@[simp] def b_InsI_13 (_ : Unit) : EB := .cond (.t 30) .skip (.exit 2)
@[simp] def b_InsI_14 (_ : Unit) : EB := .seq (hid b_InsI_12) (hid b_InsI_13)
@[simp] def l_InsI_17 (_ : Unit) : List EOp := [xQ 12 45 (.isl 1 (.t 43) (.t 44)), xQ 13 46 (.ldc (.t 45)), xQ 14 47 (.isl 1 (.t 33) (.t 34)), ⟨15, none, none, (.sto 1 (.t 47) (.t 42)), [2, 3, 4]⟩, xQ 16 48 (.isl 1 (.t 35) (.t 37)), xN 17 (.sto 1 (.t 48) (.t 46))]
@[simp] def l_InsI_16 (_ : Unit) : List EOp := xM 6 39 7 :: xQ 7 40 (.bin .sub (.t 39) (.k (.int .i64 1))) :: xQ 8 41 (.isl 1 (.t 38) (.t 40)) :: xQ 9 42 (.ldc (.t 41)) :: xM 10 43 0 :: xM 11 44 7 :: hid l_InsI_17
@[simp] def l_InsI_15 (_ : Unit) : List EOp := xM 0 33 0 :: xM 1 34 7 :: xM 2 35 0 :: xM 3 36 7 :: xQ 4 37 (.bin .sub (.t 36) (.k (.int .i64 1))) :: xM 5 38 0 :: hid l_InsI_16
@[simp] def b_InsI_18 (_ : Unit) : EB := reg1 (hid l_InsI_15) 18
@[simp] def b_InsI_19 (_ : Unit) : EB := .block 3 (hid b_InsI_18)
@[simp] def l_InsI_20 (_ : Unit) : List EOp := [xM 0 31 7, xQ 1 32 (.bin .sub (.t 31) (.k (.int .i64 1))), xM 2 7 32]
@[simp] def b_InsI_21 (_ : Unit) : EB := reg0 (hid l_InsI_20) 3
@[simp] def b_InsI_22 (_ : Unit) : EB := .seq (hid b_InsI_19) (hid b_InsI_21)
@[simp] def b_InsI_23 (_ : Unit) : EB := .seq (hid b_InsI_14) (hid b_InsI_22)
@[simp] def b_InsI_24 (_ : Unit) : EB := .loop (hid b_InsI_23)
@[simp] def b_InsI_25 (_ : Unit) : EB := .block 2 (hid b_InsI_24)
@[simp] def b_InsI_26 (_ : Unit) : EB := .seq (hid b_InsI_8) (hid b_InsI_25)
@[simp] def b_InsI_27 (_ : Unit) : EB := .block 1 (hid b_InsI_26)
@[simp] def l_InsI_28 (_ : Unit) : List EOp := [xM 0 13 6, xQ 1 14 (.bin .add (.t 13) (.k (.int .i64 1))), xM 2 6 14]
@[simp] def b_InsI_29 (_ : Unit) : EB := reg0 (hid l_InsI_28) 3
@[simp] def b_InsI_30 (_ : Unit) : EB := .seq (hid b_InsI_27) (hid b_InsI_29)
@[simp] def b_InsI_31 (_ : Unit) : EB := .seq (hid b_InsI_6) (hid b_InsI_30)
@[simp] def b_InsI_32 (_ : Unit) : EB := .loop (hid b_InsI_31)
@[simp] def b_InsI_33 (_ : Unit) : EB := .block 0 (hid b_InsI_32)
@[simp] def b_InsI_34 (_ : Unit) : EB := .seq (hid b_InsI_2) (hid b_InsI_33)
def c_InsI : EB × List QOp × Nat := ((hid b_InsI_34), [], 49)
theorem k_InsI : cfun Tryz.prog 175 = some c_InsI := by kernel_rfl
@[simp] def l_PdqI_1 (_ : Unit) : List EOp := [xQ 0 8 (.mov (.k (.bool true)))]
@[simp] def b_PdqI_2 (_ : Unit) : EB := reg0 (hid l_PdqI_1) 1
@[simp] def l_PdqI_3 (_ : Unit) : List EOp := [xQ 0 9 (.mov (.k (.bool true)))]
@[simp] def b_PdqI_4 (_ : Unit) : EB := reg0 (hid l_PdqI_3) 1
@[simp] def l_PdqI_5 (_ : Unit) : List EOp := [xM 0 19 2, xM 1 20 1, xQ 2 21 (.bin .sub (.t 19) (.t 20)), xM 3 10 21]
@[simp] def b_PdqI_6 (_ : Unit) : EB := reg0 (hid l_PdqI_5) 4
@[simp] def l_PdqI_7 (_ : Unit) : List EOp := [xM 0 22 10, xQ 1 23 (.bin .leq (.t 22) (.k (.int .i64 12)))]
@[simp] def b_PdqI_8 (_ : Unit) : EB := reg0 (hid l_PdqI_7) 2
@[simp] def l_PdqI_9 (_ : Unit) : List EOp := [xM 0 24 0, xM 1 25 1, xM 2 26 2, xO 3 27 (.call 175 [(.t 24), (.t 25), (.t 26)])]
@[simp] def b_PdqI_10 (_ : Unit) : EB := reg0 (hid l_PdqI_9) 4
@[simp] def b_PdqI_11 (_ : Unit) : EB := .seq (hid b_PdqI_10) .ret
@[simp] def b_PdqI_12 (_ : Unit) : EB := .cond (.t 23) (hid b_PdqI_11) .skip
@[simp] def b_PdqI_13 (_ : Unit) : EB := .seq (hid b_PdqI_8) (hid b_PdqI_12)
@[simp] def l_PdqI_14 (_ : Unit) : List EOp := [xM 0 28 3, xQ 1 29 (.bin .eql (.t 28) (.k (.int .i64 0)))]
@[simp] def b_PdqI_15 (_ : Unit) : EB := reg0 (hid l_PdqI_14) 2
@[simp] def l_PdqI_16 (_ : Unit) : List EOp := [xM 0 30 0, xM 1 31 1, xM 2 32 2, xO 3 33 (.call 176 [(.t 30), (.t 31), (.t 32)])]
@[simp] def b_PdqI_17 (_ : Unit) : EB := reg0 (hid l_PdqI_16) 4
@[simp] def b_PdqI_18 (_ : Unit) : EB := .seq (hid b_PdqI_17) .ret
@[simp] def b_PdqI_19 (_ : Unit) : EB := .cond (.t 29) (hid b_PdqI_18) .skip
@[simp] def b_PdqI_20 (_ : Unit) : EB := .seq (hid b_PdqI_15) (hid b_PdqI_19)
@[simp] def l_PdqI_21 (_ : Unit) : List EOp := [xM 0 34 8, xQ 1 35 (.un .not (.t 34))]
@[simp] def b_PdqI_22 (_ : Unit) : EB := reg0 (hid l_PdqI_21) 2
@[simp] def l_PdqI_23 (_ : Unit) : List EOp := [xM 0 36 0, xM 1 37 1, xM 2 38 2, xO 3 39 (.call 177 [(.t 36), (.t 37), (.t 38)])]
@[simp] def b_PdqI_24 (_ : Unit) : EB := reg0 (hid l_PdqI_23) 4
@[simp] def l_PdqI_25 (_ : Unit) : List EOp := [xM 0 40 3, xQ 1 41 (.bin .sub (.t 40) (.k (.int .i64 1))), xM 2 3 41]
@[simp] def b_PdqI_26 (_ : Unit) : EB := reg0 (hid l_PdqI_25) 3
@[simp] def b_PdqI_27 (_ : Unit) : EB := .seq (hid b_PdqI_24) (hid b_PdqI_26)
@[simp] def b_PdqI_28 (_ : Unit) : EB := .cond (.t 35) (hid b_PdqI_27) .skip
@[simp] def b_PdqI_29 (_ : Unit) : EB := .seq (hid b_PdqI_22) (hid b_PdqI_28)
@[simp] def l_PdqI_31 (_ : Unit) : List EOp := [xQ 6 48 (.ext 1 (.t 42)), xM 7 11 47, xM 8 12 48]
@[simp] def l_PdqI_30 (_ : Unit) : List EOp := xM 0 43 0 :: xM 1 44 1 :: xM 2 45 2 :: xO 3 46 (.call 178 [(.t 43), (.t 44), (.t 45)]) :: xM 4 42 46 :: xQ 5 47 (.ext 0 (.t 42)) :: hid l_PdqI_31
@[simp] def b_PdqI_32 (_ : Unit) : EB := reg0 (hid l_PdqI_30) 9
@[simp] def l_PdqI_33 (_ : Unit) : List EOp := [xM 0 49 12, xQ 1 50 (.bin .eql (.t 49) (.k (.int .i64 2)))]
@[simp] def b_PdqI_34 (_ : Unit) : EB := reg0 (hid l_PdqI_33) 2
@[simp] def l_PdqI_35 (_ : Unit) : List EOp := [xM 0 51 0, xM 1 52 1, xM 2 53 2, xO 3 54 (.call 179 [(.t 51), (.t 52), (.t 53)])]
@[simp] def b_PdqI_36 (_ : Unit) : EB := reg0 (hid l_PdqI_35) 4
@[simp] def l_PdqI_38 (_ : Unit) : List EOp := [xM 6 11 60]
@[simp] def l_PdqI_37 (_ : Unit) : List EOp := xM 0 55 2 :: xQ 1 56 (.bin .sub (.t 55) (.k (.int .i64 1))) :: xM 2 57 11 :: xM 3 58 1 :: xQ 4 59 (.bin .sub (.t 57) (.t 58)) :: xQ 5 60 (.bin .sub (.t 56) (.t 59)) :: hid l_PdqI_38
@[simp] def b_PdqI_39 (_ : Unit) : EB := reg0 (hid l_PdqI_37) 7
@[simp] def l_PdqI_40 (_ : Unit) : List EOp := [xQ 0 12 (.mov (.k (.int .i64 1)))]
@[simp] def b_PdqI_41 (_ : Unit) : EB := reg0 (hid l_PdqI_40) 1
@[simp] def b_PdqI_42 (_ : Unit) : EB := .seq (hid b_PdqI_39) (hid b_PdqI_41)
@[simp] def b_PdqI_43 (_ : Unit) : EB := .seq (hid b_PdqI_36) (hid b_PdqI_42)
@[simp] def b_PdqI_44 (_ : Unit) : EB := .cond (.t 50) (hid b_PdqI_43) .skip
@[simp] def b_PdqI_45 (_ : Unit) : EB := .seq (hid b_PdqI_34) (hid b_PdqI_44)
@[simp] def l_PdqI_47 (_ : Unit) : List EOp := [xG 6 67 65 true (.bin .eql (.t 66) (.k (.int .i64 1))), xQ 7 68 (.pick (.t 65) (.t 67) (.k (.bool false)))]
@[simp] def l_PdqI_46 (_ : Unit) : List EOp := xM 0 61 8 :: xM 1 62 61 :: xG 2 63 62 true (.mov (.t 9)) :: xQ 3 64 (.pick (.t 62) (.t 63) (.k (.bool false))) :: xM 4 65 64 :: xG 5 66 65 true (.mov (.t 12)) :: hid l_PdqI_47
@[simp] def b_PdqI_48 (_ : Unit) : EB := reg0 (hid l_PdqI_46) 8
@[simp] def l_PdqI_49 (_ : Unit) : List EOp := [xM 0 69 0, xM 1 70 1, xM 2 71 2, xO 3 72 (.call 180 [(.t 69), (.t 70), (.t 71)])]
@[simp] def b_PdqI_50 (_ : Unit) : EB := reg0 (hid l_PdqI_49) 4
@[simp] def b_PdqI_51 (_ : Unit) : EB := .cond (.t 72) .ret .skip
@[simp] def b_PdqI_52 (_ : Unit) : EB := .seq (hid b_PdqI_50) (hid b_PdqI_51)
@[simp] def b_PdqI_53 (_ : Unit) : EB := .cond (.t 68) (hid b_PdqI_52) .skip
@[simp] def b_PdqI_54 (_ : Unit) : EB := .seq (hid b_PdqI_48) (hid b_PdqI_53)
@[simp] def l_PdqI_57 (_ : Unit) : List EOp := [⟨12, (some 85), (some (75, true)), (.call 122 [(.t 80), (.t 84)]), []⟩, xG 13 86 75 true (.un .not (.t 85)), xQ 14 87 (.pick (.t 75) (.t 86) (.k (.bool false)))]
@[simp] def l_PdqI_56 (_ : Unit) : List EOp := xG 6 79 75 true (.isl 1 (.t 76) (.t 78)) :: xG 7 80 75 true (.ldc (.t 79)) :: xG 8 81 75 true (.mov (.t 0)) :: xG 9 82 75 true (.mov (.t 11)) :: xG 10 83 75 true (.isl 1 (.t 81) (.t 82)) :: xG 11 84 75 true (.ldc (.t 83)) :: hid l_PdqI_57
@[simp] def l_PdqI_55 (_ : Unit) : List EOp := xM 0 73 1 :: xQ 1 74 (.bin .gtr (.t 73) (.k (.int .i64 0))) :: xM 2 75 74 :: xG 3 76 75 true (.mov (.t 0)) :: xG 4 77 75 true (.mov (.t 1)) :: xG 5 78 75 true (.bin .sub (.t 77) (.k (.int .i64 1))) :: hid l_PdqI_56
@[simp] def b_PdqI_58 (_ : Unit) : EB := reg0 (hid l_PdqI_55) 15
@[simp] def l_PdqI_59 (_ : Unit) : List EOp := [xM 0 88 0, xM 1 89 1, xM 2 90 2, xM 3 91 11, xO 4 92 (.call 181 [(.t 88), (.t 89), (.t 90), (.t 91)]), xM 5 13 92]
@[simp] def b_PdqI_60 (_ : Unit) : EB := reg0 (hid l_PdqI_59) 6
@[simp] def l_PdqI_61 (_ : Unit) : List EOp := [xM 0 93 13, xM 1 1 93]
@[simp] def b_PdqI_62 (_ : Unit) : EB := reg0 (hid l_PdqI_61) 2
@[simp] def b_PdqI_63 (_ : Unit) : EB := .seq (hid b_PdqI_62) (.exit 1)
@[simp] def b_PdqI_64 (_ : Unit) : EB := .seq (hid b_PdqI_60) (hid b_PdqI_63)
@[simp] def b_PdqI_65 (_ : Unit) : EB := .cond (.t 87) (hid b_PdqI_64) .skip
@[simp] def b_PdqI_66 (_ : Unit) : EB := .seq (hid b_PdqI_58) (hid b_PdqI_65)
@[simp] def l_PdqI_68 (_ : Unit) : List EOp := [xQ 6 100 (.ext 0 (.t 94)), xQ 7 101 (.ext 1 (.t 94)), xM 8 14 100, xM 9 15 101]
@[simp] def l_PdqI_67 (_ : Unit) : List EOp := xM 0 95 0 :: xM 1 96 1 :: xM 2 97 2 :: xM 3 98 11 :: xO 4 99 (.call 182 [(.t 95), (.t 96), (.t 97), (.t 98)]) :: xM 5 94 99 :: hid l_PdqI_68
@[simp] def b_PdqI_69 (_ : Unit) : EB := reg0 (hid l_PdqI_67) 10
@[simp] def l_PdqI_70 (_ : Unit) : List EOp := [xM 0 102 15, xM 1 9 102]
@[simp] def b_PdqI_71 (_ : Unit) : EB := reg0 (hid l_PdqI_70) 2
@[simp] def l_PdqI_73 (_ : Unit) : List EOp := [xM 6 16 105, xM 7 17 108]
@[simp] def l_PdqI_72 (_ : Unit) : List EOp := xM 0 103 14 :: xM 1 104 1 :: xQ 2 105 (.bin .sub (.t 103) (.t 104)) :: xM 3 106 2 :: xM 4 107 14 :: xQ 5 108 (.bin .sub (.t 106) (.t 107)) :: hid l_PdqI_73
@[simp] def b_PdqI_74 (_ : Unit) : EB := reg0 (hid l_PdqI_72) 8
@[simp] def l_PdqI_75 (_ : Unit) : List EOp := [xM 0 109 10, xQ 1 110 (.bin .quo (.t 109) (.k (.int .i64 8))), xM 2 18 110]
@[simp] def b_PdqI_76 (_ : Unit) : EB := reg0 (hid l_PdqI_75) 3
@[simp] def l_PdqI_77 (_ : Unit) : List EOp := [xM 0 111 16, xM 1 112 17, xQ 2 113 (.bin .lss (.t 111) (.t 112))]
@[simp] def b_PdqI_78 (_ : Unit) : EB := reg0 (hid l_PdqI_77) 3
@[simp] def l_PdqI_79 (_ : Unit) : List EOp := [xM 0 114 16, xM 1 115 18, xQ 2 116 (.bin .geq (.t 114) (.t 115)), xM 3 8 116]
@[simp] def b_PdqI_80 (_ : Unit) : EB := reg0 (hid l_PdqI_79) 4
@[simp] def l_PdqI_81 (_ : Unit) : List EOp := [xM 0 117 0, xM 1 118 1, xM 2 119 14, xM 3 120 3, xO 4 121 (.call 151 [(.t 117), (.t 118), (.t 119), (.t 120)])]
@[simp] def b_PdqI_82 (_ : Unit) : EB := reg0 (hid l_PdqI_81) 5
@[simp] def l_PdqI_83 (_ : Unit) : List EOp := [xM 0 122 14, xQ 1 123 (.bin .add (.t 122) (.k (.int .i64 1))), xM 2 1 123]
@[simp] def b_PdqI_84 (_ : Unit) : EB := reg0 (hid l_PdqI_83) 3
@[simp] def b_PdqI_85 (_ : Unit) : EB := .seq (hid b_PdqI_82) (hid b_PdqI_84)
@[simp] def b_PdqI_86 (_ : Unit) : EB := .seq (hid b_PdqI_80) (hid b_PdqI_85)
@[simp] def l_PdqI_87 (_ : Unit) : List EOp := [xM 0 124 17, xM 1 125 18, xQ 2 126 (.bin .geq (.t 124) (.t 125)), xM 3 8 126]
@[simp] def b_PdqI_88 (_ : Unit) : EB := reg0 (hid l_PdqI_87) 4
@[simp] def l_PdqI_89 (_ : Unit) : List EOp := [xM 0 127 0, xM 1 128 14, xQ 2 129 (.bin .add (.t 128) (.k (.int .i64 1))), xM 3 130 2, xM 4 131 3, xO 5 132 (.call 151 [(.t 127), (.t 129), (.t 130), (.t 131)])]
@[simp] def b_PdqI_90 (_ : Unit) : EB := reg0 (hid l_PdqI_89) 6
@[simp] def l_PdqI_91 (_ : Unit) : List EOp := [xM 0 133 14, xM 1 2 133]
@[simp] def b_PdqI_92 (_ : Unit) : EB := reg0 (hid l_PdqI_91) 2
@[simp] def b_PdqI_93 (_ : Unit) : EB := .seq (hid b_PdqI_90) (hid b_PdqI_92)
@[simp] def b_PdqI_94 (_ : Unit) : EB := .seq (hid b_PdqI_88) (hid b_PdqI_93)
@[simp] def b_PdqI_95 (_ : Unit) : EB := .cond (.t 113) (hid b_PdqI_86) (hid b_PdqI_94)
@[simp] def b_PdqI_96 (_ : Unit) : EB := .seq (hid b_PdqI_78) (hid b_PdqI_95)
@[simp] def b_PdqI_97 (_ : Unit) : EB := .seq (hid b_PdqI_76) (hid b_PdqI_96)
@[simp] def b_PdqI_98 (_ : Unit) : EB := .seq (hid b_PdqI_74) (hid b_PdqI_97)
@[simp] def b_PdqI_99 (_ : Unit) : EB := .seq (hid b_PdqI_71) (hid b_PdqI_98)
@[simp] def b_PdqI_100 (_ : Unit) : EB := .seq (hid b_PdqI_69) (hid b_PdqI_99)
@[simp] def b_PdqI_101 (_ : Unit) : EB := .seq (hid b_PdqI_66) (hid b_PdqI_100)
@[simp] def b_PdqI_102 (_ : Unit) : EB := .seq (hid b_PdqI_54) (hid b_PdqI_101)
@[simp] def b_PdqI_103 (_ : Unit) : EB := .seq (hid b_PdqI_45) (hid b_PdqI_102)
@[simp] def b_PdqI_104 (_ : Unit) : EB := .seq (hid b_PdqI_32) (hid b_PdqI_103)
@[simp] def b_PdqI_105 (_ : Unit) : EB := .seq (hid b_PdqI_29) (hid b_PdqI_104)
@[simp] def b_PdqI_106 (_ : Unit) : EB := .seq (hid b_PdqI_20) (hid b_PdqI_105)
@[simp] def b_PdqI_107 (_ : Unit) : EB := .seq (hid b_PdqI_13) (hid b_PdqI_106)
@[simp] def b_PdqI_108 (_ : Unit) : EB := .seq (hid b_PdqI_6) (hid b_PdqI_107)
@[simp] def b_PdqI_109 (_ : Unit) : EB := .block 1 (hid b_PdqI_108)
@[simp] def b_PdqI_110 (_ : Unit) : EB := .loop (hid b_PdqI_109)
@[simp] def b_PdqI_111 (_ : Unit) : EB := .block 0 (hid b_PdqI_110)
@[simp] def b_PdqI_112 (_ : Unit) : EB := .seq (hid b_PdqI_4) (hid b_PdqI_111)
@[simp] def b_PdqI_113 (_ : Unit) : EB := .seq (hid b_PdqI_2) (hid b_PdqI_112)
def c_PdqI : EB × List QOp × Nat := ((hid b_PdqI_113), [], 134)
theorem k_PdqI : cfun Tryz.prog 151 = some c_PdqI := by kernel_rfl
@[simp] def l_LenB_1 (_ : Unit) : List EOp := [xQ 0 2 (.mov (.k (.int .i64 0)))]
@[simp] def b_LenB_2 (_ : Unit) : EB := reg0 (hid l_LenB_1) 1
@[simp] def l_LenB_3 (_ : Unit) : List EOp := [xM 0 3 0, xQ 1 4 (.cnv .u32 (.t 3)), xO 2 5 (.call 183 [(.t 4)]), xM 3 2 5]
@[simp] def b_LenB_4 (_ : Unit) : EB := reg0 (hid l_LenB_3) 4
@[simp] def b_LenB_5 (_ : Unit) : EB := .seq (hid b_LenB_4) .ret
@[simp] def b_LenB_6 (_ : Unit) : EB := .cond (.k (.bool false)) (hid b_LenB_5) .skip
@[simp] def l_LenB_7 (_ : Unit) : List EOp := [xM 0 6 0, xO 1 7 (.call 184 [(.t 6)]), xM 2 2 7]
@[simp] def b_LenB_8 (_ : Unit) : EB := reg0 (hid l_LenB_7) 3
@[simp] def b_LenB_9 (_ : Unit) : EB := .seq (hid b_LenB_8) .ret
@[simp] def b_LenB_10 (_ : Unit) : EB := .seq (hid b_LenB_6) (hid b_LenB_9)
@[simp] def b_LenB_11 (_ : Unit) : EB := .seq (hid b_LenB_2) (hid b_LenB_10)
def c_LenB : EB × List QOp × Nat := ((hid b_LenB_11), [(.mov (.t 2))], 8)
theorem k_LenB : cfun Tryz.prog 152 = some c_LenB := by kernel_rfl
def s_LenB64_0 : ByteArray := ⟨#[0, 1, 2, 2, 3, 3, 3, 3, 4, 4, 4, 4, 4, 4, 4, 4, 5, 5, 5, 5, 5, 5, 5, 5, 5, 5, 5, 5, 5, 5, 5, 5, 6, 6, 6, 6, 6, 6, 6, 6, 6, 6, 6, 6, 6, 6, 6, 6, 6, 6, 6, 6, 6, 6, 6, 6, 6, 6, 6, 6, 6, 6, 6, 6, 7, 7, 7, 7, 7, 7, 7, 7, 7, 7, 7, 7, 7, 7, 7, 7, 7, 7, 7, 7, 7, 7, 7, 7, 7, 7, 7, 7, 7, 7, 7, 7, 7, 7, 7, 7, 7, 7, 7, 7, 7, 7, 7, 7, 7, 7, 7, 7, 7, 7, 7, 7, 7, 7, 7, 7, 7, 7, 7, 7, 7, 7, 7, 7, 8, 8, 8, 8, 8, 8, 8, 8, 8, 8, 8, 8, 8, 8, 8, 8, 8, 8, 8, 8, 8, 8, 8, 8, 8, 8, 8, 8, 8, 8, 8, 8, 8, 8, 8, 8, 8, 8, 8, 8, 8, 8, 8, 8, 8, 8, 8, 8, 8, 8, 8, 8, 8, 8, 8, 8, 8, 8, 8, 8, 8, 8, 8, 8, 8, 8, 8, 8, 8, 8, 8, 8, 8, 8, 8, 8, 8, 8, 8, 8, 8, 8, 8, 8, 8, 8, 8, 8, 8, 8, 8, 8, 8, 8, 8, 8, 8, 8, 8, 8, 8, 8, 8, 8, 8, 8, 8, 8, 8, 8, 8, 8, 8, 8, 8, 8, 8, 8, 8, 8, 8, 8, 8, 8, 8, 8, 8, 8]⟩
@[simp] def l_LenB64_1 (_ : Unit) : List EOp := [xQ 0 2 (.mov (.k (.int .i64 0)))]
@[simp] def b_LenB64_2 (_ : Unit) : EB := reg0 (hid l_LenB64_1) 1
@[simp] def l_LenB64_3 (_ : Unit) : List EOp := [xM 0 3 0, xQ 1 4 (.bin .geq (.t 3) (.k (.int .u64 4294967296)))]
@[simp] def b_LenB64_4 (_ : Unit) : EB := reg0 (hid l_LenB64_3) 2
@[simp] def l_LenB64_5 (_ : Unit) : List EOp := [xM 0 5 0, xQ 1 6 (.bin .shr (.t 5) (.k (.int .u64 32))), xM 2 0 6]
@[simp] def b_LenB64_6 (_ : Unit) : EB := reg0 (hid l_LenB64_5) 3
@[simp] def l_LenB64_7 (_ : Unit) : List EOp := [xQ 0 2 (.mov (.k (.int .i64 32)))]
@[simp] def b_LenB64_8 (_ : Unit) : EB := reg0 (hid l_LenB64_7) 1
@[simp] def b_LenB64_9 (_ : Unit) : EB := .seq (hid b_LenB64_6) (hid b_LenB64_8)
@[simp] def b_LenB64_10 (_ : Unit) : EB := .cond (.t 4) (hid b_LenB64_9) .skip
@[simp] def b_LenB64_11 (_ : Unit) : EB := .seq (hid b_LenB64_4) (hid b_LenB64_10)
@[simp] def l_LenB64_12 (_ : Unit) : List EOp := [xM 0 7 0, xQ 1 8 (.bin .geq (.t 7) (.k (.int .u64 65536)))]
@[simp] def b_LenB64_13 (_ : Unit) : EB := reg0 (hid l_LenB64_12) 2
@[simp] def l_LenB64_14 (_ : Unit) : List EOp := [xM 0 9 0, xQ 1 10 (.bin .shr (.t 9) (.k (.int .u64 16))), xM 2 0 10]
@[simp] def b_LenB64_15 (_ : Unit) : EB := reg0 (hid l_LenB64_14) 3
@[simp] def l_LenB64_16 (_ : Unit) : List EOp := [xM 0 11 2, xQ 1 12 (.bin .add (.t 11) (.k (.int .i64 16))), xM 2 2 12]
@[simp] def b_LenB64_17 (_ : Unit) : EB := reg0 (hid l_LenB64_16) 3
@[simp] def b_LenB64_18 (_ : Unit) : EB := .seq (hid b_LenB64_15) (hid b_LenB64_17)
@[simp] def b_LenB64_19 (_ : Unit) : EB := .cond (.t 8) (hid b_LenB64_18) .skip
@[simp] def b_LenB64_20 (_ : Unit) : EB := .seq (hid b_LenB64_13) (hid b_LenB64_19)
@[simp] def l_LenB64_21 (_ : Unit) : List EOp := [xM 0 13 0, xQ 1 14 (.bin .geq (.t 13) (.k (.int .u64 256)))]
@[simp] def b_LenB64_22 (_ : Unit) : EB := reg0 (hid l_LenB64_21) 2
@[simp] def l_LenB64_23 (_ : Unit) : List EOp := [xM 0 15 0, xQ 1 16 (.bin .shr (.t 15) (.k (.int .u64 8))), xM 2 0 16]
@[simp] def b_LenB64_24 (_ : Unit) : EB := reg0 (hid l_LenB64_23) 3
@[simp] def l_LenB64_25 (_ : Unit) : List EOp := [xM 0 17 2, xQ 1 18 (.bin .add (.t 17) (.k (.int .i64 8))), xM 2 2 18]
@[simp] def b_LenB64_26 (_ : Unit) : EB := reg0 (hid l_LenB64_25) 3
@[simp] def b_LenB64_27 (_ : Unit) : EB := .seq (hid b_LenB64_24) (hid b_LenB64_26)
@[simp] def b_LenB64_28 (_ : Unit) : EB := .cond (.t 14) (hid b_LenB64_27) .skip
@[simp] def b_LenB64_29 (_ : Unit) : EB := .seq (hid b_LenB64_22) (hid b_LenB64_28)
@[simp] def l_LenB64_31 (_ : Unit) : List EOp := [xM 6 2 24]
@[simp] def l_LenB64_30 (_ : Unit) : List EOp := xM 0 19 2 :: xM 1 20 0 :: xQ 2 21 (.cnv .u8 (.t 20)) :: xQ 3 22 (.ixs (.k (.string s_LenB64_0)) (.t 21)) :: xQ 4 23 (.cnv .i64 (.t 22)) :: xQ 5 24 (.bin .add (.t 19) (.t 23)) :: hid l_LenB64_31
@[simp] def b_LenB64_32 (_ : Unit) : EB := reg0 (hid l_LenB64_30) 7
@[simp] def b_LenB64_33 (_ : Unit) : EB := .seq (hid b_LenB64_32) .ret
@[simp] def b_LenB64_34 (_ : Unit) : EB := .seq (hid b_LenB64_29) (hid b_LenB64_33)
@[simp] def b_LenB64_35 (_ : Unit) : EB := .seq (hid b_LenB64_20) (hid b_LenB64_34)
@[simp] def b_LenB64_36 (_ : Unit) : EB := .seq (hid b_LenB64_11) (hid b_LenB64_35)
@[simp] def b_LenB64_37 (_ : Unit) : EB := .seq (hid b_LenB64_2) (hid b_LenB64_36)
def c_LenB64 : EB × List QOp × Nat := ((hid b_LenB64_37), [(.mov (.t 2))], 25)
theorem k_LenB64 : cfun Tryz.prog 184 = some c_LenB64 := by kernel_rfl
@[simp] def l_SortI_1 (_ : Unit) : List EOp := [xM 0 3 0, xQ 1 4 (.len (.t 3)), xM 2 2 4]
@[simp] def b_SortI_2 (_ : Unit) : EB := reg0 (hid l_SortI_1) 3
@[simp] def l_SortI_3 (_ : Unit) : List EOp := [xM 0 5 0, xM 1 6 2, xM 2 7 2, xQ 3 8 (.cnv .u64 (.t 7)), xO 4 9 (.call 152 [(.t 8)]), xO 5 10 (.call 151 [(.t 5), (.k (.int .i64 0)), (.t 6), (.t 9)])]
@[simp] def b_SortI_4 (_ : Unit) : EB := reg0 (hid l_SortI_3) 6
@[simp] def b_SortI_5 (_ : Unit) : EB := .seq (hid b_SortI_2) (hid b_SortI_4)
def c_SortI : EB × List QOp × Nat := ((hid b_SortI_5), [], 11)
theorem k_SortI : cfun Tryz.prog 101 = some c_SortI := by kernel_rfl
theorem LessI_ok (a b : Int) : ECalls Tryz.prog 122 [I .i64 a, I .i64 b] [] fun y H' => H' = [] ∧ y = .lit (.bool (decide (a < b))) := by
  refine ecalls k_LessI ?_
  simp [c_LessI, I]
  refine call0 (NaNI_ok a) (by simp [I]) ?_
  rintro y H' ⟨rfl, rfl⟩
  refine ⟨.inl (by simp), le_ok rfl, ?_⟩
  simp
  exact fin [] (by decide) rfl rfl rfl ⟨rfl, rfl⟩
def swS (l : List Int) (j : Nat) : List Int := (l.set (j + 1) ((l[j]?).getD 0)).set j ((l[j + 1]?).getD 0)
theorem swS_len (l : List Int) (j : Nat) : (swS l j).length = l.length := by simp [swS]
def sinkS : Nat → List Int → List Int
  | 0, l => l
  | j + 1, l => if (l[j + 1]?).getD 0 < (l[j]?).getD 0 then sinkS j (swS l j) else l
theorem sinkS_len : ∀ (j : Nat) (l : List Int), (sinkS j l).length = l.length
  | 0, _ => rfl
  | j + 1, l => by
    unfold sinkS
    split
    · rw [sinkS_len j, swS_len]
    · rfl
theorem intv_at {l : List Int} {i : Nat} (h : i < l.length) (h2 : i < (intv l).length) : (intv l)[i]'h2 = [.lit (.int .i64 ((l[i]?).getD 0))] := by
  simp [intv, h]
theorem intv_set (l : List Int) (i : Nat) (x : Int) : (intv l).set i [.lit (.int .i64 x)] = intv (l.set i x) := by simp [intv, List.map_set]
end Go.Proofs.YtflcfdeanneoeaaGreatDoor
namespace Go.Proofs.YtflcfdeanneoeaaGreatDoor
open Go Go.EW
set_option linter.unusedSimpArgs false
set_option linter.unusedVariables false
structure Prm where
  tx : List UInt8
  n : Int
  am : Int
  k0 : Int
  k1 : Int
  dl : Int
  fe : Int
structure Rte where
  f : Prm
  s : Prm
  a : Int
  b : Int
  c : Int
  am : Int
  fe : Int
def iC (n : Int) : EC := .fz (.lit (.int .i64 n))
def prmC (p : Prm) : List EC := hc p.tx ++ [iC p.n, iC p.am, iC p.k0, iC p.k1, iC p.dl, iC p.fe]
def rteC (r : Rte) : List EC := prmC r.f ++ (prmC r.s ++ [iC r.a, iC r.b, iC r.c, iC r.am, iC r.fe])
def PVv (p : Prm) : EV := .v (.agg (prmC p))
def Prm.ok (p : Prm) : Prop := p.tx.length = 32 ∧ i64 p.n ∧ i64 p.am ∧ i64 p.k0 ∧ i64 p.k1 ∧ i64 p.dl ∧ i64 p.fe
def Rte.ok (r : Rte) : Prop := r.f.ok ∧ r.s.ok ∧ i64 r.a ∧ i64 r.b ∧ i64 r.c ∧ i64 r.am ∧ i64 r.fe
section
variable {p : Prm} (h : p.tx.length = 32)
include h
theorem prmC_len : (prmC p).length = 38 := by simp [prmC, hc_len, h]
theorem pm_take : (prmC p).take 38 = prmC p := List.take_of_length_le (by rw [prmC_len h]; omega)
theorem pm_d34 : ((prmC p).drop 34).take 2 = [iC p.k0, iC p.k1] := by
  have e : (hc p.tx).length = 32 := by rw [hc_len, h]
  unfold prmC
  rw [List.drop_append, List.drop_of_length_le (by omega), e]
  rfl
end
section
variable {r : Rte} (hf : r.f.tx.length = 32) (hs : r.s.tx.length = 32)
include hf hs
end
theorem conAll_mp (H : Nat → Option EO) (ids : List Nat) : ∀ l : List FV, conAll H ids (l.map EC.fz) = some (l.map EC.fz)
  | [] => rfl
  | a :: r => by simp only [List.map_cons, conAll, conC, conAll_mp H ids r]; rfl
theorem strAll_mp (ids : List Nat) : ∀ l : List FV, strAll ids (l.map EC.fz) = some (l.map EC.fz)
  | [] => rfl
  | a :: r => by simp only [List.map_cons, strAll, strC, strAll_mp ids r]; rfl
theorem frzAll_mp : ∀ l : List FV, frzAll (l.map EC.fz) = some l
  | [] => rfl
  | a :: r => by simp only [List.map_cons, frzAll, frz, frzAll_mp r]; rfl
theorem refs_mp : ∀ l : List FV, (l.map EC.fz).flatMap refsC = []
  | [] => rfl
  | a :: r => by simp only [List.map_cons, List.flatMap_cons, refs_mp r]; rfl
theorem fz_mp (ids : List Nat) : ∀ l : List FV, (l.map EC.fz).flatMap (fzC ids) = []
  | [] => rfl
  | a :: r => by simp only [List.map_cons, List.flatMap_cons, fz_mp ids r]; rfl
theorem ren_mp (g : Nat → Nat) : ∀ l : List FV, (l.map EC.fz).map (renC g) = l.map EC.fz
  | [] => rfl
  | a :: r => by simp only [List.map_cons, ren_mp g r]; rfl
def iF (n : Int) : FV := .lit (.int .i64 n)
def prmF (p : Prm) : List FV := hf p.tx ++ [iF p.n, iF p.am, iF p.k0, iF p.k1, iF p.dl, iF p.fe]
def rteF (r : Rte) : List FV := prmF r.f ++ (prmF r.s ++ [iF r.a, iF r.b, iF r.c, iF r.am, iF r.fe])
theorem prmF_fz (p : Prm) : (prmF p).map EC.fz = prmC p := by simp [prmF, prmC, iF, iC]
theorem rteF_fz (r : Rte) : (rteF r).map EC.fz = rteC r := by simp [rteF, rteC, prmF_fz, iF, iC]
@[simp] theorem conAll_prmC (H : Nat → Option EO) (ids : List Nat) (p : Prm) : conAll H ids (prmC p) = some (prmC p) := by rw [← prmF_fz]; exact conAll_mp H ids _
@[simp] theorem strAll_prmC (ids : List Nat) (p : Prm) : strAll ids (prmC p) = some (prmC p) := by rw [← prmF_fz]; exact strAll_mp ids _
@[simp] theorem frzAll_prmC (p : Prm) : frzAll (prmC p) = some (prmF p) := by rw [← prmF_fz]; exact frzAll_mp _
@[simp] theorem refs_prmC (p : Prm) : (prmC p).flatMap refsC = [] := by rw [← prmF_fz]; exact refs_mp _
@[simp] theorem fz_prmC (ids : List Nat) (p : Prm) : (prmC p).flatMap (fzC ids) = [] := by rw [← prmF_fz]; exact fz_mp ids _
@[simp] theorem ren_prmC (g : Nat → Nat) (p : Prm) : (prmC p).map (renC g) = prmC p := by rw [← prmF_fz]; exact ren_mp g _
@[simp] theorem conAll_rteC (H : Nat → Option EO) (ids : List Nat) (p : Rte) : conAll H ids (rteC p) = some (rteC p) := by rw [← rteF_fz]; exact conAll_mp H ids _
@[simp] theorem strAll_rteC (ids : List Nat) (p : Rte) : strAll ids (rteC p) = some (rteC p) := by rw [← rteF_fz]; exact strAll_mp ids _
@[simp] theorem frzAll_rteC (p : Rte) : frzAll (rteC p) = some (rteF p) := by rw [← rteF_fz]; exact frzAll_mp _
@[simp] theorem refs_rteC (p : Rte) : (rteC p).flatMap refsC = [] := by rw [← rteF_fz]; exact refs_mp _
@[simp] theorem fz_rteC (ids : List Nat) (p : Rte) : (rteC p).flatMap (fzC ids) = [] := by rw [← rteF_fz]; exact fz_mp ids _
@[simp] theorem ren_rteC (g : Nat → Nat) (p : Rte) : (rteC p).map (renC g) = rteC p := by rw [← rteF_fz]; exact ren_mp g _
theorem idx_of {l : List EC} {k : Nat} {c : EC} (e : l[k]? = some c) (h : k < l.length) : l[k]'h = c := by
  rw [List.getElem?_eq_getElem h] at e
  exact Option.some.inj e
end Go.Proofs.YtflcfdeanneoeaaGreatDoor
