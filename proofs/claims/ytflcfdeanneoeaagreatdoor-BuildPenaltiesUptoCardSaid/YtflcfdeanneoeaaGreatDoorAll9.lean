import Derived.Test.YtflcfdeanneoeaaGreatDoorAll8
import Derived.Test.YtflcfdeanneoeaaGreatDoorProg
import Derived.Test.YtflcfdeanneoeaaGreatDoorAll6
namespace Go.Proofs.YtflcfdeanneoeaaGreatDoor
open Go Go.EW
set_option linter.unusedSimpArgs false
set_option linter.unusedVariables false
variable {α : Type}
theorem ecalls_frz {P : Program} {f : FuncId} {args : List EV} {ty es : Nat} {xs : List (List FV)} (h : ECalls P f args [] fun y H' => H' = [some (.row ty es xs)] ∧ y = .v (.c (.row 0 xs.length))) : ECalls P f args [] fun y H' => H' = [] ∧ y = .v (.c (.fz (.sl es xs))) := by
  intro ρ Φ w vals r ha
  refine (h ρ Φ w vals r ha).mono ?_
  rintro e w' ⟨y, H', v, ρ', Φ', he, ⟨rfl, rfl⟩, hlen, hv, hr⟩
  have hw := weak_frz (m := 0) (n := 1) (T := [.v (.c (.row 0 xs.length))]) (H := ofO [some (.row ty es xs)]) (o := 0) (ty := ty) (es := es) (xs := xs) rfl
  obtain ⟨⟨X, hX, r1, a1, _, _⟩, _⟩ := hw w ρ Φ { tmps := #[v], defers := [] } w' ⟨⟨⟨fun o => o < 1, ρ', Φ', w'⟩, rfl, hr, All2.cons hv All2.nil, rfl, fun i hi => hi⟩, Nat.zero_le _⟩
  obtain ⟨XU, Xρ, XΦ, Xw⟩ := X
  obtain rfl : Xw = w' := hX
  refine ⟨_, [], v, Xρ, XΦ, he, ⟨rfl, rfl⟩, Nat.zero_le _, ?_, ?_⟩
  · have := a1.head
    simp at this
    exact this
  · refine ⟨r1.os, r1.tape, r1.output, r1.size, r1.block, fun o ho => absurd ho (Nat.not_lt_zero _), ?_, ?_, ?_, ?_, r1.fro, r1.phi, r1.glob⟩
    · intro o x hx; simp [ofO] at hx
    · intro o o' x x' b hx; simp [ofO] at hx
    · intro o x b hx; simp [ofO] at hx
    · intro o x b hx; simp [ofO] at hx
theorem ecalls_thaw {P : Program} {f : FuncId} {args args' : List EV} {ty es : Nat} {xs : List (List FV)} {post : EV → Prop} (h : ECalls P f args' [] fun y H' => H' = [] ∧ post y)
    (hc : conArgs (fun _ => none) [] (args.map (fzEV 0 es xs)) = some args') : ECalls P f args [.row ty es xs] fun y H' => H' = [none] ∧ post y := by
  intro ρ Φ w vals r ha
  have hw := weak_frz (m := 1) (n := 1) (T := args) (H := ofL [.row ty es xs]) (o := 0) (ty := ty) (es := es) (xs := xs) rfl
  obtain ⟨⟨X, hX, r1, a1, _, hU⟩, _⟩ := hw w ρ Φ { tmps := vals.toArray, defers := [] } w ⟨⟨⟨fun o => o < 1, ρ, Φ, w⟩, rfl, r, by simpa using ha, rfl, fun i hi => hi⟩, Nat.le_refl _⟩
  obtain ⟨XU, Xρ, XΦ, Xw⟩ := X
  obtain rfl : Xw = w := hX
  have hH : (fun i => if i = 0 then none else (ofL [EO.row ty es xs] i).map (fzEO 0 es xs)) = fun _ => none := by
    funext i
    rcases i with _ | i <;> simp [ofL]
  simp only at r1
  rw [hH] at r1
  have ra : Rel Xw 0 Xρ XΦ (ofL []) ⟨fun o => o < 0, Xρ, XΦ, Xw⟩ := by
    refine ⟨rfl, rfl, rfl, Nat.le_refl _, fun _ _ _ => rfl, fun _ _ => rfl, ?_, ?_, ?_, ?_, r1.fro, fun b hb => .inl hb, r1.glob⟩
    · intro o x hx; simp [ofL] at hx
    · intro o o' x x' b hx; simp [ofL] at hx
    · intro o x b hx; simp [ofL] at hx
    · intro o x b hx; simp [ofL] at hx
  have hi : Into ⟨XU, Xρ, XΦ, Xw⟩ ⟨fun o => o < 0, Xρ, XΦ, Xw⟩ [] := by
    constructor <;> simp
  have a2 := conArgs_spec r1 hi hc (fun o _ y b hy => by simp at hy) (by simpa using a1)
  refine (h Xρ XΦ Xw vals ra a2).mono ?_
  rintro e w' ⟨y, H', v, ρ', Φ', he, ⟨rfl, hp⟩, hlen, hv, hr⟩
  have hl : Later ⟨fun o => o < 0, ρ', Φ', w'⟩ ⟨fun o => o < 1, ρ, Φ', w'⟩ := ⟨fun o ho => absurd ho (Nat.not_lt_zero _), fun o ho => absurd ho (Nat.not_lt_zero _), fun _ h => h, fun _ _ => rfl⟩
  refine ⟨y, [none], v, ρ, Φ', he, ⟨rfl, hp⟩, Nat.le_refl _, hl.vv hv, ?_⟩
  refine ⟨hr.os, hr.tape, hr.output, hr.size, ?_, fun _ _ => rfl, ?_, ?_, ?_, ?_, hr.fro, ?_, hr.glob⟩
  · intro b hb1 hn
    exact hr.block b hb1 fun o ho => absurd ho (Nat.not_lt_zero _)
  · intro o x hx; rcases o with _ | o <;> simp [ofO] at hx
  · intro o o' x x' b hx; rcases o with _ | o <;> simp [ofO] at hx
  · intro o x b hx; rcases o with _ | o <;> simp [ofO] at hx
  · intro o x b hx; rcases o with _ | o <;> simp [ofO] at hx
  · intro b hb1
    rcases hr.phi b hb1 with h3 | h3 | ⟨o', h3, h4⟩
    · exact r1.phi b h3
    · exact .inr (.inl h3)
    · exact absurd h3 (Nat.not_lt_zero _)
@[simp] theorem conAll_holC (H : Nat → Option EO) (ids : List Nat) (p : Hol) : conAll H ids (holC p) = some (holC p) := by simp [holC]
@[simp] theorem strAll_holC (ids : List Nat) (p : Hol) : strAll ids (holC p) = some (holC p) := by simp [holC, strAll, strC]
@[simp] theorem frzAll_holC (p : Hol) : frzAll (holC p) = some (holF p) := by simp [holC, holF, frzAll, frz]
@[simp] theorem refs_holC (p : Hol) : (holC p).flatMap refsC = [] := by simp [holC]
@[simp] theorem fz_holC (ids : List Nat) (p : Hol) : (holC p).flatMap (fzC ids) = [] := by simp [holC]
@[simp] theorem ren_holC (g : Nat → Nat) (p : Hol) : (holC p).map (renC g) = holC p := by simp [holC]
theorem holL_lo : ∀ {o : Option Int} {l : List Hol}, holL o l = true → ∀ p ∈ l, ∀ q, o = some q → q < p.id
  | o, [], _, p, hp, q, _ => by simp at hp
  | o, a :: r, h, p, hp, q, hq => by
    simp only [holL, Bool.and_eq_true] at h
    have ha : q < a.id := by
      have := h.1.2
      rw [hq] at this
      exact of_decide_eq_true this
    rcases List.mem_cons.1 hp with rfl | hp
    · exact ha
    · have := holL_lo h.2 p hp a.id rfl
      omega
theorem holL_mem : ∀ {o : Option Int} {l : List Hol}, holL o l = true → ∀ p ∈ l, mayH p = true
  | o, [], _, p, hp => by simp at hp
  | o, q :: r, h, p, hp => by
    simp only [holL, Bool.and_eq_true] at h
    rcases List.mem_cons.1 hp with rfl | hp
    · exact h.1.1
    · exact holL_mem h.2 p hp
@[simp] def yl1i4 : UL | _ => [xQ 0 4 (.mov (.k (.bool false)))]
@[simp] def yl1i5 : UL | _ => [xM 12 4 16]
@[simp] def yl1i6 : UL | _ => xQ 6 11 (.pick (.t 7) (.t 10) (.k (.bool false))) :: xM 7 12 11 :: xG 8 13 12 false (.mov (.t 0)) :: xG 9 14 12 false (.mov (.t 1)) :: xG 10 15 12 false (.bin .lss (.t 13) (.t 14)) :: xQ 11 16 (.pick (.t 12) (.k (.bool true)) (.t 15)) :: hid yl1i5
@[simp] def yl1i7 : UL | _ => xM 0 5 0 :: xO 1 6 (.call 163 [(.t 5)]) :: xM 2 7 6 :: xG 3 8 7 true (.mov (.t 1)) :: ⟨4, (some 9), (some (7, true)), (.call 163 [(.t 8)]), []⟩ :: xG 5 10 7 true (.un .not (.t 9)) :: hid yl1i6
@[simp] def yb1i8 : UB | _ => .seq (reg0 (hid yl1i4) 1) (.seq (reg0 (hid yl1i7) 13) .ret)
def c_LessI : EB × List QOp × Nat := ((hid yb1i8), [(.mov (.t 4))], 17)
theorem k_LessI : cfun Tryz.prog 122 = some c_LessI := by kernel_rfl
@[simp] def yl1i9 : UL | _ => [xM 0 8 1, xQ 1 9 (.bin .add (.t 8) (xK 1)), xM 2 6 9]
@[simp] def yl1ia : UL | _ => [xM 0 10 6, xM 1 11 2, xQ 2 12 (.bin .lss (.t 10) (.t 11))]
@[simp] def yl1ib : UL | _ => [xM 0 15 6, xM 1 7 15]
@[simp] def yl1ic : UL | _ => [xG 12 28 19 true (.ldc (.t 27)), ⟨13, (some 29), (some (19, true)), (.call 122 [(.t 23), (.t 28)]), []⟩, xQ 14 30 (.pick (.t 19) (.t 29) (.k (.bool false)))]
@[simp] def yl1id : UL | _ => xG 6 22 19 true (.isl 1 (.t 20) (.t 21)) :: xG 7 23 19 true (.ldc (.t 22)) :: xG 8 24 19 true (.mov (.t 0)) :: xG 9 25 19 true (.mov (.t 7)) :: xG 10 26 19 true (.bin .sub (.t 25) (xK 1)) :: xG 11 27 19 true (.isl 1 (.t 24) (.t 26)) :: hid yl1ic
@[simp] def yl1ie : UL | _ => xM 0 16 7 :: xM 1 17 1 :: xQ 2 18 (.bin .gtr (.t 16) (.t 17)) :: xM 3 19 18 :: xG 4 20 19 true (.mov (.t 0)) :: xG 5 21 19 true (.mov (.t 7)) :: hid yl1id
@[simp] def yl1if : UL | _ => [xQ 12 45 (.isl 1 (.t 43) (.t 44)), xQ 13 46 (.ldc (.t 45)), xQ 14 47 (.isl 1 (.t 33) (.t 34)), ⟨15, none, none, (.sto 1 (.t 47) (.t 42)), [2, 3, 4]⟩, xQ 16 48 (.isl 1 (.t 35) (.t 37)), xN 17 (.sto 1 (.t 48) (.t 46))]
@[simp] def yl1ig : UL | _ => xM 6 39 7 :: xQ 7 40 (.bin .sub (.t 39) (xK 1)) :: xQ 8 41 (.isl 1 (.t 38) (.t 40)) :: xQ 9 42 (.ldc (.t 41)) :: xM 10 43 0 :: xM 11 44 7 :: hid yl1if
@[simp] def yl1ih : UL | _ => xM 0 33 0 :: xM 1 34 7 :: xM 2 35 0 :: xM 3 36 7 :: xQ 4 37 (.bin .sub (.t 36) (xK 1)) :: xM 5 38 0 :: hid yl1ig
@[simp] def yl1ii : UL | _ => [xM 0 31 7, xQ 1 32 (.bin .sub (.t 31) (xK 1)), xM 2 7 32]
@[simp] def yb1ij : UB | _ => .seq (.seq (reg0 (hid yl1ie) 15) (.cond (.t 30) .skip (.exit 2))) (.seq (.block 3 (reg1 (hid yl1ih) 18)) (reg0 (hid yl1ii) 3))
@[simp] def yb1ik : UB | _ => .block 1 (.seq (reg0 (hid yl1ib) 2) (.block 2 (.loop (hid yb1ij))))
@[simp] def yl1il : UL | _ => [xM 0 13 6, xQ 1 14 (.bin .add (.t 13) (xK 1)), xM 2 6 14]
@[simp] def yb1im : UB | _ => .seq (.seq (reg0 (hid yl1ia) 3) (.cond (.t 12) .skip (.exit 0))) (.seq (hid yb1ik) (reg0 (hid yl1il) 3))
@[simp] def yb1in : UB | _ => .seq (reg0 (hid yl1i9) 3) (.block 0 (.loop (hid yb1im)))
def c_InsI : EB × List QOp × Nat := ((hid yb1in), [], 49)
theorem k_InsI : cfun Tryz.prog 175 = some c_InsI := by kernel_rfl
@[simp] def yl1io : UL | _ => [xQ 0 8 (.mov (.k (.bool true)))]
@[simp] def yl1ip : UL | _ => [xQ 0 9 (.mov (.k (.bool true)))]
@[simp] def yl1iq : UL | _ => [xM 0 19 2, xM 1 20 1, xQ 2 21 (.bin .sub (.t 19) (.t 20)), xM 3 10 21]
@[simp] def yl1ir : UL | _ => [xM 0 22 10, xQ 1 23 (.bin .leq (.t 22) (xK 12))]
@[simp] def yl1is : UL | _ => [xM 0 24 0, xM 1 25 1, xM 2 26 2, xO 3 27 (.call 175 [(.t 24), (.t 25), (.t 26)])]
@[simp] def yb1it : UB | _ => .seq (reg0 (hid yl1ir) 2) (.cond (.t 23) (.seq (reg0 (hid yl1is) 4) .ret) .skip)
@[simp] def yl1iu : UL | _ => [xM 0 28 3, xQ 1 29 (.bin .eql (.t 28) (xK 0))]
@[simp] def yl1iv : UL | _ => [xM 0 30 0, xM 1 31 1, xM 2 32 2, xO 3 33 (.call 176 [(.t 30), (.t 31), (.t 32)])]
@[simp] def yb1iw : UB | _ => .seq (reg0 (hid yl1iu) 2) (.cond (.t 29) (.seq (reg0 (hid yl1iv) 4) .ret) .skip)
@[simp] def yl1ix : UL | _ => [xM 0 34 8, xQ 1 35 (.un .not (.t 34))]
@[simp] def yl1iy : UL | _ => [xM 0 36 0, xM 1 37 1, xM 2 38 2, xO 3 39 (.call 177 [(.t 36), (.t 37), (.t 38)])]
@[simp] def yl1iz : UL | _ => [xM 0 40 3, xQ 1 41 (.bin .sub (.t 40) (xK 1)), xM 2 3 41]
@[simp] def yb1j0 : UB | _ => .cond (.t 35) (.seq (reg0 (hid yl1iy) 4) (reg0 (hid yl1iz) 3)) .skip
@[simp] def yl1j1 : UL | _ => [xQ 6 48 (.ext 1 (.t 42)), xM 7 11 47, xM 8 12 48]
@[simp] def yl1j2 : UL | _ => xM 0 43 0 :: xM 1 44 1 :: xM 2 45 2 :: xO 3 46 (.call 178 [(.t 43), (.t 44), (.t 45)]) :: xM 4 42 46 :: xQ 5 47 (.ext 0 (.t 42)) :: hid yl1j1
@[simp] def yl1j3 : UL | _ => [xM 0 49 12, xQ 1 50 (.bin .eql (.t 49) (xK 2))]
@[simp] def yl1j4 : UL | _ => [xM 0 51 0, xM 1 52 1, xM 2 53 2, xO 3 54 (.call 179 [(.t 51), (.t 52), (.t 53)])]
@[simp] def yl1j5 : UL | _ => [xM 6 11 60]
@[simp] def yl1j6 : UL | _ => xM 0 55 2 :: xQ 1 56 (.bin .sub (.t 55) (xK 1)) :: xM 2 57 11 :: xM 3 58 1 :: xQ 4 59 (.bin .sub (.t 57) (.t 58)) :: xQ 5 60 (.bin .sub (.t 56) (.t 59)) :: hid yl1j5
@[simp] def yl1j7 : UL | _ => [xQ 0 12 (.mov (xK 1))]
@[simp] def yb1j8 : UB | _ => .seq (reg0 (hid yl1j4) 4) (.seq (reg0 (hid yl1j6) 7) (reg0 (hid yl1j7) 1))
@[simp] def yl1j9 : UL | _ => [xG 6 67 65 true (.bin .eql (.t 66) (xK 1)), xQ 7 68 (.pick (.t 65) (.t 67) (.k (.bool false)))]
@[simp] def yl1ja : UL | _ => xM 0 61 8 :: xM 1 62 61 :: xG 2 63 62 true (.mov (.t 9)) :: xQ 3 64 (.pick (.t 62) (.t 63) (.k (.bool false))) :: xM 4 65 64 :: xG 5 66 65 true (.mov (.t 12)) :: hid yl1j9
@[simp] def yl1jb : UL | _ => [xM 0 69 0, xM 1 70 1, xM 2 71 2, xO 3 72 (.call 180 [(.t 69), (.t 70), (.t 71)])]
@[simp] def yb1jc : UB | _ => .cond (.t 68) (.seq (reg0 (hid yl1jb) 4) (.cond (.t 72) .ret .skip)) .skip
@[simp] def yl1jd : UL | _ => [⟨12, (some 85), (some (75, true)), (.call 122 [(.t 80), (.t 84)]), []⟩, xG 13 86 75 true (.un .not (.t 85)), xQ 14 87 (.pick (.t 75) (.t 86) (.k (.bool false)))]
@[simp] def yl1je : UL | _ => xG 6 79 75 true (.isl 1 (.t 76) (.t 78)) :: xG 7 80 75 true (.ldc (.t 79)) :: xG 8 81 75 true (.mov (.t 0)) :: xG 9 82 75 true (.mov (.t 11)) :: xG 10 83 75 true (.isl 1 (.t 81) (.t 82)) :: xG 11 84 75 true (.ldc (.t 83)) :: hid yl1jd
@[simp] def yl1jf : UL | _ => xM 0 73 1 :: xQ 1 74 (.bin .gtr (.t 73) (xK 0)) :: xM 2 75 74 :: xG 3 76 75 true (.mov (.t 0)) :: xG 4 77 75 true (.mov (.t 1)) :: xG 5 78 75 true (.bin .sub (.t 77) (xK 1)) :: hid yl1je
@[simp] def yl1jg : UL | _ => [xM 0 88 0, xM 1 89 1, xM 2 90 2, xM 3 91 11, xO 4 92 (.call 181 [(.t 88), (.t 89), (.t 90), (.t 91)]), xM 5 13 92]
@[simp] def yl1jh : UL | _ => [xM 0 93 13, xM 1 1 93]
@[simp] def yb1ji : UB | _ => .seq (reg0 (hid yl1jg) 6) (.seq (reg0 (hid yl1jh) 2) (.exit 1))
@[simp] def yl1jj : UL | _ => [xQ 6 100 (.ext 0 (.t 94)), xQ 7 101 (.ext 1 (.t 94)), xM 8 14 100, xM 9 15 101]
@[simp] def yl1jk : UL | _ => xM 0 95 0 :: xM 1 96 1 :: xM 2 97 2 :: xM 3 98 11 :: xO 4 99 (.call 182 [(.t 95), (.t 96), (.t 97), (.t 98)]) :: xM 5 94 99 :: hid yl1jj
@[simp] def yl1jl : UL | _ => [xM 0 102 15, xM 1 9 102]
@[simp] def yl1jm : UL | _ => [xM 6 16 105, xM 7 17 108]
@[simp] def yl1jn : UL | _ => xM 0 103 14 :: xM 1 104 1 :: xQ 2 105 (.bin .sub (.t 103) (.t 104)) :: xM 3 106 2 :: xM 4 107 14 :: xQ 5 108 (.bin .sub (.t 106) (.t 107)) :: hid yl1jm
@[simp] def yl1jo : UL | _ => [xM 0 109 10, xQ 1 110 (.bin .quo (.t 109) (xK 8)), xM 2 18 110]
@[simp] def yl1jp : UL | _ => [xM 0 111 16, xM 1 112 17, xQ 2 113 (.bin .lss (.t 111) (.t 112))]
@[simp] def yl1jq : UL | _ => [xM 0 114 16, xM 1 115 18, xQ 2 116 (.bin .geq (.t 114) (.t 115)), xM 3 8 116]
@[simp] def yl1jr : UL | _ => [xM 0 117 0, xM 1 118 1, xM 2 119 14, xM 3 120 3, xO 4 121 (.call 151 [(.t 117), (.t 118), (.t 119), (.t 120)])]
@[simp] def yl1js : UL | _ => [xM 0 122 14, xQ 1 123 (.bin .add (.t 122) (xK 1)), xM 2 1 123]
@[simp] def yb1jt : UB | _ => .seq (reg0 (hid yl1jq) 4) (.seq (reg0 (hid yl1jr) 5) (reg0 (hid yl1js) 3))
@[simp] def yl1ju : UL | _ => [xM 0 124 17, xM 1 125 18, xQ 2 126 (.bin .geq (.t 124) (.t 125)), xM 3 8 126]
@[simp] def yl1jv : UL | _ => [xM 0 127 0, xM 1 128 14, xQ 2 129 (.bin .add (.t 128) (xK 1)), xM 3 130 2, xM 4 131 3, xO 5 132 (.call 151 [(.t 127), (.t 129), (.t 130), (.t 131)])]
@[simp] def yl1jw : UL | _ => [xM 0 133 14, xM 1 2 133]
@[simp] def yb1jx : UB | _ => .seq (reg0 (hid yl1ju) 4) (.seq (reg0 (hid yl1jv) 6) (reg0 (hid yl1jw) 2))
@[simp] def yb1jy : UB | _ => .seq (reg0 (hid yl1jp) 3) (.cond (.t 113) (hid yb1jt) (hid yb1jx))
@[simp] def yb1jz : UB | _ => .seq (reg0 (hid yl1jn) 8) (.seq (reg0 (hid yl1jo) 3) (hid yb1jy))
@[simp] def yb1k0 : UB | _ => .seq (reg0 (hid yl1jk) 10) (.seq (reg0 (hid yl1jl) 2) (hid yb1jz))
@[simp] def yb1k1 : UB | _ => .seq (.seq (reg0 (hid yl1jf) 15) (.cond (.t 87) (hid yb1ji) .skip)) (hid yb1k0)
@[simp] def yb1k2 : UB | _ => .seq (.seq (reg0 (hid yl1j3) 2) (.cond (.t 50) (hid yb1j8) .skip)) (.seq (.seq (reg0 (hid yl1ja) 8) (hid yb1jc)) (hid yb1k1))
@[simp] def yb1k3 : UB | _ => .seq (.seq (reg0 (hid yl1ix) 2) (hid yb1j0)) (.seq (reg0 (hid yl1j2) 9) (hid yb1k2))
@[simp] def yb1k4 : UB | _ => .seq (reg0 (hid yl1iq) 4) (.seq (hid yb1it) (.seq (hid yb1iw) (hid yb1k3)))
@[simp] def yb1k5 : UB | _ => .seq (reg0 (hid yl1ip) 1) (.block 0 (.loop (.block 1 (hid yb1k4))))
@[simp] def yb1k6 : UB | _ => .seq (reg0 (hid yl1io) 1) (hid yb1k5)
def c_PdqI : EB × List QOp × Nat := ((hid yb1k6), [], 134)
theorem k_PdqI : cfun Tryz.prog 151 = some c_PdqI := by kernel_rfl
@[simp] def yl1k7 : UL | _ => [xQ 0 2 (.mov (xK 0))]
@[simp] def yl1k8 : UL | _ => [xM 0 3 0, xQ 1 4 (.cnv .u32 (.t 3)), xO 2 5 (.call 183 [(.t 4)]), xM 3 2 5]
@[simp] def yl1k9 : UL | _ => [xM 0 6 0, xO 1 7 (.call 184 [(.t 6)]), xM 2 2 7]
@[simp] def yb1ka : UB | _ => .seq (.cond (.k (.bool false)) (.seq (reg0 (hid yl1k8) 4) .ret) .skip) (.seq (reg0 (hid yl1k9) 3) .ret)
@[simp] def yb1kb : UB | _ => .seq (reg0 (hid yl1k7) 1) (hid yb1ka)
def c_LenB : EB × List QOp × Nat := ((hid yb1kb), [(.mov (.t 2))], 8)
theorem k_LenB : cfun Tryz.prog 152 = some c_LenB := by kernel_rfl
def s_LenB64_0 : ByteArray := ⟨#[0, 1, 2, 2, 3, 3, 3, 3, 4, 4, 4, 4, 4, 4, 4, 4, 5, 5, 5, 5, 5, 5, 5, 5, 5, 5, 5, 5, 5, 5, 5, 5, 6, 6, 6, 6, 6, 6, 6, 6, 6, 6, 6, 6, 6, 6, 6, 6, 6, 6, 6, 6, 6, 6, 6, 6, 6, 6, 6, 6, 6, 6, 6, 6, 7, 7, 7, 7, 7, 7, 7, 7, 7, 7, 7, 7, 7, 7, 7, 7, 7, 7, 7, 7, 7, 7, 7, 7, 7, 7, 7, 7, 7, 7, 7, 7, 7, 7, 7, 7, 7, 7, 7, 7, 7, 7, 7, 7, 7, 7, 7, 7, 7, 7, 7, 7, 7, 7, 7, 7, 7, 7, 7, 7, 7, 7, 7, 7, 8, 8, 8, 8, 8, 8, 8, 8, 8, 8, 8, 8, 8, 8, 8, 8, 8, 8, 8, 8, 8, 8, 8, 8, 8, 8, 8, 8, 8, 8, 8, 8, 8, 8, 8, 8, 8, 8, 8, 8, 8, 8, 8, 8, 8, 8, 8, 8, 8, 8, 8, 8, 8, 8, 8, 8, 8, 8, 8, 8, 8, 8, 8, 8, 8, 8, 8, 8, 8, 8, 8, 8, 8, 8, 8, 8, 8, 8, 8, 8, 8, 8, 8, 8, 8, 8, 8, 8, 8, 8, 8, 8, 8, 8, 8, 8, 8, 8, 8, 8, 8, 8, 8, 8, 8, 8, 8, 8, 8, 8, 8, 8, 8, 8, 8, 8, 8, 8, 8, 8, 8, 8, 8, 8, 8, 8, 8, 8]⟩
@[simp] def yl1kc : UL | _ => [xQ 0 2 (.mov (xK 0))]
@[simp] def yl1kd : UL | _ => [xM 0 3 0, xQ 1 4 (.bin .geq (.t 3) (.k (.int .u64 4294967296)))]
@[simp] def yl1ke : UL | _ => [xM 0 5 0, xQ 1 6 (.bin .shr (.t 5) (.k (.int .u64 32))), xM 2 0 6]
@[simp] def yl1kf : UL | _ => [xQ 0 2 (.mov (xK 32))]
@[simp] def yb1kg : UB | _ => .cond (.t 4) (.seq (reg0 (hid yl1ke) 3) (reg0 (hid yl1kf) 1)) .skip
@[simp] def yl1kh : UL | _ => [xM 0 7 0, xQ 1 8 (.bin .geq (.t 7) (.k (.int .u64 65536)))]
@[simp] def yl1ki : UL | _ => [xM 0 9 0, xQ 1 10 (.bin .shr (.t 9) (.k (.int .u64 16))), xM 2 0 10]
@[simp] def yl1kj : UL | _ => [xM 0 11 2, xQ 1 12 (.bin .add (.t 11) (xK 16)), xM 2 2 12]
@[simp] def yb1kk : UB | _ => .cond (.t 8) (.seq (reg0 (hid yl1ki) 3) (reg0 (hid yl1kj) 3)) .skip
@[simp] def yl1kl : UL | _ => [xM 0 13 0, xQ 1 14 (.bin .geq (.t 13) (.k (.int .u64 256)))]
@[simp] def yl1km : UL | _ => [xM 0 15 0, xQ 1 16 (.bin .shr (.t 15) (.k (.int .u64 8))), xM 2 0 16]
@[simp] def yl1kn : UL | _ => [xM 0 17 2, xQ 1 18 (.bin .add (.t 17) (xK 8)), xM 2 2 18]
@[simp] def yb1ko : UB | _ => .cond (.t 14) (.seq (reg0 (hid yl1km) 3) (reg0 (hid yl1kn) 3)) .skip
@[simp] def yl1kp : UL | _ => [xM 6 2 24]
@[simp] def yl1kq : UL | _ => xM 0 19 2 :: xM 1 20 0 :: xQ 2 21 (.cnv .u8 (.t 20)) :: xQ 3 22 (.ixs (.k (.string s_LenB64_0)) (.t 21)) :: xQ 4 23 (.cnv .i64 (.t 22)) :: xQ 5 24 (.bin .add (.t 19) (.t 23)) :: hid yl1kp
@[simp] def yb1kr : UB | _ => .seq (.seq (reg0 (hid yl1kl) 2) (hid yb1ko)) (.seq (reg0 (hid yl1kq) 7) .ret)
@[simp] def yb1ks : UB | _ => .seq (.seq (reg0 (hid yl1kh) 2) (hid yb1kk)) (hid yb1kr)
@[simp] def yb1kt : UB | _ => .seq (.seq (reg0 (hid yl1kd) 2) (hid yb1kg)) (hid yb1ks)
@[simp] def yb1ku : UB | _ => .seq (reg0 (hid yl1kc) 1) (hid yb1kt)
def c_LenB64 : EB × List QOp × Nat := ((hid yb1ku), [(.mov (.t 2))], 25)
theorem k_LenB64 : cfun Tryz.prog 184 = some c_LenB64 := by kernel_rfl
@[simp] def yl1kv : UL | _ => [xM 0 3 0, xQ 1 4 (.len (.t 3)), xM 2 2 4]
@[simp] def yl1kw : UL | _ => [xM 0 5 0, xM 1 6 2, xM 2 7 2, xQ 3 8 (.cnv .u64 (.t 7)), xO 4 9 (.call 152 [(.t 8)]), xO 5 10 (.call 151 [(.t 5), (xK 0), (.t 6), (.t 9)])]
@[simp] def yb1kx : UB | _ => .seq (reg0 (hid yl1kv) 3) (reg0 (hid yl1kw) 6)
def c_SortI : EB × List QOp × Nat := ((hid yb1kx), [], 11)
theorem k_SortI : cfun Tryz.prog 101 = some c_SortI := by kernel_rfl
theorem LessI_ok (a b : Int) : ECalls Tryz.prog 122 [I .i64 a, I .i64 b] [] fun y H' => H' = [] ∧ y = .lit (.bool (decide (a < b))) := by
  refine ecalls k_LessI ?_
  simp [c_LessI, I]
  refine call0 (NaNI_ok a) (by simp [I]) ?_
  rintro y H' ⟨rfl, rfl⟩
  refine ⟨.inl (by simp), le_ok rfl, ?_⟩
  simp
  exact fin0
def swS (l : List Int) (j : Nat) : List Int := (l.set (j + 1) ((l[j]?).getD 0)).set j ((l[j + 1]?).getD 0)
theorem swS_len (l : List Int) (j : Nat) : (swS l j).length = l.length := by simp [swS]
def sinkS : Nat → List Int → List Int
  | 0, l => l
  | j + 1, l => if (l[j + 1]?).getD 0 < (l[j]?).getD 0 then sinkS j (swS l j) else l
theorem sinkS_len : ∀ (j : Nat) (l : List Int), (sinkS j l).length = l.length
  | 0, _ => rfl
  | j + 1, l => by
    unfold sinkS
    split
    · rw [sinkS_len j, swS_len]
    · rfl
theorem intv_at {l : List Int} {i : Nat} (h : i < l.length) (h2 : i < (intv l).length) : (intv l)[i]'h2 = [.lit (.int .i64 ((l[i]?).getD 0))] := by
  simp [intv, h]
theorem intv_set (l : List Int) (i : Nat) (x : Int) : (intv l).set i [.lit (.int .i64 x)] = intv (l.set i x) := by simp [intv, List.map_set]
structure Prm where
  tx : List UInt8
  n : Int
  am : Int
  k0 : Int
  k1 : Int
  dl : Int
  fe : Int
structure Rte where
  f : Prm
  s : Prm
  a : Int
  b : Int
  c : Int
  am : Int
  fe : Int
def iC (n : Int) : EC := .fz (.lit (.int .i64 n))
def prmC (p : Prm) : List EC := hc p.tx ++ [iC p.n, iC p.am, iC p.k0, iC p.k1, iC p.dl, iC p.fe]
def rteC (r : Rte) : List EC := prmC r.f ++ (prmC r.s ++ [iC r.a, iC r.b, iC r.c, iC r.am, iC r.fe])
def PVv (p : Prm) : EV := .v (.agg (prmC p))
def Prm.ok (p : Prm) : Prop := p.tx.length = 32 ∧ i64 p.n ∧ i64 p.am ∧ i64 p.k0 ∧ i64 p.k1 ∧ i64 p.dl ∧ i64 p.fe
def Rte.ok (r : Rte) : Prop := r.f.ok ∧ r.s.ok ∧ i64 r.a ∧ i64 r.b ∧ i64 r.c ∧ i64 r.am ∧ i64 r.fe
section
variable {p : Prm} (h : p.tx.length = 32)
include h
theorem prmC_len : (prmC p).length = 38 := by simp [prmC, hc_len, h]
theorem pm_take : (prmC p).take 38 = prmC p := List.take_of_length_le (by rw [prmC_len h]; omega)
theorem pm_d34 : ((prmC p).drop 34).take 2 = [iC p.k0, iC p.k1] := by
  have e : (hc p.tx).length = 32 := by rw [hc_len, h]
  unfold prmC
  rw [List.drop_append, List.drop_of_length_le (by omega), e]
  rfl
end
section
variable {r : Rte} (hf : r.f.tx.length = 32) (hs : r.s.tx.length = 32)
include hf hs
end
theorem conAll_mp (H : Nat → Option EO) (ids : List Nat) : ∀ l : List FV, conAll H ids (l.map EC.fz) = some (l.map EC.fz)
  | [] => rfl
  | a :: r => by simp only [List.map_cons, conAll, conC, conAll_mp H ids r]; rfl
theorem strAll_mp (ids : List Nat) : ∀ l : List FV, strAll ids (l.map EC.fz) = some (l.map EC.fz)
  | [] => rfl
  | a :: r => by simp only [List.map_cons, strAll, strC, strAll_mp ids r]; rfl
theorem frzAll_mp : ∀ l : List FV, frzAll (l.map EC.fz) = some l
  | [] => rfl
  | a :: r => by simp only [List.map_cons, frzAll, frz, frzAll_mp r]; rfl
theorem refs_mp : ∀ l : List FV, (l.map EC.fz).flatMap refsC = []
  | [] => rfl
  | a :: r => by simp only [List.map_cons, List.flatMap_cons, refs_mp r]; rfl
theorem fz_mp (ids : List Nat) : ∀ l : List FV, (l.map EC.fz).flatMap (fzC ids) = []
  | [] => rfl
  | a :: r => by simp only [List.map_cons, List.flatMap_cons, fz_mp ids r]; rfl
theorem ren_mp (g : Nat → Nat) : ∀ l : List FV, (l.map EC.fz).map (renC g) = l.map EC.fz
  | [] => rfl
  | a :: r => by simp only [List.map_cons, ren_mp g r]; rfl
def iF (n : Int) : FV := .lit (.int .i64 n)
def prmF (p : Prm) : List FV := hf p.tx ++ [iF p.n, iF p.am, iF p.k0, iF p.k1, iF p.dl, iF p.fe]
def rteF (r : Rte) : List FV := prmF r.f ++ (prmF r.s ++ [iF r.a, iF r.b, iF r.c, iF r.am, iF r.fe])
theorem prmF_fz (p : Prm) : (prmF p).map EC.fz = prmC p := by simp [prmF, prmC, iF, iC]
theorem rteF_fz (r : Rte) : (rteF r).map EC.fz = rteC r := by simp [rteF, rteC, prmF_fz, iF, iC]
@[simp] theorem conAll_prmC (H : Nat → Option EO) (ids : List Nat) (p : Prm) : conAll H ids (prmC p) = some (prmC p) := by rw [← prmF_fz]; exact conAll_mp H ids _
@[simp] theorem strAll_prmC (ids : List Nat) (p : Prm) : strAll ids (prmC p) = some (prmC p) := by rw [← prmF_fz]; exact strAll_mp ids _
@[simp] theorem frzAll_prmC (p : Prm) : frzAll (prmC p) = some (prmF p) := by rw [← prmF_fz]; exact frzAll_mp _
@[simp] theorem refs_prmC (p : Prm) : (prmC p).flatMap refsC = [] := by rw [← prmF_fz]; exact refs_mp _
@[simp] theorem fz_prmC (ids : List Nat) (p : Prm) : (prmC p).flatMap (fzC ids) = [] := by rw [← prmF_fz]; exact fz_mp ids _
@[simp] theorem ren_prmC (g : Nat → Nat) (p : Prm) : (prmC p).map (renC g) = prmC p := by rw [← prmF_fz]; exact ren_mp g _
@[simp] theorem conAll_rteC (H : Nat → Option EO) (ids : List Nat) (p : Rte) : conAll H ids (rteC p) = some (rteC p) := by rw [← rteF_fz]; exact conAll_mp H ids _
@[simp] theorem strAll_rteC (ids : List Nat) (p : Rte) : strAll ids (rteC p) = some (rteC p) := by rw [← rteF_fz]; exact strAll_mp ids _
@[simp] theorem frzAll_rteC (p : Rte) : frzAll (rteC p) = some (rteF p) := by rw [← rteF_fz]; exact frzAll_mp _
@[simp] theorem refs_rteC (p : Rte) : (rteC p).flatMap refsC = [] := by rw [← rteF_fz]; exact refs_mp _
@[simp] theorem fz_rteC (ids : List Nat) (p : Rte) : (rteC p).flatMap (fzC ids) = [] := by rw [← rteF_fz]; exact fz_mp ids _
@[simp] theorem ren_rteC (g : Nat → Nat) (p : Rte) : (rteC p).map (renC g) = rteC p := by rw [← rteF_fz]; exact ren_mp g _
theorem idx_of {l : List EC} {k : Nat} {c : EC} (e : l[k]? = some c) (h : k < l.length) : l[k]'h = c := by
  rw [List.getElem?_eq_getElem h] at e
  exact Option.some.inj e
theorem opn_twoV : Opn BB Tryz.prog 26 (fun p : Int × Int => [FV.lit (.int .i64 p.1), .lit (.int .i64 p.2)]) (fun p => i64 p.1 ∧ i64 p.2) (fun _ => 1) :=
  (opn_array bok (e := 3) (es := 1) (n := 2) (by kernel_rfl) (by kernel_rfl) (by kernel_rfl) opn_i64).map (fun l => (l[0]?.getD 0, l[1]?.getD 0)) (by
    rintro l ⟨_, h⟩
    match l, h with
    | [a, b], _ => simp) (by
    rintro l ⟨h1, h⟩
    match l, h, h1 with
    | [a, b], _, h1 => exact ⟨h1 a (by simp), h1 b (by simp)⟩) (fun _ _ => by omega)
theorem opn_outV : Opn BB Tryz.prog 25 (fun p : List UInt8 × Int => hf p.1 ++ [FV.lit (.int .i64 p.2)]) (fun p => p.1.length = 32 ∧ i64 p.2) (fun _ => 1) :=
  (opn_struct (tot := 33) bok Tryz.underlying25 (by kernel_rfl)
    (opnFs_cons bok (n := 32) (tot := 1) opn_hash rfl (by kernel_rfl) (opnFs_cons bok (n := 1) (tot := 0) opn_i64 rfl (by kernel_rfl) opnFs_nil))).map
    (fun p => (p.1, p.2.1)) (by rintro ⟨a, b, u⟩ _; simp) (by rintro ⟨a, b, u⟩ h; exact ⟨h.1, h.2.1⟩) (by rintro ⟨a, b, u⟩ _; simp)
theorem opn_prm : Opn BB Tryz.prog 28 prmF Prm.ok (fun _ => 1) :=
  (opn_struct (tot := 38) bok Tryz.underlying28 (by kernel_rfl)
    (opnFs_cons bok (n := 33) (tot := 5) opn_outV rfl (by kernel_rfl) (opnFs_cons bok (n := 1) (tot := 4) opn_i64 rfl (by kernel_rfl)
      (opnFs_cons bok (n := 2) (tot := 2) opn_twoV rfl (by kernel_rfl) (opnFs_cons bok (n := 1) (tot := 1) opn_i64 rfl (by kernel_rfl)
      (opnFs_cons bok (n := 1) (tot := 0) opn_i64 rfl (by kernel_rfl) opnFs_nil)))))).map
    (fun p => (⟨p.1.1, p.1.2, p.2.1, p.2.2.1.1, p.2.2.1.2, p.2.2.2.1, p.2.2.2.2.1⟩ : Prm)) (by rintro ⟨⟨a, a'⟩, b, ⟨c, c'⟩, d, e, u⟩ _; simp [prmF, iF]) (by rintro ⟨⟨a, a'⟩, b, ⟨c, c'⟩, d, e, u⟩ h; exact ⟨h.1.1, h.1.2, h.2.1, h.2.2.1.1, h.2.2.1.2, h.2.2.2.1, h.2.2.2.2.1⟩) (by rintro ⟨⟨a, a'⟩, b, ⟨c, c'⟩, d, e, u⟩ _; simp)
def zPrmV : Value := .agg (Array.replicate 32 (.int .u8 0) ++ #[.int .i64 0, .int .i64 0, .int .i64 0, .int .i64 0, .int .i64 0, .int .i64 0])
def zPrmD {H : Type} : DataW H := .agg [.agg [.agg (List.replicate 32 (.lit (.int .u8 0))), .lit (.int .i64 0)], .lit (.int .i64 0), .agg [.lit (.int .i64 0), .lit (.int .i64 0)], .lit (.int .i64 0), .lit (.int .i64 0)]
def intF (n : Int) : List FV := [.lit (.int .i64 n)]
theorem opn_ints : Opn BB Tryz.prog 111 (fun l : List Int => [FV.sl 1 (l.map intF)]) (fun l => (∀ x ∈ l, i64 x) ∧ l.length ≤ maxLen) (fun l => l.length + 1) :=
  (opn_slice bok (e := 3) (es := 1) (by kernel_rfl) (by kernel_rfl) (by omega) opn_i64).map id (fun _ _ => rfl) (fun _ h => h) (fun l _ => by rw [sumB_one]; exact Nat.le_refl _)
theorem opn_two : Opn BB Tryz.prog 26 (fun p : Int × Int => [FV.lit (.int .i64 p.1), .lit (.int .i64 p.2)]) (fun p => i64 p.1 ∧ i64 p.2) (fun _ => 1) :=
  (opn_array bok (e := 3) (es := 1) (n := 2) (by kernel_rfl) (by kernel_rfl) (by kernel_rfl) opn_i64).map (fun l => (l[0]?.getD 0, l[1]?.getD 0)) (by
    rintro l ⟨_, h⟩
    match l, h with
    | [a, b], _ => simp) (by
    rintro l ⟨h1, h⟩
    match l, h, h1 with
    | [a, b], _, h1 => exact ⟨h1 a (by simp), h1 b (by simp)⟩) (fun _ _ => by omega)
theorem opn_pay : Opn BB Tryz.prog 127 payF Pay.ok (fun _ => 1) :=
  (opn_struct (tot := 36) bok Tryz.underlying127 (by kernel_rfl)
    (opnFs_cons bok (n := 1) (tot := 35) opn_i64 rfl (by kernel_rfl) (opnFs_cons bok (n := 1) (tot := 34) opn_i64 rfl (by kernel_rfl)
      (opnFs_cons bok (n := 1) (tot := 33) opn_i64 rfl (by kernel_rfl) (opnFs_cons bok (n := 1) (tot := 32) opn_i64 rfl (by kernel_rfl)
      (opnFs_cons bok (n := 32) (tot := 0) opn_hash rfl (by kernel_rfl) opnFs_nil)))))).map
    (fun p => (⟨p.1, p.2.1, p.2.2.1, p.2.2.2.1, p.2.2.2.2.1⟩ : Pay)) (by rintro ⟨a, b, c, d, e, u⟩ _; simp [payF]) (by rintro ⟨a, b, c, d, e, u⟩ h; exact ⟨h.1, h.2.1, h.2.2.1, h.2.2.2.1, h.2.2.2.2.1⟩) (by rintro ⟨a, b, c, d, e, u⟩ _; simp)
theorem opn_hol : Opn BB Tryz.prog 113 holF (fun h => i64 h.id ∧ i64 h.am ∧ (∀ k ∈ h.keys, i64 k)) (fun h => h.keys.length + 1) :=
  (opn_struct (tot := 3) bok Tryz.underlying113 (by kernel_rfl)
    (opnFs_cons bok (n := 1) (tot := 2) opn_i64 rfl (by kernel_rfl) (opnFs_cons bok (n := 1) (tot := 1) opn_i64 rfl (by kernel_rfl)
      (opnFs_cons bok (n := 1) (tot := 0) opn_ints rfl (by kernel_rfl) opnFs_nil)))).map
    (fun p => (⟨p.1, p.2.1, p.2.2.1⟩ : Hol)) (by rintro ⟨a, b, c, u⟩ _; simp [holF, intv, intF]) (by rintro ⟨a, b, c, u⟩ h; exact ⟨h.1, h.2.1, h.2.2.1.1⟩) (by rintro ⟨a, b, c, u⟩ _; simp; omega)
theorem opn_pays : Opn BB Tryz.prog 29 (fun l : List Pay => [FV.sl 36 (payv l)]) (fun l => ∀ x ∈ l, x.ok) (fun l => l.length) :=
  (opn_slice bok (by kernel_rfl) (by kernel_rfl) (by omega) opn_pay).map id (fun _ _ => rfl) (fun _ h => h.1) (fun l _ => by rw [sumB_one]; simp)
theorem opn_hols : Opn BB Tryz.prog 30 (fun l : List Hol => [FV.sl 3 (holv l)]) (fun l => ∀ h ∈ l, i64 h.id ∧ i64 h.am ∧ (∀ k ∈ h.keys, i64 k)) (fun l => sumB (fun h : Hol => h.keys.length + 1) l) :=
  (opn_slice bok (by kernel_rfl) (by kernel_rfl) (by omega) opn_hol).map id (fun _ _ => rfl) (fun _ h => h.1) (fun l _ => by simp)
def Sta.ok0 (s : Sta) : Prop := i64 s.num ∧ i64 s.h0 ∧ i64 s.h1 ∧ (∀ p ∈ s.pays, p.ok) ∧ ∀ h ∈ s.holds, i64 h.id ∧ i64 h.am ∧ (∀ k ∈ h.keys, i64 k)
def staF (s : Sta) : List FV := [.lit (.int .i64 s.num), .lit (.int .i64 s.h0), .lit (.int .i64 s.h1), .sl 36 (payv s.pays), .sl 3 (holv s.holds)]
def staB (s : Sta) : Nat := s.pays.length + sumB (fun h : Hol => h.keys.length + 1) s.holds
theorem opn_sta : Opn BB Tryz.prog 32 staF Sta.ok0 staB :=
  (opn_struct (tot := 5) bok Tryz.underlying32 (by kernel_rfl)
    (opnFs_cons bok (n := 1) (tot := 4) opn_i64 rfl (by kernel_rfl) (opnFs_cons bok (n := 2) (tot := 2) opn_two rfl (by kernel_rfl)
      (opnFs_cons bok (n := 1) (tot := 1) opn_pays rfl (by kernel_rfl) (opnFs_cons bok (n := 1) (tot := 0) opn_hols rfl (by kernel_rfl) opnFs_nil))))).map
    (fun p => (⟨p.1, p.2.1.1, p.2.1.2, p.2.2.1, p.2.2.2.1⟩ : Sta)) (by rintro ⟨a, b, c, d, u⟩ _; simp [staF]) (by rintro ⟨a, b, c, d, u⟩ h; exact ⟨h.1, h.2.1.1, h.2.1.2, h.2.2.1, h.2.2.2.1⟩) (by rintro ⟨a, b, c, d, u⟩ _; simp [staB]; omega)
theorem sta_ok {s : Sta} (h : s.ok0) (hb : staB s ≤ 1048576) : s.ok := by
  have key : ∀ (l : List Hol), l.length ≤ sumB (fun h : Hol => h.keys.length + 1) l ∧ ∀ x ∈ l, x.keys.length ≤ sumB (fun h : Hol => h.keys.length + 1) l := by
    intro l
    induction l with
    | nil => simp
    | cons y r ih =>
      simp only [sumB, List.length_cons]
      refine ⟨by omega, ?_⟩
      intro x hx
      rcases List.mem_cons.1 hx with rfl | hx
      · omega
      · have := ih.2 x hx; omega
  obtain ⟨k1, k2⟩ := key s.holds
  unfold staB at hb
  refine ⟨h.1, h.2.1, h.2.2.1, h.2.2.2.1, fun x hx => ?_, by omega, by omega⟩
  have q := h.2.2.2.2 x hx
  have := k2 x hx
  exact ⟨q.1, q.2.1, q.2.2, by omega⟩
end Go.Proofs.YtflcfdeanneoeaaGreatDoor
