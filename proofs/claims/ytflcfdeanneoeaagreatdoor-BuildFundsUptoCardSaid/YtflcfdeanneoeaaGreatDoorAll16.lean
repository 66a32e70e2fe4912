import Derived.Test.YtflcfdeanneoeaaGreatDoorAll14
import Derived.Test.YtflcfdeanneoeaaGreatDoorAll15
import Derived.Test.YtflcfdeanneoeaaGreatDoorAll6
namespace Go.Proofs.YtflcfdeanneoeaaGreatDoor
open Go Go.EW
set_option linter.unusedSimpArgs false
set_option linter.unusedVariables false
@[simp] def l_ROuts_1 (_ : Unit) : List EOp := [xQ 0 4 (.box 28 (.t 0)), xQ 1 5 (.box 32 (.t 1)), xQ 2 7 (.box 23 (.t 3)), xQ 3 8 (.mov (.k (.slice none 0 0))), xQ 4 9 (.mov (.k (.slice none 0 0)))]
@[simp] def b_ROuts_2 (_ : Unit) : EB := reg0 (hid l_ROuts_1) 5
@[simp] def l_ROuts_4 (_ : Unit) : List EOp := [xQ 6 27 (.fad 34 (.t 4)), xQ 7 28 (.iad 2 1 (.t 27) (.t 26)), xQ 8 29 (.ldc (.t 28)), xM 9 10 24, xM 10 11 29]
@[simp] def l_ROuts_3 (_ : Unit) : List EOp := xM 0 21 2 :: xQ 1 22 (.fad 34 (.t 4)) :: xQ 2 23 (.iad 2 1 (.t 22) (.t 21)) :: xQ 3 24 (.ldc (.t 23)) :: xM 4 25 2 :: xQ 5 26 (.bin .sub (.k (.int .i64 1)) (.t 25)) :: hid l_ROuts_4
@[simp] def l_ROuts_7 (_ : Unit) : List EOp := [xQ 6 36 (.fad 1 (.t 5)), xQ 7 37 (.iad 2 1 (.t 36) (.k (.int .i64 1))), xQ 8 38 (.ldc (.t 37)), xQ 9 39 (.build [(.int .i64 0), (.int .i64 0)] [(0, 1, (.t 35)), (1, 1, (.t 38))]), xQ 10 12 (.alloc 26 [(.int .i64 0), (.int .i64 0)]), xN 11 (.sto 2 (.t 12) (.t 39))]
@[simp] def l_ROuts_6 (_ : Unit) : List EOp := xQ 0 30 (.fad 1 (.t 5)) :: xQ 1 31 (.iad 2 1 (.t 30) (.k (.int .i64 0))) :: xQ 2 32 (.ldc (.t 31)) :: xQ 3 33 (.fad 37 (.t 4)) :: xQ 4 34 (.ldc (.t 33)) :: xQ 5 35 (.bin .sub (.t 32) (.t 34)) :: hid l_ROuts_7
@[simp] def l_ROuts_9 (_ : Unit) : List EOp := [xM 0 40 11, xQ 1 41 (.bsl 1 [(.int .i64 0)] 1 [(0, (.t 40))]), xQ 2 42 (.lda 32 (.t 7)), xQ 3 43 (.build (([(.slice none 0 0)] : List Value) ++ zU8 ++ [(.int .i64 0), (.int .i64 0)]) [(0, 1, (.t 41)), (1, 32, (.t 42))]), xQ 4 13 (.alloc 150 (([(.slice none 0 0)] : List Value) ++ zU8 ++ [(.int .i64 0), (.int .i64 0)])), xN 5 (.fz (.sto 35 (.t 13) (.t 43)))]
@[simp] def b_ROuts_10 (_ : Unit) : EB := reg0 (hid l_ROuts_9) 6
@[simp] def l_ROuts_11 (_ : Unit) : List EOp := [xQ 0 14 (.mov (.k (.slice none 0 0)))]
@[simp] def b_ROuts_12 (_ : Unit) : EB := reg0 (hid l_ROuts_11) 1
@[simp] def l_ROuts_13 (_ : Unit) : List EOp := [xQ 0 15 (.mov (.k (.slice none 0 0)))]
@[simp] def b_ROuts_14 (_ : Unit) : EB := reg0 (hid l_ROuts_13) 1
@[simp] def l_ROuts_15 (_ : Unit) : List EOp := [xM 0 44 2, xQ 1 45 (.iad 2 1 (.t 12) (.t 44)), xQ 2 46 (.ldc (.t 45)), xQ 3 47 (.bin .geq (.t 46) (.k (.int .i64 10)))]
@[simp] def b_ROuts_16 (_ : Unit) : EB := reg0 (hid l_ROuts_15) 4
@[simp] def l_ROuts_19 (_ : Unit) : List EOp := [xQ 12 60 (.build [(.int .i64 0), (.slice none 0 0)] [(0, 1, (.t 51)), (1, 1, (.t 59))]), ⟨13, (some 61), none, (.fz (.q (.bsl 2 [(.int .i64 0), (.slice none 0 0)] 1 [(0, (.t 60))]))), [0]⟩, xO 14 62 (.app 148 2 32 (.t 48) (.t 61)), xM 15 14 62]
@[simp] def l_ROuts_18 (_ : Unit) : List EOp := xQ 6 54 (.fad 36 (.t 4)) :: xQ 7 55 (.ldc (.t 54)) :: xQ 8 56 (.build (([(.slice none 0 0)] : List Value) ++ zU8 ++ [(.int .i64 0), (.int .i64 0)]) [(0, 1, (.t 53)), (34, 1, (.t 55))]) :: xQ 9 57 (.lda 35 (.t 13)) :: ⟨10, (some 58), none, (.fz (.q (.bsl 35 (([(.slice none 0 0)] : List Value) ++ zU8 ++ [(.int .i64 0), (.int .i64 0)]) 2 [(0, (.t 56)), (1, (.t 57))]))), [0, 1, 2, 3]⟩ :: xQ 11 59 (.build [(.slice none 0 0)] [(0, 1, (.t 58))]) :: hid l_ROuts_19
@[simp] def l_ROuts_21 (_ : Unit) : List EOp := [xM 0 63 15, xQ 1 64 (.build [(.int .i64 0), (.int .i64 0)] [(0, 1, (.k (.int .i64 1))), (1, 1, (.k (.int .i64 0)))]), xQ 2 65 (.bsl 2 [(.int .i64 0), (.int .i64 0)] 1 [(0, (.t 64))]), xO 3 66 (.app 55 2 16 (.t 63) (.t 65)), xM 4 15 66]
@[simp] def b_ROuts_22 (_ : Unit) : EB := reg0 (hid l_ROuts_21) 5
@[simp] def l_ROuts_26 (_ : Unit) : List EOp := [xM 0 67 2, xQ 1 68 (.bin .sub (.k (.int .i64 1)) (.t 67)), xQ 2 69 (.iad 2 1 (.t 12) (.t 68)), xQ 3 70 (.ldc (.t 69)), xQ 4 71 (.bin .geq (.t 70) (.k (.int .i64 10)))]
@[simp] def b_ROuts_27 (_ : Unit) : EB := reg0 (hid l_ROuts_26) 5
@[simp] def l_ROuts_29 (_ : Unit) : List EOp := [xQ 6 78 (.bsl 1 [(.int .i64 0)] 1 [(0, (.t 77))]), ⟨7, (some 79), none, (.call 58 [(.t 78)]), [0, 1, 2, 3, 4]⟩, xQ 8 80 (.build [(.int .i64 0), (.slice none 0 0)] [(0, 1, (.t 76)), (1, 1, (.t 79))]), ⟨9, (some 81), none, (.fz (.q (.bsl 2 [(.int .i64 0), (.slice none 0 0)] 1 [(0, (.t 80))]))), [0]⟩, xO 10 82 (.app 148 2 32 (.t 72) (.t 81)), xM 11 14 82]
@[simp] def l_ROuts_28 (_ : Unit) : List EOp := xM 0 72 14 :: xM 1 73 2 :: xQ 2 74 (.bin .sub (.k (.int .i64 1)) (.t 73)) :: xQ 3 75 (.iad 2 1 (.t 12) (.t 74)) :: xQ 4 76 (.ldc (.t 75)) :: xM 5 77 11 :: hid l_ROuts_29
@[simp] def l_ROuts_31 (_ : Unit) : List EOp := [xM 0 83 15, xQ 1 84 (.build [(.int .i64 0), (.int .i64 0)] [(0, 1, (.k (.int .i64 2))), (1, 1, (.k (.int .i64 0)))]), xQ 2 85 (.bsl 2 [(.int .i64 0), (.int .i64 0)] 1 [(0, (.t 84))]), xO 3 86 (.app 55 2 16 (.t 83) (.t 85)), xM 4 15 86]
@[simp] def b_ROuts_32 (_ : Unit) : EB := reg0 (hid l_ROuts_31) 5
@[simp] def l_ROuts_36 (_ : Unit) : List EOp := [xQ 0 16 (.mov (.k (.int .i64 0)))]
@[simp] def b_ROuts_37 (_ : Unit) : EB := reg0 (hid l_ROuts_36) 1
@[simp] def l_ROuts_38 (_ : Unit) : List EOp := [xM 0 87 16, xQ 1 88 (.fad 3 (.t 5)), xQ 2 89 (.ldc (.t 88)), xQ 3 90 (.len (.t 89)), xQ 4 91 (.bin .lss (.t 87) (.t 90))]
@[simp] def b_ROuts_39 (_ : Unit) : EB := reg0 (hid l_ROuts_38) 5
@[simp] def l_ROuts_43 (_ : Unit) : List EOp := [xN 6 (.sto 36 (.t 17) (.t 98))]
@[simp] def l_ROuts_42 (_ : Unit) : List EOp := xQ 0 94 (.fad 3 (.t 5)) :: xQ 1 95 (.ldc (.t 94)) :: xM 2 96 16 :: xQ 3 97 (.isl 36 (.t 95) (.t 96)) :: xQ 4 98 (.lda 36 (.t 97)) :: xQ 5 17 (.alloc 127 (([(.int .i64 0), (.int .i64 0), (.int .i64 0), (.int .i64 0)] : List Value) ++ zU8)) :: hid l_ROuts_43
@[simp] def l_ROuts_46 (_ : Unit) : List EOp := [xQ 6 105 (.bsl 1 [(.int .i64 0)] 1 [(0, (.t 104))]), xQ 7 106 (.fad 4 (.t 17)), xQ 8 107 (.lda 32 (.t 106)), xQ 9 108 (.build (([(.slice none 0 0)] : List Value) ++ zU8 ++ [(.int .i64 0), (.int .i64 0)]) [(0, 1, (.t 105)), (1, 32, (.t 107))]), xQ 10 18 (.alloc 150 (([(.slice none 0 0)] : List Value) ++ zU8 ++ [(.int .i64 0), (.int .i64 0)])), xN 11 (.fz (.sto 35 (.t 18) (.t 108)))]
@[simp] def l_ROuts_45 (_ : Unit) : List EOp := xQ 0 99 (.fad 1 (.t 17)) :: xQ 1 100 (.ldc (.t 99)) :: xQ 2 101 (.bin .sub (.k (.int .i64 1)) (.t 100)) :: xQ 3 102 (.fad 34 (.t 4)) :: xQ 4 103 (.iad 2 1 (.t 102) (.t 101)) :: xQ 5 104 (.ldc (.t 103)) :: hid l_ROuts_46
@[simp] def l_ROuts_49 (_ : Unit) : List EOp := [xQ 6 115 (.fad 3 (.t 17)), xQ 7 116 (.ldc (.t 115)), xQ 8 117 (.build (([(.slice none 0 0)] : List Value) ++ zU8 ++ [(.int .i64 0), (.int .i64 0)]) [(0, 1, (.t 114)), (33, 1, (.t 116))]), xQ 9 19 (.alloc 150 (([(.slice none 0 0)] : List Value) ++ zU8 ++ [(.int .i64 0), (.int .i64 0)])), xN 10 (.fz (.sto 35 (.t 19) (.t 117)))]
@[simp] def l_ROuts_48 (_ : Unit) : List EOp := xQ 0 109 (.fad 1 (.t 17)) :: xQ 1 110 (.ldc (.t 109)) :: xQ 2 111 (.fad 34 (.t 4)) :: xQ 3 112 (.iad 2 1 (.t 111) (.t 110)) :: xQ 4 113 (.ldc (.t 112)) :: xQ 5 114 (.bsl 1 [(.int .i64 0)] 1 [(0, (.t 113))]) :: hid l_ROuts_49
@[simp] def l_ROuts_51 (_ : Unit) : List EOp := [xQ 0 118 (.fad 1 (.t 17)), xQ 1 119 (.ldc (.t 118)), xM 2 120 2, xQ 3 121 (.bin .eql (.t 119) (.t 120))]
@[simp] def b_ROuts_52 (_ : Unit) : EB := reg0 (hid l_ROuts_51) 4
@[simp] def l_ROuts_53 (_ : Unit) : List EOp := [xQ 0 122 (.fad 36 (.t 4)), xQ 1 123 (.ldc (.t 122)), xQ 2 124 (.fad 34 (.t 19)), xN 3 (.sto 1 (.t 124) (.t 123))]
@[simp] def b_ROuts_54 (_ : Unit) : EB := reg0 (hid l_ROuts_53) 4
@[simp] def l_ROuts_55 (_ : Unit) : List EOp := [xQ 0 125 (.fad 36 (.t 4)), xQ 1 126 (.ldc (.t 125)), xQ 2 127 (.fad 34 (.t 18)), xN 3 (.sto 1 (.t 127) (.t 126))]
@[simp] def b_ROuts_56 (_ : Unit) : EB := reg0 (hid l_ROuts_55) 4
@[simp] def l_ROuts_60 (_ : Unit) : List EOp := [xO 6 134 (.fz (.q (.bsl 35 (([(.slice none 0 0)] : List Value) ++ zU8 ++ [(.int .i64 0), (.int .i64 0)]) 3 [(0, (.t 131)), (1, (.t 132)), (2, (.t 133))]))), xQ 7 135 (.build [(.slice none 0 0)] [(0, 1, (.t 134))]), xQ 8 136 (.build [(.int .i64 0), (.slice none 0 0)] [(0, 1, (.t 130)), (1, 1, (.t 135))]), xO 9 137 (.fz (.q (.bsl 2 [(.int .i64 0), (.slice none 0 0)] 1 [(0, (.t 136))]))), xO 10 138 (.app 148 2 32 (.t 128) (.t 137)), xM 11 14 138]
@[simp] def l_ROuts_59 (_ : Unit) : List EOp := xM 0 128 14 :: xQ 1 129 (.fad 2 (.t 17)) :: xQ 2 130 (.ldc (.t 129)) :: xQ 3 131 (.lda 35 (.t 18)) :: xQ 4 132 (.lda 35 (.t 19)) :: xQ 5 133 (.lda 35 (.t 13)) :: hid l_ROuts_60
@[simp] def l_ROuts_63 (_ : Unit) : List EOp := [xM 6 15 144]
@[simp] def l_ROuts_62 (_ : Unit) : List EOp := xM 0 139 15 :: xQ 1 140 (.fad 0 (.t 17)) :: xQ 2 141 (.ldc (.t 140)) :: xQ 3 142 (.build [(.int .i64 0), (.int .i64 0)] [(0, 1, (.k (.int .i64 3))), (1, 1, (.t 141))]) :: xQ 4 143 (.bsl 2 [(.int .i64 0), (.int .i64 0)] 1 [(0, (.t 142))]) :: xO 5 144 (.app 55 2 16 (.t 139) (.t 143)) :: hid l_ROuts_63
@[simp] def l_ROuts_71 (_ : Unit) : List EOp := [xM 0 92 16, xQ 1 93 (.bin .add (.t 92) (.k (.int .i64 1))), xM 2 16 93]
@[simp] def b_ROuts_72 (_ : Unit) : EB := reg0 (hid l_ROuts_71) 3
@[simp] def l_ROuts_78 (_ : Unit) : List EOp := [xQ 0 20 (.mov (.k (.int .i64 0)))]
@[simp] def b_ROuts_79 (_ : Unit) : EB := reg0 (hid l_ROuts_78) 1
@[simp] def l_ROuts_80 (_ : Unit) : List EOp := [xM 0 145 20, xQ 1 146 (.fad 4 (.t 5)), xQ 2 147 (.ldc (.t 146)), xQ 3 148 (.len (.t 147)), xQ 4 149 (.bin .lss (.t 145) (.t 148))]
@[simp] def b_ROuts_81 (_ : Unit) : EB := reg0 (hid l_ROuts_80) 5
@[simp] def l_ROuts_86 (_ : Unit) : List EOp := [xQ 12 164 (.ldc (.t 163)), ⟨13, (some 165), none, (.call 58 [(.t 164)]), [0, 1, 2, 3, 4, 5, 6]⟩, xQ 14 166 (.build [(.int .i64 0), (.slice none 0 0)] [(0, 1, (.t 158)), (1, 1, (.t 165))]), ⟨15, (some 167), none, (.fz (.q (.bsl 2 [(.int .i64 0), (.slice none 0 0)] 1 [(0, (.t 166))]))), [0]⟩, xO 16 168 (.app 148 2 32 (.t 152) (.t 167)), xM 17 14 168]
@[simp] def l_ROuts_85 (_ : Unit) : List EOp := xQ 6 158 (.ldc (.t 157)) :: xQ 7 159 (.fad 4 (.t 5)) :: xQ 8 160 (.ldc (.t 159)) :: xM 9 161 20 :: xQ 10 162 (.isl 3 (.t 160) (.t 161)) :: xQ 11 163 (.fad 2 (.t 162)) :: hid l_ROuts_86
@[simp] def l_ROuts_89 (_ : Unit) : List EOp := [xQ 6 175 (.ldc (.t 174)), xQ 7 176 (.build [(.int .i64 0), (.int .i64 0)] [(0, 1, (.k (.int .i64 4))), (1, 1, (.t 175))]), xQ 8 177 (.bsl 2 [(.int .i64 0), (.int .i64 0)] 1 [(0, (.t 176))]), xO 9 178 (.app 55 2 16 (.t 169) (.t 177)), xM 10 15 178]
@[simp] def l_ROuts_88 (_ : Unit) : List EOp := xM 0 169 15 :: xQ 1 170 (.fad 4 (.t 5)) :: xQ 2 171 (.ldc (.t 170)) :: xM 3 172 20 :: xQ 4 173 (.isl 3 (.t 171) (.t 172)) :: xQ 5 174 (.fad 0 (.t 173)) :: hid l_ROuts_89
@[simp] def l_ROuts_93 (_ : Unit) : List EOp := [xM 0 150 20, xQ 1 151 (.bin .add (.t 150) (.k (.int .i64 1))), xM 2 20 151]
@[simp] def b_ROuts_94 (_ : Unit) : EB := reg0 (hid l_ROuts_93) 3
@[simp] def l_ROuts_100 (_ : Unit) : List EOp := [xM 0 179 14, xM 1 180 15, xM 2 8 179, xM 3 9 180]
@[simp] def b_ROuts_101 (_ : Unit) : EB := reg0 (hid l_ROuts_100) 4
end Go.Proofs.YtflcfdeanneoeaaGreatDoor
namespace Go.Proofs.YtflcfdeanneoeaaGreatDoor
open Go Go.EW
set_option linter.unusedSimpArgs false
set_option linter.unusedVariables false
def u64n (n : Int) : Nat := (n % 18446744073709551616).toNat
theorem u64n_lt (n : Int) : u64n n < 18446744073709551616 := by unfold u64n; omega
theorem wrap_u64n (n : Int) : IntKind.u64.wrap n = (u64n n : Int) := by
  simp [IntKind.wrap, IntKind.bits, IntKind.signed, u64n]
  omega
def uB (n : Int) : List UInt8 := uintB (u64n n)
def usB (l : List Int) : List UInt8 := l.flatMap uB
theorem uB_len (n : Int) : (uB n).length ≤ 9 := by
  have := nb_8 (u64n_lt n)
  simp [uB, uintB, dg_len]; omega
theorem usB_len : ∀ (l : List Int), (usB l).length ≤ 9 * l.length
  | [] => by simp [usB]
  | n :: r => by
    have h1 := uB_len n
    have h2 := usB_len r
    have : usB (n :: r) = uB n ++ usB r := by simp [usB]
    rw [this, List.length_append, List.length_cons]
    omega
theorem usB_snoc (l : List Int) (n : Int) : usB (l ++ [n]) = usB l ++ uB n := by simp [usB]
def Sta.small (s : Sta) : Prop := s.pays.length ≤ 1000 ∧ s.holds.length ≤ 1000 ∧ ∀ h ∈ s.holds, h.keys.length ≤ 1000
theorem flat_len {α : Type} {f : α → List UInt8} {k : Nat} : ∀ {l : List α}, (∀ x ∈ l, (f x).length ≤ k) → (l.flatMap f).length ≤ k * l.length
  | [], _ => by simp
  | x :: r, h => by
    have h1 := h x (by simp)
    have h2 := flat_len (l := r) (fun y hy => h y (by simp [hy]))
    rw [List.flatMap_cons, List.length_append, List.length_cons, Nat.mul_succ]
    omega
end Go.Proofs.YtflcfdeanneoeaaGreatDoor
