import Derived.Test.YtejjhgdnmknejaaGreatDoorAll18
import Derived.Test.YtejjhgdnmknejaaGreatDoorAll13
import Derived.Test.YtejjhgdnmknejaaGreatDoorAll12
import Derived.Test.YtejjhgdnmknejaaGreatDoorProg
import Derived.Test.YtejjhgdnmknejaaGreatDoorAll6
set_option maxHeartbeats 64000000
namespace Go.Proofs.YtejjhgdnmknejaaGreatDoor
open Go Go.EW
set_option linter.unusedSimpArgs false
set_option linter.unusedVariables false
def ylzu : UL | _ => [xW 0 4 28 0, xW 1 5 35 1, xW 2 7 23 3, xQ 3 8 (.mov (.k xS)), xQ 4 9 (.mov (.k xS))]
def ylzv : UL | _ => [xF 6 27 34 4, xQ 7 28 (.iad 2 1 (.t 27) (.t 26)), xL 8 29 28, xM 9 10 24, xM 10 11 29]
def ylzw : UL | _ => xM 0 21 2 :: xF 1 22 34 4 :: xQ 2 23 (.iad 2 1 (.t 22) (.t 21)) :: xL 3 24 23 :: xM 4 25 2 :: xQ 5 26 (.bin .sub (xK 1) (.t 25)) :: hid ylzv
def ylzx : UL | _ => [xF 6 36 1 5, xQ 7 37 (.iad 2 1 (.t 36) (xK 1)), xL 8 38 37, xQ 9 39 (.build [xZ, xZ] [(0, 1, .t 35), (1, 1, .t 38)]), xQ 10 12 (.alloc 26 [xZ, xZ]), xN 11 (.sto 2 (.t 12) (.t 39))]
def ylzy : UL | _ => xF 0 30 1 5 :: xQ 1 31 (.iad 2 1 (.t 30) (xK 0)) :: xL 2 32 31 :: xF 3 33 37 4 :: xL 4 34 33 :: xb 5 35 .sub 32 34 :: hid ylzx
def ylzz : UL | _ => [xM 0 40 11, xQ 1 41 (.bsl 1 [xZ] 1 [(0, .t 40)]), xD 2 42 32 7, xQ 3 43 (.build (([xS] : List Value) ++ zU8 ++ [xZ, xZ]) [(0, 1, .t 41), (1, 32, .t 42)]), xQ 4 13 (.alloc 212 (([xS] : List Value) ++ zU8 ++ [xZ, xZ])), xN 5 (.fz (.sto 35 (.t 13) (.t 43)))]
def yl102 : UL | _ => [xM 0 44 2, xQ 1 45 (.iad 2 1 (.t 12) (.t 44)), xL 2 46 45, xc 3 47 .geq 46 10]
def yl103 : UL | _ => [xQ 12 60 (.build [xZ, xS] [(0, 1, .t 51), (1, 1, .t 59)]), ⟨13, (some 61), none, (.fz (.q (.bsl 2 [xZ, xS] 1 [(0, .t 60)]))), [0]⟩, xO 14 62 (.app 155 2 32 (.t 48) (.t 61)), xM 15 14 62]
def yl104 : UL | _ => xF 6 54 36 4 :: xL 7 55 54 :: xQ 8 56 (.build (([xS] : List Value) ++ zU8 ++ [xZ, xZ]) [(0, 1, .t 53), (34, 1, .t 55)]) :: xD 9 57 35 13 :: ⟨10, (some 58), none, (.fz (.q (.bsl 35 (([xS] : List Value) ++ zU8 ++ [xZ, xZ]) 2 [(0, .t 56), (1, .t 57)]))), [0, 1, 2, 3]⟩ :: xQ 11 59 (.build [xS] [(0, 1, .t 58)]) :: hid yl103
def yl105 : UL | _ => xM 0 48 14 :: xM 1 49 2 :: xQ 2 50 (.iad 2 1 (.t 12) (.t 49)) :: xL 3 51 50 :: xM 4 52 10 :: xQ 5 53 (.bsl 1 [xZ] 1 [(0, .t 52)]) :: hid yl104
def yl106 : UL | _ => [xM 0 63 15, xQ 1 64 (.build [xZ, xZ] [(0, 1, (xK 1)), (1, 1, (xK 0))]), xQ 2 65 (.bsl 2 [xZ, xZ] 1 [(0, .t 64)]), xO 3 66 (.app 171 2 16 (.t 63) (.t 65)), xM 4 15 66]
def yl108 : UL | _ => [xM 0 67 2, xQ 1 68 (.bin .sub (xK 1) (.t 67)), xQ 2 69 (.iad 2 1 (.t 12) (.t 68)), xL 3 70 69, xc 4 71 .geq 70 10]
def yl109 : UL | _ => [xQ 6 78 (.bsl 1 [xZ] 1 [(0, .t 77)]), ⟨7, (some 79), none, (.call 58 [.t 78]), [0, 1, 2, 3, 4]⟩, xQ 8 80 (.build [xZ, xS] [(0, 1, .t 76), (1, 1, .t 79)]), ⟨9, (some 81), none, (.fz (.q (.bsl 2 [xZ, xS] 1 [(0, .t 80)]))), [0]⟩, xO 10 82 (.app 155 2 32 (.t 72) (.t 81)), xM 11 14 82]
def yl10a : UL | _ => xM 0 72 14 :: xM 1 73 2 :: xQ 2 74 (.bin .sub (xK 1) (.t 73)) :: xQ 3 75 (.iad 2 1 (.t 12) (.t 74)) :: xL 4 76 75 :: xM 5 77 11 :: hid yl109
def yl10b : UL | _ => [xM 0 83 15, xQ 1 84 (.build [xZ, xZ] [(0, 1, (xK 2)), (1, 1, (xK 0))]), xQ 2 85 (.bsl 2 [xZ, xZ] 1 [(0, .t 84)]), xO 3 86 (.app 171 2 16 (.t 83) (.t 85)), xM 4 15 86]
def yl10e : UL | _ => [xM 0 87 16, xF 1 88 3 5, xL 2 89 88, xE 3 90 89, xb 4 91 .lss 87 90]
def yl10f : UL | _ => [xN 6 (.sto 36 (.t 17) (.t 98))]
def yl10g : UL | _ => xF 0 94 3 5 :: xL 1 95 94 :: xM 2 96 16 :: xI 3 97 36 95 96 :: xD 4 98 36 97 :: xQ 5 17 (.alloc 128 (([xZ, xZ, xZ, xZ] : List Value) ++ zU8)) :: hid yl10f
def yl10h : UL | _ => [xQ 6 105 (.bsl 1 [xZ] 1 [(0, .t 104)]), xF 7 106 4 17, xD 8 107 32 106, xQ 9 108 (.build (([xS] : List Value) ++ zU8 ++ [xZ, xZ]) [(0, 1, .t 105), (1, 32, .t 107)]), xQ 10 18 (.alloc 212 (([xS] : List Value) ++ zU8 ++ [xZ, xZ])), xN 11 (.fz (.sto 35 (.t 18) (.t 108)))]
def yl10i : UL | _ => xF 0 99 1 17 :: xL 1 100 99 :: xQ 2 101 (.bin .sub (xK 1) (.t 100)) :: xF 3 102 34 4 :: xQ 4 103 (.iad 2 1 (.t 102) (.t 101)) :: xL 5 104 103 :: hid yl10h
def yl10j : UL | _ => [xF 6 115 3 17, xL 7 116 115, xQ 8 117 (.build (([xS] : List Value) ++ zU8 ++ [xZ, xZ]) [(0, 1, .t 114), (33, 1, .t 116)]), xQ 9 19 (.alloc 212 (([xS] : List Value) ++ zU8 ++ [xZ, xZ])), xN 10 (.fz (.sto 35 (.t 19) (.t 117)))]
def yl10k : UL | _ => xF 0 109 1 17 :: xL 1 110 109 :: xF 2 111 34 4 :: xQ 3 112 (.iad 2 1 (.t 111) (.t 110)) :: xL 4 113 112 :: xQ 5 114 (.bsl 1 [xZ] 1 [(0, .t 113)]) :: hid yl10j
def yl10m : UL | _ => [xF 0 122 36 4, xL 1 123 122, xF 2 124 34 19, xN 3 (.sto 1 (.t 124) (.t 123))]
def yl10n : UL | _ => [xF 0 125 36 4, xL 1 126 125, xF 2 127 34 18, xN 3 (.sto 1 (.t 127) (.t 126))]
def yl10p : UL | _ => [xO 6 134 (.fz (.q (.bsl 35 (([xS] : List Value) ++ zU8 ++ [xZ, xZ]) 3 [(0, .t 131), (1, .t 132), (2, .t 133)]))), xQ 7 135 (.build [xS] [(0, 1, .t 134)]), xQ 8 136 (.build [xZ, xS] [(0, 1, .t 130), (1, 1, .t 135)]), xO 9 137 (.fz (.q (.bsl 2 [xZ, xS] 1 [(0, .t 136)]))), xO 10 138 (.app 155 2 32 (.t 128) (.t 137)), xM 11 14 138]
def yl10q : UL | _ => xM 0 128 14 :: xF 1 129 2 17 :: xL 2 130 129 :: xD 3 131 35 18 :: xD 4 132 35 19 :: xD 5 133 35 13 :: hid yl10p
def yl10r : UL | _ => [xM 6 15 144]
def yl10s : UL | _ => xM 0 139 15 :: xF 1 140 0 17 :: xL 2 141 140 :: xQ 3 142 (.build [xZ, xZ] [(0, 1, (xK 3)), (1, 1, .t 141)]) :: xQ 4 143 (.bsl 2 [xZ, xZ] 1 [(0, .t 142)]) :: xO 5 144 (.app 171 2 16 (.t 139) (.t 143)) :: hid yl10r
def yb10u : UB | _ => .seq (reg0 (hid yl10i) 12) (.seq (reg0 (hid yl10k) 11) (.seq (.seq (reg0 [xF 0 118 1 17, xL 1 119 118, xM 2 120 2, xb 3 121 .eql 119 120] 4) (.cond (.t 121) (reg0 (hid yl10m) 4) (reg0 (hid yl10n) 4))) (.seq (reg0 (hid yl10q) 12) (reg0 (hid yl10s) 7))))
def yb10w : UB | _ => .seq (.block 1 (.seq (reg0 (hid yl10g) 7) (hid yb10u))) (reg0 [xM 0 92 16, xc 1 93 .add 92 1, xM 2 16 93] 3)
def b_ROuts_74 : UB | _ => .seq (.seq (reg0 (hid yl10e) 5) (.cond (.t 91) .skip (.exit 0))) (hid yb10w)
def yl10y : UL | _ => [xM 0 145 20, xF 1 146 4 5, xL 2 147 146, xE 3 148 147, xb 4 149 .lss 145 148]
def yl10z : UL | _ => [xL 12 164 163, ⟨13, (some 165), none, (.call 58 [.t 164]), [0, 1, 2, 3, 4, 5, 6]⟩, xQ 14 166 (.build [xZ, xS] [(0, 1, .t 158), (1, 1, .t 165)]), ⟨15, (some 167), none, (.fz (.q (.bsl 2 [xZ, xS] 1 [(0, .t 166)]))), [0]⟩, xO 16 168 (.app 155 2 32 (.t 152) (.t 167)), xM 17 14 168]
def yl110 : UL | _ => xL 6 158 157 :: xF 7 159 4 5 :: xL 8 160 159 :: xM 9 161 20 :: xI 10 162 3 160 161 :: xF 11 163 2 162 :: hid yl10z
def yl111 : UL | _ => xM 0 152 14 :: xF 1 153 4 5 :: xL 2 154 153 :: xM 3 155 20 :: xI 4 156 3 154 155 :: xF 5 157 1 156 :: hid yl110
def yl112 : UL | _ => [xL 6 175 174, xQ 7 176 (.build [xZ, xZ] [(0, 1, (xK 4)), (1, 1, .t 175)]), xQ 8 177 (.bsl 2 [xZ, xZ] 1 [(0, .t 176)]), xO 9 178 (.app 171 2 16 (.t 169) (.t 177)), xM 10 15 178]
def yl113 : UL | _ => xM 0 169 15 :: xF 1 170 4 5 :: xL 2 171 170 :: xM 3 172 20 :: xI 4 173 3 171 172 :: xF 5 174 0 173 :: hid yl112
def b_ROuts_96 : UB | _ => .seq (.seq (reg0 (hid yl10y) 5) (.cond (.t 149) .skip (.exit 2))) (.seq (.block 3 (.seq (reg1 (hid yl111) 18) (reg0 (hid yl113) 11))) (reg0 [xM 0 150 20, xc 1 151 .add 150 1, xM 2 20 151] 3))
def yb118 : UB | _ => .seq (.seq (reg0 [xC 0 16 0] 1) (.block 0 (.loop (hid b_ROuts_74)))) (.seq (.seq (reg0 [xC 0 20 0] 1) (.block 2 (.loop (hid b_ROuts_96)))) (.seq (reg0 [xM 0 179 14, xM 1 180 15, xM 2 8 179, xM 3 9 180] 4) .ret))
def yb119 : UB | _ => .seq (.seq (reg0 (hid yl108) 5) (.cond (.t 71) (.seq (reg1 (hid yl10a) 12) (reg0 (hid yl10b) 5)) .skip)) (hid yb118)
def yb11a : UB | _ => .seq (.seq (reg0 (hid yl102) 4) (.cond (.t 47) (.seq (reg1 (hid yl105) 16) (reg0 (hid yl106) 5)) .skip)) (hid yb119)
def yb11b : UB | _ => .seq (reg0 [xQ 0 14 (.mov (.k xS))] 1) (.seq (reg0 [xQ 0 15 (.mov (.k xS))] 1) (hid yb11a))
def yb11c : UB | _ => .seq (reg0 (hid ylzy) 12) (.seq (reg0 (hid ylzz) 6) (hid yb11b))
def yb11d : UB | _ => .seq (reg0 (hid ylzu) 5) (.seq (reg0 (hid ylzw) 11) (hid yb11c))
attribute [simp] ylzu ylzv ylzw ylzx ylzy ylzz yl102 yl103 yl104 yl105 yl106 yl108 yl109 yl10a yl10b yl10e yl10f yl10g yl10h yl10i yl10j yl10k yl10m yl10n yl10p yl10q yl10r yl10s yb10u yb10w b_ROuts_74 yl10y yl10z yl110 yl111 yl112 yl113 b_ROuts_96 yb118 yb119 yb11a yb11b yb11c yb11d
def c_ROuts : EB × List QOp × Nat := ((hid yb11d), [(.mov (.t 8)), (.mov (.t 9))], 181)
theorem k_ROuts : cfun Tryz.prog 127 = some c_ROuts := by kernel_rfl
theorem rAll_ok (ks : List Int) (h : KeysOK ks) : ECalls Tryz.prog 58 [IL ks] [] fun y H' => H' = [] ∧ y = CNv (allB ks) := by
 obtain ⟨h1, h2, h3, h4, h5, h6⟩ := h
 have := cAll_ok ks h5 (by omega)
 rw [h6] at this
 exact this
def roT (s : Sta) (p : Prm) (o : Int) (lock : List UInt8) (L0 : List Outp) (Q0 : List (Int × Int)) (i : Nat) : List EV := [xA, xA, I .i64 o, xA, Ptr 0, Ptr 1, xA, xA, xA, xA, xA, xA, xA, Ptr 2, .v (.c (.row 3 (L0 ++ outP p o lock (s.pays.take i)).length)), .v (.c (.row 4 (Q0 ++ plcP (s.pays.take i)).length)), I .i64 i, xA, xA, xA, xA, xA, xA, xA, xA, xA, xA, xA, xA, xA, xA, xA, xA, xA, xA, xA, xA, xA, xA, xA, xA, xA, xA, xA, xA, xA, xA, xA, xA, xA, xA, xA, xA, xA, xA, xA, xA, xA, xA, xA, xA, xA, xA, xA, xA, xA, xA, xA, xA, xA, xA, xA, xA, xA, xA, xA, xA, xA, xA, xA, xA, xA, xA, xA, xA, xA, xA, xA, xA, xA, xA, xA, xA, xA, xA, xA, xA, xA, xA, xA, xA, xA, xA, xA, xA, xA, xA, xA, xA, xA, xA, xA, xA, xA, xA, xA, xA, xA, xA, xA, xA, xA, xA, xA, xA, xA, xA, xA, xA, xA, xA, xA, xA, xA, xA, xA, xA, xA, xA, xA, xA, xA, xA, xA, xA, xA, xA, xA, xA, xA, xA, xA, xA, xA, xA, xA, xA, xA, xA, xA, xA, xA, xA, xA, xA, xA, xA, xA, xA, xA, xA, xA, xA, xA, xA, xA, xA, xA, xA, xA, .any]
def roL (s : Sta) (p : Prm) (o : Int) (lock : List UInt8) (L0 : List Outp) (Q0 : List (Int × Int)) (i : Nat) : List (Option EO) := [some (.box 28 (prmC p)), some (.box 35 (staC s)), some (.box 212 (braC ⟨[keyO p (1 - o)], lock, 0, 0⟩)), some (.row 155 2 (outv (L0 ++ outP p o lock (s.pays.take i)))), some (.row 171 2 (plcv (Q0 ++ plcP (s.pays.take i))))]
def rhT (s : Sta) (Li : List Outp) (Qi : List (Int × Int)) (i : Nat) : List EV := [xA, xA, xA, xA, xA, Ptr 0, xA, xA, xA, xA, xA, xA, xA, xA, .v (.c (.row 1 (Li ++ outH (s.holds.take i)).length)), .v (.c (.row 2 (Qi ++ plcH (s.holds.take i)).length)), xA, xA, xA, xA, I .i64 i, xA, xA, xA, xA, xA, xA, xA, xA, xA, xA, xA, xA, xA, xA, xA, xA, xA, xA, xA, xA, xA, xA, xA, xA, xA, xA, xA, xA, xA, xA, xA, xA, xA, xA, xA, xA, xA, xA, xA, xA, xA, xA, xA, xA, xA, xA, xA, xA, xA, xA, xA, xA, xA, xA, xA, xA, xA, xA, xA, xA, xA, xA, xA, xA, xA, xA, xA, xA, xA, xA, xA, xA, xA, xA, xA, xA, xA, xA, xA, xA, xA, xA, xA, xA, xA, xA, xA, xA, xA, xA, xA, xA, xA, xA, xA, xA, xA, xA, xA, xA, xA, xA, xA, xA, xA, xA, xA, xA, xA, xA, xA, xA, xA, xA, xA, xA, xA, xA, xA, xA, xA, xA, xA, xA, xA, xA, xA, xA, xA, xA, xA, xA, xA, xA, xA, xA, xA, xA, xA, xA, xA, xA, xA, xA, xA, xA, xA, xA, xA, xA, xA, xA, xA, xA, xA, xA, xA, xA, xA, .any]
def rhL (s : Sta) (Li : List Outp) (Qi : List (Int × Int)) (i : Nat) : List (Option EO) := [some (.box 35 (staC s)), some (.row 155 2 (outv (Li ++ outH (s.holds.take i)))), some (.row 171 2 (plcv (Qi ++ plcH (s.holds.take i))))]
def roE (s : Sta) (p : Prm) (o : Int) (lock : List UInt8) (L0 : List Outp) (Q0 : List (Int × Int)) (i : Nat) : List EV := [xA, xA, I .i64 o, xA, Ptr 0, Ptr 1, xA, xA, xA, xA, xA, xA, xA, Ptr 2, .v (.c (.row 3 (L0 ++ outP p o lock (s.pays.take i)).length)), .v (.c (.row 4 (Q0 ++ plcP (s.pays.take i)).length)), I .i64 i, xA, xA, xA, xA, xA, xA, xA, xA, xA, xA, xA, xA, xA, xA, xA, xA, xA, xA, xA, xA, xA, xA, xA, xA, xA, xA, xA, xA, xA, xA, xA, xA, xA, xA, xA, xA, xA, xA, xA, xA, xA, xA, xA, xA, xA, xA, xA, xA, xA, xA, xA, xA, xA, xA, xA, xA, xA, xA, xA, xA, xA, xA, xA, xA, xA, xA, xA, xA, xA, xA, I .i64 i, .v (.c (.ptr 1 3)), PL s.pays, I .i64 i, .lit (.bool false), xA, xA, xA, xA, xA, xA, xA, xA, xA, xA, xA, xA, xA, xA, xA, xA, xA, xA, xA, xA, xA, xA, xA, xA, xA, xA, xA, xA, xA, xA, xA, xA, xA, xA, xA, xA, xA, xA, xA, xA, xA, xA, xA, xA, xA, xA, xA, xA, xA, xA, xA, xA, xA, xA, xA, xA, xA, xA, xA, xA, xA, xA, xA, xA, xA, xA, xA, xA, xA, xA, xA, xA, xA, xA, xA, xA, xA, xA, xA, xA, xA, xA, xA, xA, xA, xA, xA, xA, .any]
def rhE (s : Sta) (Li : List Outp) (Qi : List (Int × Int)) (i : Nat) : List EV := [xA, xA, xA, xA, xA, Ptr 0, xA, xA, xA, xA, xA, xA, xA, xA, .v (.c (.row 1 (Li ++ outH (s.holds.take i)).length)), .v (.c (.row 2 (Qi ++ plcH (s.holds.take i)).length)), xA, xA, xA, xA, I .i64 i, xA, xA, xA, xA, xA, xA, xA, xA, xA, xA, xA, xA, xA, xA, xA, xA, xA, xA, xA, xA, xA, xA, xA, xA, xA, xA, xA, xA, xA, xA, xA, xA, xA, xA, xA, xA, xA, xA, xA, xA, xA, xA, xA, xA, xA, xA, xA, xA, xA, xA, xA, xA, xA, xA, xA, xA, xA, xA, xA, xA, xA, xA, xA, xA, xA, xA, xA, xA, xA, xA, xA, xA, xA, xA, xA, xA, xA, xA, xA, xA, xA, xA, xA, xA, xA, xA, xA, xA, xA, xA, xA, xA, xA, xA, xA, xA, xA, xA, xA, xA, xA, xA, xA, xA, xA, xA, xA, xA, xA, xA, xA, xA, xA, xA, xA, xA, xA, xA, xA, xA, xA, xA, xA, xA, I .i64 i, .v (.c (.ptr 0 4)), HL s.holds, I .i64 i, .lit (.bool false), xA, xA, xA, xA, xA, xA, xA, xA, xA, xA, xA, xA, xA, xA, xA, xA, xA, xA, xA, xA, xA, xA, xA, xA, xA, xA, xA, xA, xA, xA, .any]
@[simp] theorem roL_len (s : Sta) (p : Prm) (o : Int) (lock : List UInt8) (L0 : List Outp) (Q0 : List (Int × Int)) (i : Nat) : (roL s p o lock L0 Q0 i).length = 5 := rfl
@[simp] theorem rhL_len (s : Sta) (Li : List Outp) (Qi : List (Int × Int)) (i : Nat) : (rhL s Li Qi i).length = 3 := rfl
set_option maxRecDepth 16000 in
theorem ROutsP (p : Prm) (s : Sta) (o : Int) (lock : List UInt8) (L0 : List Outp) (Q0 : List (Int × Int)) (ho : o = 0 ∨ o = 1) (hp : p.ok) (hl : lock.length = 32) (hs : s.ok) (hn : s.pays.length ≤ 8) (hpay : ∀ x ∈ s.pays, 10 ≤ x.am ∧ (x.fr = 0 ∨ x.fr = 1)) (hL8 : L0.length ≤ 2) (hQ8 : Q0.length ≤ 2)
  (Q : Exit → St → Go.EW.Tok → Prop) (hQ : ∀ n, Q (.exit 0) ⟨roE s p o lock L0 Q0 s.pays.length, ofO (roL s p o lock L0 Q0 s.pays.length), n⟩ .on) :
  LoopT Tryz.prog 0 (hid b_ROuts_74) Q ⟨roT s p o lock L0 Q0 0, ofO (roL s p o lock L0 Q0 0), 5⟩ := by
 have hpo := hp
 have h1 := hp.1
 obtain ⟨ok1, ok2, ok3, ok4, ok5, ok6, ok7⟩ := id hs
 have lp := prmC_len h1
 have tp := pm_take h1
 have e34 := idx_of (pm_at h1 2) (by omega)
 have e35 := idx_of (pm_at h1 3) (by omega)
 have e36 := idx_of (pm_at h1 4) (by omega)
 have lb : ∀ k, (braC (⟨[k], lock, 0, 0⟩ : Bra)).length = 35 := fun k => bc_len hl
 have tkb : ∀ k, (braC (⟨[k], lock, 0, 0⟩ : Bra)).take 35 = braC ⟨[k], lock, 0, 0⟩ := fun k => bc_take hl
 have fb : ∀ k, (braF (⟨[k], lock, 0, 0⟩ : Bra)).length = 35 := fun k => bf_len hl
 refine eloop (α := Nat) (fun i => i ≤ s.pays.length) (fun i => s.pays.length - i) (fun i => roT s p o lock L0 Q0 i) (fun i => roL s p o lock L0 Q0 i) 0 [0, 1, 2, 3, 4]
  (Nat.zero_le _) (by simp [roT, Ptr, I]) (by simp [roL, staC]) (by simp [roL]) (by simp) (by simp) ?_
 intro i hi
 obtain ⟨Li, hLi⟩ : ∃ Li, L0 ++ outP p o lock (s.pays.take i) = Li := ⟨_, rfl⟩
 obtain ⟨Qi, hQi⟩ : ∃ Qi, Q0 ++ plcP (s.pays.take i) = Qi := ⟨_, rfl⟩
 have hlL : Li.length ≤ 20 := by rw [← hLi]; simp [outP]; omega
 have hlQ : Qi.length ≤ 20 := by rw [← hQi]; simp [plcP]; omega
 by_cases hlt : i < s.pays.length
 ·have hln : (i : Int) < s.pays.length := by omega
  obtain ⟨x, hc⟩ : ∃ x, s.pays[i]? = some x := ⟨s.pays[i], by simp [hlt]⟩
  have hge : (payv s.pays)[i]'(by simp [hlt]) = payF x := gE (payv_get hc)
  have hxo := ok4 x (List.mgE hc)
  have hx := hxo.2.2.2.2
  obtain ⟨ham, hfr⟩ := hpay x (List.mgE hc)
  have w1 := wS (i := i) (by omega)
  have hLn : L0 ++ outP p o lock (s.pays.take (i + 1)) = Li ++ [⟨x.am, paidB p o lock x⟩] := by rw [take_s hc, ← hLi]; simp [outP]
  have hQn : Q0 ++ plcP (s.pays.take (i + 1)) = Qi ++ [(3, x.id)] := by rw [take_s hc, ← hQi]; simp [plcP]
  have q1 := congrArg List.length hLn
  have q2 := congrArg List.length hQn
  simp only [List.length_append, List.length_singleton] at q1 q2
  simp only [roT, roL, hLi, hQi]
  obtain ⟨id', fr, am, af, lk⟩ := x
  dsimp only at hfr hx hLn hQn
  rcases hfr with rfl | rfl <;> rcases ho with rfl | rfl
  all_goals
   simp [Ptr, I, staC, keyO, hln, hlt, hge, payF, hx, PVv, SV, staC, I, Ptr, iC, lp, tp, e34, e35, e36, w_0, w_1, hl, hc_t32 hl, take33h, take32h, drop32h, drop33h, drop34h, take33l hl, drop34l hl, take34l hl, hz_len, frzAll_hc, hc_t32 hx, take33l hx, drop34l hx, take34l hx, take34l hz_len, lb, tkb, fb]
   refine ⟨⟨by omega, by omega⟩, ⟨by omega, by omega⟩, ?_⟩
   try simp [w1, -Int.natCast_add]
   refine round (i + 1) [0, 1, 2, 853, 965] (by omega) (by omega) (by simp [roT, Ptr, I, q1, q2]) ?_ (by simp [roL]) (by simp) (by simp)
   rw [hLn, hQn]
   simp [q1, q2, w1, -Int.natCast_add, staC]
   simp [outv, outF, brav, braF, ownB, paidB, waitV, fineB, keyO, intv, iF, plcv, plcF]
 ·have hil : i = s.pays.length := by omega
  subst hil
  simp [roT, roL, Ptr, I, staC]
  refine cast ?_ (hQ 85)
  simp [roE, roL, Ptr, I, staC, PL]
set_option maxRecDepth 16000 in
theorem ROutsH (s : Sta) (Li : List Outp) (Qi : List (Int × Int)) (hs : s.ok) (hn : s.holds.length ≤ 8) (hhol : ∀ h ∈ s.holds, KeysOK h.keys) (hlL : Li.length ≤ 20) (hlQ : Qi.length ≤ 20)
  (Q : Exit → St → Go.EW.Tok → Prop) (hQ : ∀ n, Q (.exit 2) ⟨rhE s Li Qi s.holds.length, ofO (rhL s Li Qi s.holds.length), n⟩ .on) :
  LoopT Tryz.prog 0 (hid b_ROuts_96) Q ⟨rhT s Li Qi 0, ofO (rhL s Li Qi 0), 3⟩ := by
 refine eloop (α := Nat) (fun i => i ≤ s.holds.length) (fun i => s.holds.length - i) (fun i => rhT s Li Qi i) (fun i => rhL s Li Qi i) 0 [0, 1, 2]
  (Nat.zero_le _) (by simp [rhT, Ptr, I]) (by simp [rhL, staC]) (by simp [rhL]) (by simp) (by simp) ?_
 intro i hi
 obtain ⟨Lj, hLj⟩ : ∃ Lj, Li ++ outH (s.holds.take i) = Lj := ⟨_, rfl⟩
 obtain ⟨Qj, hQj⟩ : ∃ Qj, Qi ++ plcH (s.holds.take i) = Qj := ⟨_, rfl⟩
 have hlL2 : Lj.length ≤ 40 := by rw [← hLj]; simp [outH]; omega
 have hlQ2 : Qj.length ≤ 40 := by rw [← hQj]; simp [plcH]; omega
 by_cases hlt : i < s.holds.length
 ·have hln : (i : Int) < s.holds.length := by omega
  obtain ⟨x, hc⟩ : ∃ x, s.holds[i]? = some x := ⟨s.holds[i], by simp [hlt]⟩
  have hge : (holv s.holds)[i]'(by simp [hlt]) = holF x := gE (holv_get hc)
  have hk := hhol x (List.mgE hc)
  have w1 := wS (i := i) (by omega)
  have hLn : Li ++ outH (s.holds.take (i + 1)) = Lj ++ [⟨x.am, allB x.keys⟩] := by rw [take_s hc, ← hLj]; simp [outH]
  have hQn : Qi ++ plcH (s.holds.take (i + 1)) = Qj ++ [(4, x.id)] := by rw [take_s hc, ← hQj]; simp [plcH]
  simp only [rhT, rhL, hLj, hQj]
  simp [Ptr, I, staC, hln, hlt, hge, holF]
  refine call0 (rAll_ok x.keys hk) (by simp [IL]) ?_
  rintro y H' ⟨rfl, rfl⟩
  refine ⟨.inl (by simp [CNv]), le_ok rfl, ?_⟩
  simp [CNv, hln, hlt, hge, holF]
  refine ⟨⟨by omega, by omega⟩, ⟨by omega, by omega⟩, ?_⟩
  try simp [w1, -Int.natCast_add]
  have q1 := congrArg List.length hLn
  have q2 := congrArg List.length hQn
  simp only [List.length_append, List.length_singleton] at q1 q2
  have hol : outv Lj ++ [[FV.lit (Value.int IntKind.i64 x.am), FV.sl 35 (brav (allB x.keys))]] = outv (Lj ++ [⟨x.am, allB x.keys⟩]) := by simp [outv, outF, iF]
  have hpl : plcv Qj ++ [[FV.lit (Value.int IntKind.i64 4), FV.lit (Value.int IntKind.i64 x.id)]] = plcv (Qj ++ [(4, x.id)]) := by simp [plcv, plcF, iF]
  refine round (i + 1) [0, 339, 515] (by omega) (by omega) (by simp [rhT, Ptr, I, q1, q2]) ?_ (by simp [rhL]) (by simp) (by simp)
  rw [hLn, hQn]
  simp [q1, q2, hol, hpl, staC]
 ·have hil : i = s.holds.length := by omega
  subst hil
  simp [rhT, rhL, Ptr, I, staC]
  refine cast ?_ (hQ 83)
  simp [rhE, rhL, Ptr, I, staC, HL]
set_option maxRecDepth 16000 in
theorem ROuts_0 (p : Prm) (s : Sta) (lock : List UInt8) (hp : p.ok) (hl : lock.length = 32) (hs : s.ok) (hw : i64 (s.h0 - p.fe)) (hn : s.pays.length ≤ 8 ∧ s.holds.length ≤ 8) (hpay : ∀ x ∈ s.pays, 10 ≤ x.am ∧ (x.fr = 0 ∨ x.fr = 1)) (hhol : ∀ h ∈ s.holds, KeysOK h.keys) :
  ECalls Tryz.prog 127 [PVv p, SV s, I .i64 0, .v (.agg (hc lock))] [] fun y H' => H' = [] ∧ y = .tup [.c (.fz (.sl 2 (outv (outsB p s 0 lock)))), .c (.fz (.sl 2 (plcv (plcB p s 0))))] := by
 have h1 := hp.1
 have lp := prmC_len h1
 have tp := pm_take h1
 have e34 := idx_of (pm_at h1 2) (by omega)
 have e35 := idx_of (pm_at h1 3) (by omega)
 have e36 := idx_of (pm_at h1 4) (by omega)
 have e37 := idx_of (pm_at h1 5) (by omega)
 have wh : IntKind.i64.wrap (s.h0 - p.fe) = s.h0 - p.fe := by unfold i64 at hw; exact wrap_i64 (by omega) (by omega)
 obtain ⟨L0, hL0⟩ : ∃ L0, out1 p s 0 lock ++ out2 p s 0 = L0 := ⟨_, rfl⟩
 obtain ⟨Q0, hQ0⟩ : ∃ Q0, plc1 p s 0 ++ plc2 p s 0 = Q0 := ⟨_, rfl⟩
 have hL8 : L0.length ≤ 2 := by rw [← hL0]; unfold out1 out2; split <;> split <;> simp
 have hQ8 : Q0.length ≤ 2 := by rw [← hQ0]; unfold plc1 plc2; split <;> split <;> simp
 have hvL : outsB p s 0 lock = L0 ++ (outP p 0 lock s.pays ++ outH s.holds) := by rw [← hL0]; rfl
 have hvQ : plcB p s 0 = Q0 ++ (plcP s.pays ++ plcH s.holds) := by rw [← hQ0]; rfl
 refine ecalls k_ROuts ?_
 simp [c_ROuts, PVv, SV, staC, I, Ptr, iC, lp, tp, e34, e35, e36, e37, w_0, w_1, wh, hl, hc_t32 hl, take33h, take32h, drop32h, drop33h, drop34h, take33l hl, drop34l hl, take34l hl, hz_len, frzAll_hc]
 simp only [bfold]
 have lb := bc_len (b := (⟨[p.k1], lock, 0, 0⟩ : Bra)) hl
 have tkb := bc_take (b := (⟨[p.k1], lock, 0, 0⟩ : Bra)) hl
 have fb := bf_len (b := (⟨[p.k1], lock, 0, 0⟩ : Bra)) hl
 have lo := bf_len (b := (⟨[p.k0], hz, 0, p.dl⟩ : Bra)) hz_len
 by_cases c0 : 10 ≤ s.h0 - p.fe <;> by_cases c1 : 10 ≤ s.h1
 have hL1 : L0 = ([⟨s.h0 - p.fe, ownB p 0 lock⟩] ++ [⟨s.h1, allB [p.k1]⟩] : List Outp) := by rw [← hL0, show out1 p s 0 lock = [⟨s.h0 - p.fe, ownB p 0 lock⟩] from if_pos c0, show out2 p s 0 = [⟨s.h1, allB [p.k1]⟩] from if_pos c1]
 have hQ1 : Q0 = ([(1, 0)] ++ [(2, 0)] : List (Int × Int)) := by rw [← hQ0, show plc1 p s 0 = [(1, 0)] from if_pos c0, show plc2 p s 0 = [(2, 0)] from if_pos c1]
 simp [c0, PVv, SV, staC, I, Ptr, iC, lp, tp, e34, e35, e36, e37, w_0, w_1, wh, hl, hc_t32 hl, take33h, take32h, drop32h, drop33h, drop34h, take33l hl, drop34l hl, take34l hl, hz_len, frzAll_hc, lb, tkb, fb, lo]
 simp [c1, PVv, SV, staC, I, Ptr, iC, lp, tp, e34, e35, e36, e37, w_0, w_1, wh, hl, hc_t32 hl, take33h, take32h, drop32h, drop33h, drop34h, take33l hl, drop34l hl, take34l hl, hz_len, frzAll_hc]
 refine call0 (rAll_ok [p.k1] (keys_one _).1) (by simp [IL, intv, PVv, SV, staC, I, Ptr, iC, lp, tp, e34, e35, e36, e37, w_0, w_1, wh, hl, hc_t32 hl, take33h, take32h, drop32h, drop33h, drop34h, take33l hl, drop34l hl, take34l hl, hz_len, frzAll_hc]) ?_
 rintro y H' ⟨rfl, rfl⟩
 refine ⟨.inl (by simp [CNv]), le_ok rfl, ?_⟩
 simp [CNv, PVv, SV, staC, I, Ptr, iC, lp, tp, e34, e35, e36, e37, w_0, w_1, wh, hl, hc_t32 hl, take33h, take32h, drop32h, drop33h, drop34h, take33l hl, drop34l hl, take34l hl, hz_len, frzAll_hc]
 refine loopW _ (weak_norm [0, 16, 512, 1216, 1296] (roT s p 0 lock L0 Q0 0) (roL s p 0 lock L0 Q0 0) (by simp [roT, Ptr, I, outP, plcP, hL1, hQ1]) (by simp [roL, outv, outF, brav, braF, ownB, paidB, waitV, fineB, keyO, intv, iF, plcv, plcF, outP, plcP, staC, hL1, hQ1]) (by simp [roL]) (by simp) (by simp)) ?_
 refine ROutsP p s 0 lock L0 Q0 (by simp) hp hl hs hn.1 hpay hL8 hQ8 _ ?_
 rotate_left 1
 have hL1 : L0 = ([⟨s.h0 - p.fe, ownB p 0 lock⟩] ++ [] : List Outp) := by rw [← hL0, show out1 p s 0 lock = [⟨s.h0 - p.fe, ownB p 0 lock⟩] from if_pos c0, show out2 p s 0 = [] from if_neg c1]
 have hQ1 : Q0 = ([(1, 0)] ++ [] : List (Int × Int)) := by rw [← hQ0, show plc1 p s 0 = [(1, 0)] from if_pos c0, show plc2 p s 0 = [] from if_neg c1]
 simp [c0, PVv, SV, staC, I, Ptr, iC, lp, tp, e34, e35, e36, e37, w_0, w_1, wh, hl, hc_t32 hl, take33h, take32h, drop32h, drop33h, drop34h, take33l hl, drop34l hl, take34l hl, hz_len, frzAll_hc, lb, tkb, fb, lo]
 simp [c1, PVv, SV, staC, I, Ptr, iC, lp, tp, e34, e35, e36, e37, w_0, w_1, wh, hl, hc_t32 hl, take33h, take32h, drop32h, drop33h, drop34h, take33l hl, drop34l hl, take34l hl, hz_len, frzAll_hc]
 refine loopW _ (weak_norm [0, 16, 512, 864, 944] (roT s p 0 lock L0 Q0 0) (roL s p 0 lock L0 Q0 0) (by simp [roT, Ptr, I, outP, plcP, hL1, hQ1]) (by simp [roL, outv, outF, brav, braF, ownB, paidB, waitV, fineB, keyO, intv, iF, plcv, plcF, outP, plcP, staC, hL1, hQ1]) (by simp [roL]) (by simp) (by simp)) ?_
 refine ROutsP p s 0 lock L0 Q0 (by simp) hp hl hs hn.1 hpay hL8 hQ8 _ ?_
 rotate_left 1
 have hL1 : L0 = ([] ++ [⟨s.h1, allB [p.k1]⟩] : List Outp) := by rw [← hL0, show out1 p s 0 lock = [] from if_neg c0, show out2 p s 0 = [⟨s.h1, allB [p.k1]⟩] from if_pos c1]
 have hQ1 : Q0 = ([] ++ [(2, 0)] : List (Int × Int)) := by rw [← hQ0, show plc1 p s 0 = [] from if_neg c0, show plc2 p s 0 = [(2, 0)] from if_pos c1]
 simp [c0, PVv, SV, staC, I, Ptr, iC, lp, tp, e34, e35, e36, e37, w_0, w_1, wh, hl, hc_t32 hl, take33h, take32h, drop32h, drop33h, drop34h, take33l hl, drop34l hl, take34l hl, hz_len, frzAll_hc, lb, tkb, fb, lo]
 simp [c1, PVv, SV, staC, I, Ptr, iC, lp, tp, e34, e35, e36, e37, w_0, w_1, wh, hl, hc_t32 hl, take33h, take32h, drop32h, drop33h, drop34h, take33l hl, drop34l hl, take34l hl, hz_len, frzAll_hc]
 refine call0 (rAll_ok [p.k1] (keys_one _).1) (by simp [IL, intv, PVv, SV, staC, I, Ptr, iC, lp, tp, e34, e35, e36, e37, w_0, w_1, wh, hl, hc_t32 hl, take33h, take32h, drop32h, drop33h, drop34h, take33l hl, drop34l hl, take34l hl, hz_len, frzAll_hc]) ?_
 rintro y H' ⟨rfl, rfl⟩
 refine ⟨.inl (by simp [CNv]), le_ok rfl, ?_⟩
 simp [CNv, PVv, SV, staC, I, Ptr, iC, lp, tp, e34, e35, e36, e37, w_0, w_1, wh, hl, hc_t32 hl, take33h, take32h, drop32h, drop33h, drop34h, take33l hl, drop34l hl, take34l hl, hz_len, frzAll_hc]
 refine loopW _ (weak_norm [0, 16, 512, 880, 960] (roT s p 0 lock L0 Q0 0) (roL s p 0 lock L0 Q0 0) (by simp [roT, Ptr, I, outP, plcP, hL1, hQ1]) (by simp [roL, outv, outF, brav, braF, ownB, paidB, waitV, fineB, keyO, intv, iF, plcv, plcF, outP, plcP, staC, hL1, hQ1]) (by simp [roL]) (by simp) (by simp)) ?_
 refine ROutsP p s 0 lock L0 Q0 (by simp) hp hl hs hn.1 hpay hL8 hQ8 _ ?_
 rotate_left 1
 have hL1 : L0 = ([] ++ [] : List Outp) := by rw [← hL0, show out1 p s 0 lock = [] from if_neg c0, show out2 p s 0 = [] from if_neg c1]
 have hQ1 : Q0 = ([] ++ [] : List (Int × Int)) := by rw [← hQ0, show plc1 p s 0 = [] from if_neg c0, show plc2 p s 0 = [] from if_neg c1]
 simp [c0, PVv, SV, staC, I, Ptr, iC, lp, tp, e34, e35, e36, e37, w_0, w_1, wh, hl, hc_t32 hl, take33h, take32h, drop32h, drop33h, drop34h, take33l hl, drop34l hl, take34l hl, hz_len, frzAll_hc, lb, tkb, fb, lo]
 simp [c1, PVv, SV, staC, I, Ptr, iC, lp, tp, e34, e35, e36, e37, w_0, w_1, wh, hl, hc_t32 hl, take33h, take32h, drop32h, drop33h, drop34h, take33l hl, drop34l hl, take34l hl, hz_len, frzAll_hc]
 refine loopW _ (weak_nilR 14 155 2 rfl (by omega)) (loopW _ (weak_nilR 15 171 2 rfl (by omega)) ?_)
 refine loopW _ (weak_norm [0, 16, 512, 736, 737] (roT s p 0 lock L0 Q0 0) (roL s p 0 lock L0 Q0 0) (by simp [roT, Ptr, I, outP, plcP, hL1, hQ1]) (by simp [roL, outv, outF, brav, braF, ownB, paidB, waitV, fineB, keyO, intv, iF, plcv, plcF, outP, plcP, staC, hL1, hQ1]) (by simp [roL]) (by simp) (by simp)) ?_
 refine ROutsP p s 0 lock L0 Q0 (by simp) hp hl hs hn.1 hpay hL8 hQ8 _ ?_
 rotate_left 1
 all_goals
  intro n
  obtain ⟨Li, hLi⟩ : ∃ Li, L0 ++ outP p 0 lock s.pays = Li := ⟨_, rfl⟩
  obtain ⟨Qi, hQi⟩ : ∃ Qi, Q0 ++ plcP s.pays = Qi := ⟨_, rfl⟩
  have hlL : Li.length ≤ 20 := by rw [← hLi]; simp [outP]; omega
  have hlQ : Qi.length ≤ 20 := by rw [← hQi]; simp [plcP]; omega
  simp [roE, roL, hLi, hQi, Ptr, I, staC]
  refine loopW _ (weak_norm [1, 3, 4] (rhT s Li Qi 0) (rhL s Li Qi 0) (by simp [rhT, Ptr, I, outH, plcH]) (by simp [rhL, outH, plcH, staC]) (by simp [rhL]) (by simp) (by simp)) ?_
  refine ROutsH s Li Qi hs hn.2 hhol hlL hlQ _ ?_
  intro n
  have hL9 : outsB p s 0 lock = Li ++ outH s.holds := by rw [hvL, ← hLi, List.append_assoc]
  have hQ9 : plcB p s 0 = Qi ++ plcH s.holds := by rw [hvQ, ← hQi, List.append_assoc]
  obtain ⟨Lj, hLj⟩ : ∃ Lj, Li ++ outH s.holds = Lj := ⟨_, rfl⟩
  obtain ⟨Qj, hQj⟩ : ∃ Qj, Qi ++ plcH s.holds = Qj := ⟨_, rfl⟩
  rw [hL9, hQ9, hLj, hQj]
  simp [rhE, rhL, hLj, hQj, Ptr, I, staC]
  refine finW _ (weak_frz (o := 1) (ty := 155) (es := 2) (xs := outv Lj) rfl) ?_
  refine finW _ (weak_frz (o := 2) (ty := 171) (es := 2) (xs := plcv Qj) rfl) ?_
  refine fin [] (by decide) rfl rfl rfl ⟨rfl, ?_⟩
  simp [List.tkL]
set_option maxRecDepth 16000 in
theorem ROuts_1 (p : Prm) (s : Sta) (lock : List UInt8) (hp : p.ok) (hl : lock.length = 32) (hs : s.ok) (hw : i64 (s.h0 - p.fe)) (hn : s.pays.length ≤ 8 ∧ s.holds.length ≤ 8) (hpay : ∀ x ∈ s.pays, 10 ≤ x.am ∧ (x.fr = 0 ∨ x.fr = 1)) (hhol : ∀ h ∈ s.holds, KeysOK h.keys) :
  ECalls Tryz.prog 127 [PVv p, SV s, I .i64 1, .v (.agg (hc lock))] [] fun y H' => H' = [] ∧ y = .tup [.c (.fz (.sl 2 (outv (outsB p s 1 lock)))), .c (.fz (.sl 2 (plcv (plcB p s 1))))] := by
 have h1 := hp.1
 have lp := prmC_len h1
 have tp := pm_take h1
 have e34 := idx_of (pm_at h1 2) (by omega)
 have e35 := idx_of (pm_at h1 3) (by omega)
 have e36 := idx_of (pm_at h1 4) (by omega)
 have e37 := idx_of (pm_at h1 5) (by omega)
 have wh : IntKind.i64.wrap (s.h0 - p.fe) = s.h0 - p.fe := by unfold i64 at hw; exact wrap_i64 (by omega) (by omega)
 obtain ⟨L0, hL0⟩ : ∃ L0, out1 p s 1 lock ++ out2 p s 1 = L0 := ⟨_, rfl⟩
 obtain ⟨Q0, hQ0⟩ : ∃ Q0, plc1 p s 1 ++ plc2 p s 1 = Q0 := ⟨_, rfl⟩
 have hL8 : L0.length ≤ 2 := by rw [← hL0]; unfold out1 out2; split <;> split <;> simp
 have hQ8 : Q0.length ≤ 2 := by rw [← hQ0]; unfold plc1 plc2; split <;> split <;> simp
 have hvL : outsB p s 1 lock = L0 ++ (outP p 1 lock s.pays ++ outH s.holds) := by rw [← hL0]; rfl
 have hvQ : plcB p s 1 = Q0 ++ (plcP s.pays ++ plcH s.holds) := by rw [← hQ0]; rfl
 refine ecalls k_ROuts ?_
 simp [c_ROuts, PVv, SV, staC, I, Ptr, iC, lp, tp, e34, e35, e36, e37, w_0, w_1, wh, hl, hc_t32 hl, take33h, take32h, drop32h, drop33h, drop34h, take33l hl, drop34l hl, take34l hl, hz_len, frzAll_hc]
 simp only [bfold]
 have lb := bc_len (b := (⟨[p.k0], lock, 0, 0⟩ : Bra)) hl
 have tkb := bc_take (b := (⟨[p.k0], lock, 0, 0⟩ : Bra)) hl
 have fb := bf_len (b := (⟨[p.k0], lock, 0, 0⟩ : Bra)) hl
 have lo := bf_len (b := (⟨[p.k1], hz, 0, p.dl⟩ : Bra)) hz_len
 by_cases c0 : 10 ≤ s.h1 <;> by_cases c1 : 10 ≤ s.h0 - p.fe
 have hL1 : L0 = ([⟨s.h1, ownB p 1 lock⟩] ++ [⟨s.h0 - p.fe, allB [p.k0]⟩] : List Outp) := by rw [← hL0, show out1 p s 1 lock = [⟨s.h1, ownB p 1 lock⟩] from if_pos c0, show out2 p s 1 = [⟨s.h0 - p.fe, allB [p.k0]⟩] from if_pos c1]
 have hQ1 : Q0 = ([(1, 0)] ++ [(2, 0)] : List (Int × Int)) := by rw [← hQ0, show plc1 p s 1 = [(1, 0)] from if_pos c0, show plc2 p s 1 = [(2, 0)] from if_pos c1]
 simp [c0, PVv, SV, staC, I, Ptr, iC, lp, tp, e34, e35, e36, e37, w_0, w_1, wh, hl, hc_t32 hl, take33h, take32h, drop32h, drop33h, drop34h, take33l hl, drop34l hl, take34l hl, hz_len, frzAll_hc, lb, tkb, fb, lo]
 simp [c1, PVv, SV, staC, I, Ptr, iC, lp, tp, e34, e35, e36, e37, w_0, w_1, wh, hl, hc_t32 hl, take33h, take32h, drop32h, drop33h, drop34h, take33l hl, drop34l hl, take34l hl, hz_len, frzAll_hc]
 refine call0 (rAll_ok [p.k0] (keys_one _).1) (by simp [IL, intv, PVv, SV, staC, I, Ptr, iC, lp, tp, e34, e35, e36, e37, w_0, w_1, wh, hl, hc_t32 hl, take33h, take32h, drop32h, drop33h, drop34h, take33l hl, drop34l hl, take34l hl, hz_len, frzAll_hc]) ?_
 rintro y H' ⟨rfl, rfl⟩
 refine ⟨.inl (by simp [CNv]), le_ok rfl, ?_⟩
 simp [CNv, PVv, SV, staC, I, Ptr, iC, lp, tp, e34, e35, e36, e37, w_0, w_1, wh, hl, hc_t32 hl, take33h, take32h, drop32h, drop33h, drop34h, take33l hl, drop34l hl, take34l hl, hz_len, frzAll_hc]
 refine loopW _ (weak_norm [0, 16, 512, 1216, 1296] (roT s p 1 lock L0 Q0 0) (roL s p 1 lock L0 Q0 0) (by simp [roT, Ptr, I, outP, plcP, hL1, hQ1]) (by simp [roL, outv, outF, brav, braF, ownB, paidB, waitV, fineB, keyO, intv, iF, plcv, plcF, outP, plcP, staC, hL1, hQ1]) (by simp [roL]) (by simp) (by simp)) ?_
 refine ROutsP p s 1 lock L0 Q0 (by simp) hp hl hs hn.1 hpay hL8 hQ8 _ ?_
 rotate_left 1
 have hL1 : L0 = ([⟨s.h1, ownB p 1 lock⟩] ++ [] : List Outp) := by rw [← hL0, show out1 p s 1 lock = [⟨s.h1, ownB p 1 lock⟩] from if_pos c0, show out2 p s 1 = [] from if_neg c1]
 have hQ1 : Q0 = ([(1, 0)] ++ [] : List (Int × Int)) := by rw [← hQ0, show plc1 p s 1 = [(1, 0)] from if_pos c0, show plc2 p s 1 = [] from if_neg c1]
 simp [c0, PVv, SV, staC, I, Ptr, iC, lp, tp, e34, e35, e36, e37, w_0, w_1, wh, hl, hc_t32 hl, take33h, take32h, drop32h, drop33h, drop34h, take33l hl, drop34l hl, take34l hl, hz_len, frzAll_hc, lb, tkb, fb, lo]
 simp [c1, PVv, SV, staC, I, Ptr, iC, lp, tp, e34, e35, e36, e37, w_0, w_1, wh, hl, hc_t32 hl, take33h, take32h, drop32h, drop33h, drop34h, take33l hl, drop34l hl, take34l hl, hz_len, frzAll_hc]
 refine loopW _ (weak_norm [0, 16, 512, 864, 944] (roT s p 1 lock L0 Q0 0) (roL s p 1 lock L0 Q0 0) (by simp [roT, Ptr, I, outP, plcP, hL1, hQ1]) (by simp [roL, outv, outF, brav, braF, ownB, paidB, waitV, fineB, keyO, intv, iF, plcv, plcF, outP, plcP, staC, hL1, hQ1]) (by simp [roL]) (by simp) (by simp)) ?_
 refine ROutsP p s 1 lock L0 Q0 (by simp) hp hl hs hn.1 hpay hL8 hQ8 _ ?_
 rotate_left 1
 have hL1 : L0 = ([] ++ [⟨s.h0 - p.fe, allB [p.k0]⟩] : List Outp) := by rw [← hL0, show out1 p s 1 lock = [] from if_neg c0, show out2 p s 1 = [⟨s.h0 - p.fe, allB [p.k0]⟩] from if_pos c1]
 have hQ1 : Q0 = ([] ++ [(2, 0)] : List (Int × Int)) := by rw [← hQ0, show plc1 p s 1 = [] from if_neg c0, show plc2 p s 1 = [(2, 0)] from if_pos c1]
 simp [c0, PVv, SV, staC, I, Ptr, iC, lp, tp, e34, e35, e36, e37, w_0, w_1, wh, hl, hc_t32 hl, take33h, take32h, drop32h, drop33h, drop34h, take33l hl, drop34l hl, take34l hl, hz_len, frzAll_hc, lb, tkb, fb, lo]
 simp [c1, PVv, SV, staC, I, Ptr, iC, lp, tp, e34, e35, e36, e37, w_0, w_1, wh, hl, hc_t32 hl, take33h, take32h, drop32h, drop33h, drop34h, take33l hl, drop34l hl, take34l hl, hz_len, frzAll_hc]
 refine call0 (rAll_ok [p.k0] (keys_one _).1) (by simp [IL, intv, PVv, SV, staC, I, Ptr, iC, lp, tp, e34, e35, e36, e37, w_0, w_1, wh, hl, hc_t32 hl, take33h, take32h, drop32h, drop33h, drop34h, take33l hl, drop34l hl, take34l hl, hz_len, frzAll_hc]) ?_
 rintro y H' ⟨rfl, rfl⟩
 refine ⟨.inl (by simp [CNv]), le_ok rfl, ?_⟩
 simp [CNv, PVv, SV, staC, I, Ptr, iC, lp, tp, e34, e35, e36, e37, w_0, w_1, wh, hl, hc_t32 hl, take33h, take32h, drop32h, drop33h, drop34h, take33l hl, drop34l hl, take34l hl, hz_len, frzAll_hc]
 refine loopW _ (weak_norm [0, 16, 512, 880, 960] (roT s p 1 lock L0 Q0 0) (roL s p 1 lock L0 Q0 0) (by simp [roT, Ptr, I, outP, plcP, hL1, hQ1]) (by simp [roL, outv, outF, brav, braF, ownB, paidB, waitV, fineB, keyO, intv, iF, plcv, plcF, outP, plcP, staC, hL1, hQ1]) (by simp [roL]) (by simp) (by simp)) ?_
 refine ROutsP p s 1 lock L0 Q0 (by simp) hp hl hs hn.1 hpay hL8 hQ8 _ ?_
 rotate_left 1
 have hL1 : L0 = ([] ++ [] : List Outp) := by rw [← hL0, show out1 p s 1 lock = [] from if_neg c0, show out2 p s 1 = [] from if_neg c1]
 have hQ1 : Q0 = ([] ++ [] : List (Int × Int)) := by rw [← hQ0, show plc1 p s 1 = [] from if_neg c0, show plc2 p s 1 = [] from if_neg c1]
 simp [c0, PVv, SV, staC, I, Ptr, iC, lp, tp, e34, e35, e36, e37, w_0, w_1, wh, hl, hc_t32 hl, take33h, take32h, drop32h, drop33h, drop34h, take33l hl, drop34l hl, take34l hl, hz_len, frzAll_hc, lb, tkb, fb, lo]
 simp [c1, PVv, SV, staC, I, Ptr, iC, lp, tp, e34, e35, e36, e37, w_0, w_1, wh, hl, hc_t32 hl, take33h, take32h, drop32h, drop33h, drop34h, take33l hl, drop34l hl, take34l hl, hz_len, frzAll_hc]
 refine loopW _ (weak_nilR 14 155 2 rfl (by omega)) (loopW _ (weak_nilR 15 171 2 rfl (by omega)) ?_)
 refine loopW _ (weak_norm [0, 16, 512, 736, 737] (roT s p 1 lock L0 Q0 0) (roL s p 1 lock L0 Q0 0) (by simp [roT, Ptr, I, outP, plcP, hL1, hQ1]) (by simp [roL, outv, outF, brav, braF, ownB, paidB, waitV, fineB, keyO, intv, iF, plcv, plcF, outP, plcP, staC, hL1, hQ1]) (by simp [roL]) (by simp) (by simp)) ?_
 refine ROutsP p s 1 lock L0 Q0 (by simp) hp hl hs hn.1 hpay hL8 hQ8 _ ?_
 rotate_left 1
 all_goals
  intro n
  obtain ⟨Li, hLi⟩ : ∃ Li, L0 ++ outP p 1 lock s.pays = Li := ⟨_, rfl⟩
  obtain ⟨Qi, hQi⟩ : ∃ Qi, Q0 ++ plcP s.pays = Qi := ⟨_, rfl⟩
  have hlL : Li.length ≤ 20 := by rw [← hLi]; simp [outP]; omega
  have hlQ : Qi.length ≤ 20 := by rw [← hQi]; simp [plcP]; omega
  simp [roE, roL, hLi, hQi, Ptr, I, staC]
  refine loopW _ (weak_norm [1, 3, 4] (rhT s Li Qi 0) (rhL s Li Qi 0) (by simp [rhT, Ptr, I, outH, plcH]) (by simp [rhL, outH, plcH, staC]) (by simp [rhL]) (by simp) (by simp)) ?_
  refine ROutsH s Li Qi hs hn.2 hhol hlL hlQ _ ?_
  intro n
  have hL9 : outsB p s 1 lock = Li ++ outH s.holds := by rw [hvL, ← hLi, List.append_assoc]
  have hQ9 : plcB p s 1 = Qi ++ plcH s.holds := by rw [hvQ, ← hQi, List.append_assoc]
  obtain ⟨Lj, hLj⟩ : ∃ Lj, Li ++ outH s.holds = Lj := ⟨_, rfl⟩
  obtain ⟨Qj, hQj⟩ : ∃ Qj, Qi ++ plcH s.holds = Qj := ⟨_, rfl⟩
  rw [hL9, hQ9, hLj, hQj]
  simp [rhE, rhL, hLj, hQj, Ptr, I, staC]
  refine finW _ (weak_frz (o := 1) (ty := 155) (es := 2) (xs := outv Lj) rfl) ?_
  refine finW _ (weak_frz (o := 2) (ty := 171) (es := 2) (xs := plcv Qj) rfl) ?_
  refine fin [] (by decide) rfl rfl rfl ⟨rfl, ?_⟩
  simp [List.tkL]
def yl11f : UL | _ => [xD 0 11 38 3, xD 1 12 5 4, xO 2 13 (.call 126 [.t 11, .t 12]), xM 3 8 13]
def yl11j : UL | _ => [xM 0 17 2, xc 1 18 .lss 17 0, xM 2 19 18, yM 3 20 19 false 2, xG 4 21 19 false (.bin .gtr (.t 20) (xK 1)), xP 5 22 19 21]
def yl11m : UL | _ => [xX 6 29 0 23, xX 7 30 1 23, xM 8 9 29, xM 9 10 30]
def yl11n : UL | _ => xD 0 24 38 3 :: xD 1 25 5 4 :: xM 2 26 2 :: xQ 3 27 (.build zU8 []) :: xO 4 28 (.call 127 [.t 24, .t 25, .t 26, .t 27]) :: xM 5 23 28 :: hid yl11m
def yb11p : UB | _ => .seq (reg0 (hid yl11n) 10) (.seq (reg0 [xM 0 31 10, xM 1 6 31, xC 2 7 0] 3) .ret)
def yb11q : UB | _ => .seq (reg0 (hid yl11f) 4) (.seq (.seq (reg0 [xM 0 14 8, xc 1 15 .neq 14 0] 2) (.cond (.t 15) (.seq (reg0 [xM 0 16 8, xQ 1 6 (.mov (.k xS)), xM 2 7 16] 3) .ret) .skip)) (.seq (.seq (reg0 (hid yl11j) 6) (.cond (.t 22) (.seq (reg0 [xQ 0 6 (.mov (.k xS)), xC 1 7 1] 2) .ret) .skip)) (hid yb11p)))
def yb11r : UB | _ => .seq (reg0 [xW 0 3 28 0, xW 1 4 35 1, xQ 2 6 (.mov (.k xS)), xC 3 7 0] 4) (hid yb11q)
attribute [simp] yl11f yl11j yl11m yl11n yb11p yb11q yb11r
def c_RPlaces : EB × List QOp × Nat := ((hid yb11r), [(.mov (.t 6)), (.mov (.t 7))], 32)
theorem k_RPlaces : cfun Tryz.prog 66 = some c_RPlaces := by kernel_rfl
def yl11v : UL | _ => [xQ 0 9 (.build [xZ, xS, xS] []), xM 1 10 4, xN 2 (.fz (.sto 3 (.t 2) (.t 9))), xM 3 3 10]
def yb11y : UB | _ => .seq (reg0 [xD 0 5 3 1, xO 1 6 (.call 59 [.t 5]), xM 2 4 6] 3) (.seq (.seq (reg0 [xM 0 7 4, xc 1 8 .neq 7 0] 2) (.cond (.t 8) (.seq (reg0 (hid yl11v) 4) .ret) .skip)) (.seq (reg0 [xD 0 11 3 1, xN 1 (.fz (.sto 3 (.t 2) (.t 11))), xC 2 3 0] 3) .ret))
def yb11z : UB | _ => .seq (reg0 [xW 0 1 77 0, xQ 1 2 (.alloc 77 [xZ, xS, xS]), xC 2 3 0] 3) (hid yb11y)
attribute [simp] yl11v yb11y yb11z
def c_RDone : EB × List QOp × Nat := ((hid yb11z), [(.lda 3 (.t 2)), (.mov (.t 3))], 12)
theorem k_RDone : cfun Tryz.prog 128 = some c_RDone := by kernel_rfl
def yl120 : UL | _ => [xW 0 4 28 0, xW 1 5 35 1, xW 2 7 23 3, xQ 3 8 (.alloc 77 [xZ, xS, xS]), xC 4 9 0]
def yl121 : UL | _ => [xD 0 13 38 4, xD 1 14 5 5, xO 2 15 (.call 126 [.t 13, .t 14]), xM 3 10 15]
def yl123 : UL | _ => [xQ 0 18 (.build [xZ, xS, xS] []), xM 1 19 10, xN 2 (.fz (.sto 3 (.t 8) (.t 18))), xM 3 9 19]
def yl125 : UL | _ => [xM 6 26 25, xG 7 27 26 false (.lda 32 (.t 7)), xG 8 28 26 false (.build zU8 []), xG 9 29 26 false (.eqa false 32 .u8 (.t 27) (.t 28)), xP 10 30 26 29]
def yl126 : UL | _ => xM 0 20 2 :: xc 1 21 .lss 20 0 :: xM 2 22 21 :: yM 3 23 22 false 2 :: xG 4 24 22 false (.bin .gtr (.t 23) (xK 1)) :: xP 5 25 22 24 :: hid yl125
def yl127 : UL | _ => [xQ 0 31 (.build [xZ, xS, xS] []), xN 1 (.fz (.sto 3 (.t 8) (.t 31))), xC 2 9 1]
def yl129 : UL | _ => [xX 6 38 0 32, xX 7 39 1 32, xM 8 11 38, xM 9 12 39]
def yl12a : UL | _ => xD 0 33 38 4 :: xD 1 34 5 5 :: xM 2 35 2 :: xD 3 36 32 7 :: xO 4 37 (.call 127 [.t 33, .t 34, .t 35, .t 36]) :: xM 5 32 37 :: hid yl129
def yl12b : UL | _ => [xO 6 46 (.call 128 [.t 45]), xX 7 47 0 46, xX 8 48 1 46, xN 9 (.fz (.sto 3 (.t 8) (.t 47))), xM 10 9 48]
def yl12c : UL | _ => xF 0 40 0 4 :: xD 1 41 33 40 :: xQ 2 42 (.build (zU8 ++ [xZ, xZ, xS]) [(0, 33, .t 41)]) :: xO 3 43 (.fz (.q (.bsl 35 (zU8 ++ [xZ, xZ, xS]) 1 [(0, .t 42)]))) :: xM 4 44 11 :: xQ 5 45 (.build [xZ, xS, xS] [(1, 1, .t 43), (2, 1, .t 44)]) :: hid yl12b
def yb12e : UB | _ => .seq (reg0 (hid yl121) 4) (.seq (.seq (reg0 [xM 0 16 10, xc 1 17 .neq 16 0] 2) (.cond (.t 17) (.seq (reg0 (hid yl123) 4) .ret) .skip)) (.seq (.seq (reg0 (hid yl126) 11) (.cond (.t 30) (.seq (reg0 (hid yl127) 3) .ret) .skip)) (.seq (reg0 (hid yl12a) 10) (.seq (reg0 (hid yl12c) 11) .ret))))
def yb12f : UB | _ => .seq (reg0 (hid yl120) 5) (hid yb12e)
attribute [simp] yl120 yl121 yl123 yl125 yl126 yl127 yl129 yl12a yl12b yl12c yb12e yb12f
def c_RCommit : EB × List QOp × Nat := ((hid yb12f), [(.lda 3 (.t 8)), (.mov (.t 9))], 49)
theorem k_RCommit : cfun Tryz.prog 65 = some c_RCommit := by kernel_rfl
theorem RDone_ok (t : Txn) (ht : t.ok) : ECalls Tryz.prog 128 [TXv t] [] fun y H' => H' = [] ∧ y = .tup [.agg (txC (donT t).1), .c (.fz (.lit (.int .i64 (donT t).2)))] := by
 have h1 := RTxCheck_ok t ht
 refine ecalls k_RDone ?_
 simp [c_RDone, TXv, txC, iC]
 refine call0 h1 (by simp [TXv, txC, iC]) ?_
 rintro y H' ⟨rfl, rfl⟩
 refine ⟨.inl (by simp [I]), le_ok rfl, ?_⟩
 by_cases c : chkT t = 0
 ·rw [show donT t = (t, 0) from if_neg (by simpa using c)]
  simp [c, I]
  exact fin0
 ·rw [show donT t = (zTx, chkT t) from if_pos c]
  simp [c, I]
  refine finW _ (weak_nlB (o := 16) (k := 1) 35 rfl rfl) (finW _ (weak_nlB (o := 16) (k := 2) 2 rfl rfl) ?_)
  exact fin0
theorem ROuts_ok (p : Prm) (s : Sta) (o : Int) (lock : List UInt8) (ho : o = 0 ∨ o = 1) (hp : p.ok) (hl : lock.length = 32) (hs : s.ok) (hw : i64 (s.h0 - p.fe)) (hn : s.pays.length ≤ 8 ∧ s.holds.length ≤ 8) (hpay : ∀ x ∈ s.pays, 10 ≤ x.am ∧ (x.fr = 0 ∨ x.fr = 1)) (hhol : ∀ h ∈ s.holds, KeysOK h.keys) :
  ECalls Tryz.prog 127 [PVv p, SV s, I .i64 o, .v (.agg (hc lock))] [] fun y H' => H' = [] ∧ y = .tup [.c (.fz (.sl 2 (outv (outsB p s o lock)))), .c (.fz (.sl 2 (plcv (plcB p s o))))] := by
 rcases ho with rfl | rfl
 ·exact ROuts_0 p s lock hp hl hs hw hn hpay hhol
 ·exact ROuts_1 p s lock hp hl hs hw hn hpay hhol
theorem RPlaces_ok (p : Prm) (s : Sta) (o : Int) (hp : p.ok) (hs : s.ok) : ECalls Tryz.prog 66 [PVv p, SV s, I .i64 o] [] fun y H' => H' = [] ∧ y = .tup [.c (.fz (.sl 2 (plcv (plcS p s o).1))), .c (.fz (.lit (.int .i64 (plcS p s o).2)))] := by
 have h1 := hp.1
 have lp := prmC_len h1
 have tp := pm_take h1
 refine ecalls k_RPlaces ?_
 simp [c_RPlaces, PVv, SV, staC, I, lp, tp]
 refine call0 (RBCheck_ok p s hp hs) (by simp [PVv, SV, staC]) ?_
 rintro y H' ⟨rfl, rfl⟩
 refine ⟨.inl (by simp [I]), le_ok rfl, ?_⟩
 by_cases c : bldE p s = 0
 rotate_left
 ·rw [show plcS p s o = ([], bldE p s) from if_pos c]
  simp [c, I]
  refine finW _ (weak_nilF 6 2 rfl) ?_
  exact fin0
 simp [c, I]
 by_cases c2 : o = 0 ∨ o = 1
 rotate_left
 ·rw [show plcS p s o = ([], 1) by unfold plcS; rw [if_neg (by simpa using c), if_pos c2]]
  by_cases c3 : o < 0
  ·have c4 : ¬ 0 ≤ o := by omega
   simp [c3, c4]
   refine finW _ (weak_nilF 6 2 rfl) ?_
   exact fin0
  ·have c4 : 1 < o := by omega
   have c5 : 0 ≤ o := by omega
   have c6 : ¬ o ≤ 1 := by omega
   simp [c3, c4, c5, c6]
   refine finW _ (weak_nilF 6 2 rfl) ?_
   exact fin0
 rw [show plcS p s o = (plcB p s o, 0) by unfold plcS; rw [if_neg (by simpa using c), if_neg (fun q => q c2)]]
 obtain ⟨k1, k2, k3, k4⟩ := outs_cond c
 have c3 : ¬ o < 0 := by omega
 have c4 : ¬ 1 < o := by omega
 have c5 : 0 ≤ o := by omega
 have c6 : o ≤ 1 := by omega
 simp [c3, c4, c5, c6, PVv, SV, staC, I, lp, tp]
 refine call0 (ROuts_ok p s o hz c2 hp hz_len hs k1 k2 k3 k4) (by simp [PVv, SV, staC, I]) ?_
 rintro y H' ⟨rfl, rfl⟩
 refine ⟨.inl (by simp), le_ok rfl, ?_⟩
 simp
 exact fin0
theorem RCommit_ok (p : Prm) (s : Sta) (o : Int) (lock : List UInt8) (hp : p.ok) (hs : s.ok) (hl : lock.length = 32) : ECalls Tryz.prog 65 [PVv p, SV s, I .i64 o, .v (.agg (hc lock))] [] fun y H' => H' = [] ∧ y = .tup [.agg (txC (cmtS p s o lock).1), .c (.fz (.lit (.int .i64 (cmtS p s o lock).2)))] := by
 have h1 := hp.1
 have lp := prmC_len h1
 have tp := pm_take h1
 refine ecalls k_RCommit ?_
 simp [c_RCommit, PVv, SV, staC, I, lp, tp]
 refine call0 (RBCheck_ok p s hp hs) (by simp [PVv, SV, staC]) ?_
 rintro y H' ⟨rfl, rfl⟩
 refine ⟨.inl (by simp [I]), le_ok rfl, ?_⟩
 by_cases c : bldE p s = 0
 rotate_left
 ·rw [show cmtS p s o lock = (zTx, bldE p s) from if_pos c]
  simp [c, I]
  refine finW _ (weak_nlB (o := 48) (k := 1) 35 rfl rfl) (finW _ (weak_nlB (o := 48) (k := 2) 2 rfl rfl) ?_)
  exact fin0
 simp [c, I]
 by_cases c2 : o = 0 ∨ o = 1
 rotate_left
 ·rw [show cmtS p s o lock = (zTx, 1) by unfold cmtS; rw [if_neg (by simpa using c), if_pos (.inl c2)]]
  by_cases c3 : o < 0
  ·have c4 : ¬ 0 ≤ o := by omega
   simp [c3, c4]
   refine finW _ (weak_nlB (o := 48) (k := 1) 35 rfl rfl) (finW _ (weak_nlB (o := 48) (k := 2) 2 rfl rfl) ?_)
   exact fin0
  ·have c4 : 1 < o := by omega
   have c5 : 0 ≤ o := by omega
   have c6 : ¬ o ≤ 1 := by omega
   simp [c3, c4, c5, c6]
   refine finW _ (weak_nlB (o := 48) (k := 1) 35 rfl rfl) (finW _ (weak_nlB (o := 48) (k := 2) 2 rfl rfl) ?_)
   exact fin0
 obtain ⟨k1, k2, k3, k4⟩ := outs_cond c
 have c3 : ¬ o < 0 := by omega
 have c4 : ¬ 1 < o := by omega
 have c5 : 0 ≤ o := by omega
 have c6 : o ≤ 1 := by omega
 simp [c3, c4, c5, c6, PVv, SV, staC, I, lp, tp, hl, hc_t32 hl]
 refine alt (fun c3 => ?_) (fun c3 => ?_)
 ·rw [show cmtS p s o lock = (zTx, 1) by unfold cmtS; rw [if_neg (by simpa using c), if_pos (.inr c3)]]
  simp
  refine finW _ (weak_nlB (o := 48) (k := 1) 35 rfl rfl) (finW _ (weak_nlB (o := 48) (k := 2) 2 rfl rfl) ?_)
  exact fin0
 rw [show cmtS p s o lock = donT (cmtT p s o lock) by unfold cmtS; rw [if_neg (by simpa using c), if_neg (by rintro (q | q); exact q c2; exact c3 q)]]
 simp [lp, hz_len, hl, tp, hc_t32 hl]
 refine call0 (ROuts_ok p s o lock c2 hp hl hs k1 k2 k3 k4) (by simp [PVv, SV, staC, I]) ?_
 rintro y H' ⟨rfl, rfl⟩
 refine ⟨.inl (by simp), le_ok rfl, ?_⟩
 have t33 := pm_33 h1
 have hD := RDone_ok (cmtT p s o lock) (cmtT_ok hp hs hl c)
 have hD' : ECalls Tryz.prog 128 [.v (.agg [iC 0, .fz (.sl 35 [(hf p.tx ++ [iF p.n, iF 0]) ++ [.lit (.slice none 0 0)]]), .fz (.sl 2 (outv (outsB p s o lock)))])] [] _ := ecalls_nlI (by rw [List.append_assoc]; exact hD)
 simp [lp, t33, iC, drop33i, h1, frzAll_hc]
 refine call0 hD' (by simp [iC, iF]) ?_
 rintro y H' ⟨rfl, rfl⟩
 refine ⟨.inl (by simp [txC, iC]), le_ok rfl, ?_⟩
 simp [txC, iC]
 exact fin0
def Bra.sm (b : Bra) : Prop := b.lock.length = 32 ∧ b.keys.length ≤ 1000
def Outp.sm (o : Outp) : Prop := (∀ b ∈ o.cs, b.sm) ∧ o.cs.length ≤ 100
def Inp.sm (x : Inp) : Prop := x.tx.length = 32 ∧ x.sec.length ≤ 10000
def Txn.sm (t : Txn) : Prop := (∀ x ∈ t.ins, x.sm) ∧ (∀ o ∈ t.outs, o.sm) ∧ t.ins.length ≤ 400 ∧ t.outs.length ≤ 400
theorem braB_le {b : Bra} (h : b.sm) : (braB b).length ≤ 9100 := by
 have h1 := uB_len (b.keys.length : Int)
 have h2 := usB_len b.keys
 have h3 := uB_len b.af
 have h4 := uB_len b.ol
 obtain ⟨q1, q2⟩ := h
 simp only [braB, List.length_append]
 omega
theorem cndB_le {l : List Bra} (h : ∀ b ∈ l, b.sm) (hn : l.length ≤ 100) : (cndB l).length ≤ 920000 := by
 have h1 := uB_len (l.length : Int)
 have h2 : (brsB l).length ≤ 9100 * l.length := flat_len fun b hb => braB_le (h b hb)
 simp only [cndB, List.length_append]
 omega
theorem oupB_le {o : Outp} (h : o.sm) : (oupB o).length ≤ 930000 := by
 have h1 := uB_len o.am
 have h2 := cndB_le h.1 h.2
 simp only [oupB, List.length_append]
 omega
theorem outsB_sm {p : Prm} {s : Sta} {o : Int} {lock : List UInt8} (hs : s.ok) (hl : lock.length = 32) (h : bldE p s = 0) : (∀ x ∈ outsB p s o lock, x.sm) := by
 obtain ⟨k1, k2, k3, k4⟩ := outs_cond h
 obtain ⟨ok1, ok2, ok3, ok4, ok5, ok6, ok7⟩ := id hs
 have hz' : hz.length = 32 := rfl
 intro x hx
 unfold outsB at hx
 simp only [List.mem_append] at hx
 rcases hx with (hx | hx) | (hx | hx)
 ·unfold out1 at hx
  split at hx
  ·simp at hx; subst hx
   refine ⟨?_, by simp [ownB]⟩
   intro b hb
   simp [ownB] at hb
   rcases hb with rfl | rfl
   ·exact ⟨hz', by simp⟩
   ·exact ⟨hl, by simp [fineB]⟩
  ·simp at hx
 ·unfold out2 at hx
  split at hx
  ·simp at hx; subst hx
   refine ⟨?_, by simp [allB]⟩
   intro b hb
   simp [allB] at hb
   subst hb
   exact ⟨hz', by simp [insN_len]⟩
  ·simp at hx
 ·obtain ⟨y, hy, rfl⟩ := List.mem_map.1 hx
  have hyo := ok4 y hy
  refine ⟨?_, by simp [paidB]⟩
  intro b hb
  simp [paidB] at hb
  rcases hb with rfl | rfl | rfl
  ·exact ⟨hyo.2.2.2.2, by simp⟩
  ·exact ⟨hz', by simp⟩
  ·exact ⟨hl, by simp [fineB]⟩
 ·obtain ⟨y, hy, rfl⟩ := List.mem_map.1 hx
  have hk := k4 y hy
  refine ⟨?_, by simp [allB]⟩
  intro b hb
  simp [allB] at hb
  subst hb
  have := hk.2.1
  exact ⟨hz', by simp [insN_len]; omega⟩
def yl12h : UL | _ => [xM 0 6 1, xQ 1 7 (.cnv .u64 (.t 6)), xQ 2 8 (.bin .and (.t 7) (.k (.int .u64 31))), xM 3 5 8]
def yl12i : UL | _ => [xb 6 15 .shr 12 14, xb 7 16 .or 11 15, xM 8 4 16]
def yl12j : UL | _ => xM 0 9 0 :: xM 1 10 5 :: xb 2 11 .shl 9 10 :: xM 3 12 0 :: xM 4 13 5 :: xQ 5 14 (.bin .sub (.k (.int .u64 32)) (.t 13)) :: hid yl12i
def yb12k : UB | _ => .seq (reg0 [xQ 0 4 (.mov (.k (.int .u32 0)))] 1) (.seq (reg0 (hid yl12h) 4) (.seq (reg0 (hid yl12j) 9) .ret))
attribute [simp] yl12h yl12i yl12j yb12k
def c_Rot : EB × List QOp × Nat := ((hid yb12k), [(.mov (.t 4))], 17)
theorem k_Rot : cfun Tryz.prog 217 = some c_Rot := by kernel_rfl
def yl12l : UL | _ => [xb 12 26 .add 18 25, xQ 13 27 (.nilc (.t 14)), xQ 14 28 (.iad 16 1 (.t 27) (.t 15)), xN 15 (.sto 1 (.t 28) (.t 26))]
def yl12m : UL | _ => xM 6 20 2 :: xQ 7 21 (.nilc (.t 19)) :: xQ 8 22 (.iad 16 1 (.t 21) (.t 20)) :: xL 9 23 22 :: xM 10 24 5 :: xb 11 25 .add 23 24 :: hid yl12l
def yl12n : UL | _ => xM 0 14 0 :: xM 1 15 1 :: xQ 2 16 (.nilc (.t 14)) :: xQ 3 17 (.iad 16 1 (.t 16) (.t 15)) :: xL 4 18 17 :: xM 5 19 0 :: hid yl12m
def yl12o : UL | _ => [xb 12 41 .xor 35 40, xQ 14 43 (.nilc (.t 29)), ⟨13, (some 42), none, (.call 217 [.t 41, (.k (.int .i64 (-16)))]), [0, 1, 14]⟩, xQ 15 44 (.iad 16 1 (.t 43) (.t 30)), xN 16 (.sto 1 (.t 44) (.t 42))]
def yl12p : UL | _ => xL 6 35 34 :: xM 7 36 0 :: xM 8 37 1 :: xQ 9 38 (.nilc (.t 36)) :: xQ 10 39 (.iad 16 1 (.t 38) (.t 37)) :: xL 11 40 39 :: hid yl12o
def yl12q : UL | _ => xM 0 29 0 :: xM 1 30 4 :: xM 2 31 0 :: xM 3 32 4 :: xQ 4 33 (.nilc (.t 31)) :: xQ 5 34 (.iad 16 1 (.t 33) (.t 32)) :: hid yl12p
def yl12r : UL | _ => [xQ 12 57 (.iad 16 1 (.t 56) (.t 46)), xN 13 (.sto 1 (.t 57) (.t 55))]
def yl12s : UL | _ => xM 6 51 4 :: xQ 7 52 (.nilc (.t 50)) :: xQ 8 53 (.iad 16 1 (.t 52) (.t 51)) :: xL 9 54 53 :: xb 10 55 .add 49 54 :: xQ 11 56 (.nilc (.t 45)) :: hid yl12r
def yl12t : UL | _ => xM 0 45 0 :: xM 1 46 3 :: xQ 2 47 (.nilc (.t 45)) :: xQ 3 48 (.iad 16 1 (.t 47) (.t 46)) :: xL 4 49 48 :: xM 5 50 0 :: hid yl12s
def yl12u : UL | _ => [xb 12 70 .xor 64 69, xQ 14 72 (.nilc (.t 58)), ⟨13, (some 71), none, (.call 217 [.t 70, (.k (.int .i64 (-12)))]), [0, 1, 14]⟩, xQ 15 73 (.iad 16 1 (.t 72) (.t 59)), xN 16 (.sto 1 (.t 73) (.t 71))]
def yl12v : UL | _ => xL 6 64 63 :: xM 7 65 0 :: xM 8 66 3 :: xQ 9 67 (.nilc (.t 65)) :: xQ 10 68 (.iad 16 1 (.t 67) (.t 66)) :: xL 11 69 68 :: hid yl12u
def yl12w : UL | _ => xM 0 58 0 :: xM 1 59 2 :: xM 2 60 0 :: xM 3 61 2 :: xQ 4 62 (.nilc (.t 60)) :: xQ 5 63 (.iad 16 1 (.t 62) (.t 61)) :: hid yl12v
def yl12x : UL | _ => [xb 12 86 .add 78 85, xQ 13 87 (.nilc (.t 74)), xQ 14 88 (.iad 16 1 (.t 87) (.t 75)), xN 15 (.sto 1 (.t 88) (.t 86))]
def yl12y : UL | _ => xM 6 80 2 :: xQ 7 81 (.nilc (.t 79)) :: xQ 8 82 (.iad 16 1 (.t 81) (.t 80)) :: xL 9 83 82 :: xM 10 84 6 :: xb 11 85 .add 83 84 :: hid yl12x
def yl12z : UL | _ => xM 0 74 0 :: xM 1 75 1 :: xQ 2 76 (.nilc (.t 74)) :: xQ 3 77 (.iad 16 1 (.t 76) (.t 75)) :: xL 4 78 77 :: xM 5 79 0 :: hid yl12y
def yl130 : UL | _ => [xb 12 101 .xor 95 100, xQ 14 103 (.nilc (.t 89)), ⟨13, (some 102), none, (.call 217 [.t 101, (.k (.int .i64 (-8)))]), [0, 1, 14]⟩, xQ 15 104 (.iad 16 1 (.t 103) (.t 90)), xN 16 (.sto 1 (.t 104) (.t 102))]
def yl131 : UL | _ => xL 6 95 94 :: xM 7 96 0 :: xM 8 97 1 :: xQ 9 98 (.nilc (.t 96)) :: xQ 10 99 (.iad 16 1 (.t 98) (.t 97)) :: xL 11 100 99 :: hid yl130
def yl132 : UL | _ => xM 0 89 0 :: xM 1 90 4 :: xM 2 91 0 :: xM 3 92 4 :: xQ 4 93 (.nilc (.t 91)) :: xQ 5 94 (.iad 16 1 (.t 93) (.t 92)) :: hid yl131
def yl133 : UL | _ => [xQ 12 117 (.iad 16 1 (.t 116) (.t 106)), xN 13 (.sto 1 (.t 117) (.t 115))]
def yl134 : UL | _ => xM 6 111 4 :: xQ 7 112 (.nilc (.t 110)) :: xQ 8 113 (.iad 16 1 (.t 112) (.t 111)) :: xL 9 114 113 :: xb 10 115 .add 109 114 :: xQ 11 116 (.nilc (.t 105)) :: hid yl133
def yl135 : UL | _ => xM 0 105 0 :: xM 1 106 3 :: xQ 2 107 (.nilc (.t 105)) :: xQ 3 108 (.iad 16 1 (.t 107) (.t 106)) :: xL 4 109 108 :: xM 5 110 0 :: hid yl134
def yl136 : UL | _ => [xb 12 130 .xor 124 129, xQ 14 132 (.nilc (.t 118)), ⟨13, (some 131), none, (.call 217 [.t 130, (.k (.int .i64 (-7)))]), [0, 1, 14]⟩, xQ 15 133 (.iad 16 1 (.t 132) (.t 119)), xN 16 (.sto 1 (.t 133) (.t 131))]
def yl137 : UL | _ => xL 6 124 123 :: xM 7 125 0 :: xM 8 126 3 :: xQ 9 127 (.nilc (.t 125)) :: xQ 10 128 (.iad 16 1 (.t 127) (.t 126)) :: xL 11 129 128 :: hid yl136
def yl138 : UL | _ => xM 0 118 0 :: xM 1 119 2 :: xM 2 120 0 :: xM 3 121 2 :: xQ 4 122 (.nilc (.t 120)) :: xQ 5 123 (.iad 16 1 (.t 122) (.t 121)) :: hid yl137
def yb13c : UB | _ => .seq (reg0 (hid yl12n) 16) (.seq (reg1 (hid yl12q) 17) (.seq (reg0 (hid yl12t) 14) (.seq (reg1 (hid yl12w) 17) (.seq (reg0 (hid yl12z) 16) (.seq (reg1 (hid yl132) 17) (.seq (reg0 (hid yl135) 14) (reg1 (hid yl138) 17)))))))
attribute [simp] yl12l yl12m yl12n yl12o yl12p yl12q yl12r yl12s yl12t yl12u yl12v yl12w yl12x yl12y yl12z yl130 yl131 yl132 yl133 yl134 yl135 yl136 yl137 yl138 yb13c
def c_mix : EB × List QOp × Nat := ((hid yb13c), [], 134)
theorem k_mix : cfun Tryz.prog 202 = some c_mix := by kernel_rfl
def yl13d : UL | _ => [xQ 0 0 (.alloc 256 [(.int .u32 0), (.int .u32 0), (.int .u32 0), (.int .u32 0), (.int .u32 0), (.int .u32 0), (.int .u32 0), (.int .u32 0)])]
def yl13e : UL | _ => [xQ 0 1 (.build [(.int .u32 0), (.int .u32 0), (.int .u32 0), (.int .u32 0), (.int .u32 0), (.int .u32 0), (.int .u32 0), (.int .u32 0)] [(0, 1, (.k (.int .u32 1779033703))), (1, 1, (.k (.int .u32 3144134277))), (2, 1, (.k (.int .u32 1013904242))), (3, 1, (.k (.int .u32 2773480762))), (4, 1, (.k (.int .u32 1359893119))), (5, 1, (.k (.int .u32 2600822924))), (6, 1, (.k (.int .u32 528734635))), (7, 1, (.k (.int .u32 1541459225)))]), xN 1 (.sto 8 (.t 0) (.t 1))]
def yb13f : UB | _ => .seq (reg0 (hid yl13d) 1) (.seq (reg0 (hid yl13e) 2) .ret)
attribute [simp] yl13d yl13e yb13f
def c_first : EB × List QOp × Nat := ((hid yb13f), [(.lda 8 (.t 0))], 2)
theorem k_first : cfun Tryz.prog 131 = some c_first := by kernel_rfl
def wi (x : UInt32) : Int := (x.toNat : Int)
def wc (x : UInt32) : EC := .fz (.lit (.int .u32 (wi x)))
def wl (l : List UInt32) : List EC := l.map wc
def WV (x : UInt32) : EV := .lit (.int .u32 (wi x))
def NV (n : Int) : EV := .lit (.int .i64 n)
@[simp] theorem wl_len (l : List UInt32) : (wl l).length = l.length := by simp [wl]
theorem wl_get {l : List UInt32} {i : Nat} {x : UInt32} (h : l[i]? = some x) : (wl l)[i]? = some (wc x) := by simp [wl, h]
theorem wl_set (l : List UInt32) (i : Nat) (x : UInt32) : (wl l).set i (.fz (.lit (.int .u32 (wi x)))) = wl (l.set i x) := by simp [wl, List.map_set, wc]
@[simp] theorem conAll_wl (H : Nat → Option EO) (ids : List Nat) (l : List UInt32) : conAll H ids (wl l) = some (wl l) := by
 induction l with
 | nil => rfl
 | cons b t ih =>
  have e : wl (b :: t) = .fz (.lit (.int .u32 (wi b))) :: wl t := rfl
  rw [e]
  simp only [conAll, ih]
  simp
@[simp] theorem strAll_wl (ids : List Nat) (l : List UInt32) : strAll ids (wl l) = some (wl l) := by
 induction l with
 | nil => rfl
 | cons b r ih => simp only [wl, List.map_cons, strAll] at *; rw [ih]; rfl
@[simp] theorem refs_wl (l : List UInt32) : (wl l).flatMap refsC = [] := by
 induction l with
 | nil => rfl
 | cons b r ih => simp only [wl, List.map_cons, List.flatMap_cons] at *; rw [ih]; rfl
@[simp] theorem fz_wl (ids : List Nat) (l : List UInt32) : (wl l).flatMap (fzC ids) = [] := by
 induction l with
 | nil => rfl
 | cons b r ih => simp only [wl, List.map_cons, List.flatMap_cons] at *; rw [ih]; rfl
@[simp] theorem ren_wl (g : Nat → Nat) (l : List UInt32) : (wl l).map (renC g) = wl l := by
 induction l with
 | nil => rfl
 | cons b r ih => simp only [wl, List.map_cons] at *; rw [ih]; rfl
def shl (x : UInt32) (k : Nat) : UInt32 := UInt32.ofNat (x.toNat * 2 ^ k)
def shr (x : UInt32) (k : Nat) : UInt32 := UInt32.ofNat (x.toNat / 2 ^ k)
def rotr (x : UInt32) (k : Nat) : UInt32 := shl x (32 - k) ||| shr x k
theorem u32_mod (n : Int) : IntKind.u32.wrap n = n % 4294967296 := by simp [IntKind.wrap, IntKind.bits, IntKind.signed]
theorem wi_ofNat (n : Nat) : wi (UInt32.ofNat n) = (n : Int) % 4294967296 := by
 unfold wi
 rw [UInt32.toNat_ofNat']
 omega
theorem wi_b (x : UInt32) : 0 ≤ wi x ∧ wi x < 4294967296 := by
 unfold wi
 have := x.toNat_lt
 simp at *
 omega
theorem wi_add (x y : UInt32) : IntKind.u32.wrap (wi x + wi y) = wi (x + y) := by
 rw [u32_mod]
 unfold wi
 rw [UInt32.toNat_add]
 omega
theorem wi_of (x : UInt32) : BitVec.ofInt IntKind.u32.bits (wi x) = x.toBitVec := by
 unfold wi
 simp [IntKind.bits]
theorem wrap_wi (x : UInt32) : IntKind.u32.wrap (wi x) = wi x := by
 have := wi_b x
 rw [u32_mod]; omega
theorem wi_xor (x y : UInt32) : ibit .xor .u32 (wi x) (wi y) = wi (x ^^^ y) := by
 have h3 : (BitVec.ofInt IntKind.u32.bits (wi x) ^^^ BitVec.ofInt IntKind.u32.bits (wi y)).toNat = (x ^^^ y).toNat := by
  rw [wi_of, wi_of]; rfl
 refine (congrArg (fun n : Nat => IntKind.u32.wrap (n : Int)) h3).trans ?_
 exact wrap_wi (x ^^^ y)
theorem wi_or (x y : UInt32) : ibit .or .u32 (wi x) (wi y) = wi (x ||| y) := by
 have h3 : (BitVec.ofInt IntKind.u32.bits (wi x) ||| BitVec.ofInt IntKind.u32.bits (wi y)).toNat = (x ||| y).toNat := by
  rw [wi_of, wi_of]; rfl
 refine (congrArg (fun n : Nat => IntKind.u32.wrap (n : Int)) h3).trans ?_
 exact wrap_wi (x ||| y)
theorem wi_shl (x : UInt32) (k : Nat) (h : k ≤ 32) : ishl .u32 (wi x) (k : Int) = wi (shl x k) := by
 unfold ishl shl
 rw [wi_ofNat, u32_mod, show min (k : Int).toNat IntKind.u32.bits = k by simp [IntKind.bits]; omega]
 unfold wi
 simp
theorem wi_shr (x : UInt32) (k : Nat) (h : k ≤ 32) : ishr .u32 (wi x) (k : Int) = wi (shr x k) := by
 have e : ishr .u32 (wi x) (k : Int) = ((x.toNat / 2 ^ k : Nat) : Int) := ishr_nat .u32 x.toNat k h
 rw [e]
 unfold shr
 rw [wi_ofNat]
 have h1 : x.toNat / 2 ^ k ≤ x.toNat := Nat.div_le_self _ _
 have h2 := x.toNat_lt
 generalize x.toNat / 2 ^ k = q at *
 omega
theorem Rot16_ok (x : UInt32) : ECalls Tryz.prog 217 [WV x, NV (-16)] [] fun y H' => H' = [] ∧ y = WV (rotr x 16) := by
 have s1 : ishl .u32 (wi x) 16 = wi (shl x 16) := wi_shl x 16 (by omega)
 have r1 : ishr .u32 (wi x) 16 = wi (shr x 16) := wi_shr x 16 (by omega)
 have a1 : IntKind.u64.wrap (-16) = 18446744073709551600 := by decide +kernel
 have a2 : ibit .and .u64 18446744073709551600 31 = 16 := by decide +kernel
 have a3 : IntKind.u64.wrap 16 = 16 := by decide +kernel
 refine ecalls k_Rot ?_
 simp [c_Rot, WV, NV, a1, a2, a3, s1, r1, wi_or]
 exact fin0
theorem Rot12_ok (x : UInt32) : ECalls Tryz.prog 217 [WV x, NV (-12)] [] fun y H' => H' = [] ∧ y = WV (rotr x 12) := by
 have s1 : ishl .u32 (wi x) 20 = wi (shl x 20) := wi_shl x 20 (by omega)
 have r1 : ishr .u32 (wi x) 12 = wi (shr x 12) := wi_shr x 12 (by omega)
 have a1 : IntKind.u64.wrap (-12) = 18446744073709551604 := by decide +kernel
 have a2 : ibit .and .u64 18446744073709551604 31 = 20 := by decide +kernel
 have a3 : IntKind.u64.wrap 12 = 12 := by decide +kernel
 refine ecalls k_Rot ?_
 simp [c_Rot, WV, NV, a1, a2, a3, s1, r1, wi_or]
 exact fin0
theorem Rot8_ok (x : UInt32) : ECalls Tryz.prog 217 [WV x, NV (-8)] [] fun y H' => H' = [] ∧ y = WV (rotr x 8) := by
 have s1 : ishl .u32 (wi x) 24 = wi (shl x 24) := wi_shl x 24 (by omega)
 have r1 : ishr .u32 (wi x) 8 = wi (shr x 8) := wi_shr x 8 (by omega)
 have a1 : IntKind.u64.wrap (-8) = 18446744073709551608 := by decide +kernel
 have a2 : ibit .and .u64 18446744073709551608 31 = 24 := by decide +kernel
 have a3 : IntKind.u64.wrap 8 = 8 := by decide +kernel
 refine ecalls k_Rot ?_
 simp [c_Rot, WV, NV, a1, a2, a3, s1, r1, wi_or]
 exact fin0
theorem Rot7_ok (x : UInt32) : ECalls Tryz.prog 217 [WV x, NV (-7)] [] fun y H' => H' = [] ∧ y = WV (rotr x 7) := by
 have s1 : ishl .u32 (wi x) 25 = wi (shl x 25) := wi_shl x 25 (by omega)
 have r1 : ishr .u32 (wi x) 7 = wi (shr x 7) := wi_shr x 7 (by omega)
 have a1 : IntKind.u64.wrap (-7) = 18446744073709551609 := by decide +kernel
 have a2 : ibit .and .u64 18446744073709551609 31 = 25 := by decide +kernel
 have a3 : IntKind.u64.wrap 7 = 7 := by decide +kernel
 refine ecalls k_Rot ?_
 simp [c_Rot, WV, NV, a1, a2, a3, s1, r1, wi_or]
 exact fin0
def firstW : List UInt32 := [0x6a09e667, 0xbb67ae85, 0x3c6ef372, 0xa54ff53a, 0x510e527f, 0x9b05688c, 0x1f83d9ab, 0x5be0cd19]
theorem first_ok : ECalls Tryz.prog 131 [] [] fun y H' => H' = [] ∧ y = .v (.agg (wl firstW)) := by
 refine ecalls k_first ?_
 simp [c_first]
 exact fin0
theorem pun_x32 (x : UInt32) : pun .xor (.int .u32 (wi x)) = some (.int .u32 (wi (~~~x))) := by
 have h3 : (BitVec.ofInt IntKind.u32.bits (-1) ^^^ BitVec.ofInt IntKind.u32.bits (wi x)).toNat = (~~~x).toNat := by
  rw [wi_of]
  have k : BitVec.allOnes 32 ^^^ x.toBitVec = ~~~ x.toBitVec := BitVec.allOnes_xor
  exact congrArg BitVec.toNat k
 simp only [pun, Option.some.injEq, Value.int.injEq, true_and]
 refine (congrArg (fun n : Nat => IntKind.u32.wrap (n : Int)) h3).trans ?_
 exact wrap_wi (~~~x)
def g (v : List UInt32) (i : Nat) : UInt32 := (v[i]?).getD 0
def mixS (v : List UInt32) (a b c d : Nat) (x y : UInt32) : List UInt32 :=
 let v := v.set a (g v a + (g v b + x))
 let v := v.set d (rotr (g v d ^^^ g v a) 16)
 let v := v.set c (g v c + g v d)
 let v := v.set b (rotr (g v b ^^^ g v c) 12)
 let v := v.set a (g v a + (g v b + y))
 let v := v.set d (rotr (g v d ^^^ g v a) 8)
 let v := v.set c (g v c + g v d)
 v.set b (rotr (g v b ^^^ g v c) 7)
def VO (v : List UInt32) : EO := .box 330 (wl v)
theorem wl_put {v : List UInt32} {i : Nat} {x : UInt32} (h : i < v.length) : List.take i (wl v) ++ .fz (.lit (.int .u32 (wi x))) :: List.drop (i + 1) (wl v) = wl (v.set i x) := by
 rw [← wl_set, List.set_eq_take_append_cons_drop, if_pos (by simpa using h)]
theorem wl_g {v : List UInt32} {i : Nat} (h : i < v.length) : (wl v)[i]? = some (.fz (.lit (.int .u32 (wi (g v i))))) := by
 refine wl_get (x := g v i) ?_
 unfold g
 rw [List.getElem?_eq_getElem h]
 rfl
theorem wl_gE {v : List UInt32} {i : Nat} (h : i < v.length) (h2 : i < (wl v).length) : (wl v)[i]'h2 = .fz (.lit (.int .u32 (wi (g v i)))) := by
 have := wl_g h
 rw [List.getElem?_eq_getElem h2] at this
 exact Option.some.inj this
set_option maxRecDepth 8000 in
theorem mix_ok (v : List UInt32) (a b c d : Nat) (x y : UInt32) (hv : v.length = 16) (ha : a < 16) (hb : b < 16) (hc : c < 16) (hd : d < 16) : ECalls Tryz.prog 202 [.v (.c (.ptr 0 0)), NV a, NV b, NV c, NV d, WV x, WV y] [VO v] fun y' H' => H' = [some (VO (mixS v a b c d x y))] ∧ y' = .tup [] := by
 have la : a < v.length := by omega
 have lb : b < v.length := by omega
 have lc : c < v.length := by omega
 have ld : d < v.length := by omega
 have xa : a ≤ 15 := by omega
 have xb : b ≤ 15 := by omega
 have xc : c ≤ 15 := by omega
 have xd : d ≤ 15 := by omega
 have ia : (a : Int) < 16 := by omega
 have ib : (b : Int) < 16 := by omega
 have ic : (c : Int) < 16 := by omega
 have id' : (d : Int) < 16 := by omega
 obtain ⟨v1, h1⟩ : ∃ w, v.set a (g v a + (g v b + x)) = w := ⟨_, rfl⟩
 have e1 : v1.length = 16 := by rw [← h1, List.length_set]; exact hv
 obtain ⟨v2, h2⟩ : ∃ w, v1.set d (rotr (g v1 d ^^^ g v1 a) 16) = w := ⟨_, rfl⟩
 have e2 : v2.length = 16 := by rw [← h2, List.length_set]; exact e1
 obtain ⟨v3, h3⟩ : ∃ w, v2.set c (g v2 c + g v2 d) = w := ⟨_, rfl⟩
 have e3 : v3.length = 16 := by rw [← h3, List.length_set]; exact e2
 obtain ⟨v4, h4⟩ : ∃ w, v3.set b (rotr (g v3 b ^^^ g v3 c) 12) = w := ⟨_, rfl⟩
 have e4 : v4.length = 16 := by rw [← h4, List.length_set]; exact e3
 obtain ⟨v5, h5⟩ : ∃ w, v4.set a (g v4 a + (g v4 b + y)) = w := ⟨_, rfl⟩
 have e5 : v5.length = 16 := by rw [← h5, List.length_set]; exact e4
 obtain ⟨v6, h6⟩ : ∃ w, v5.set d (rotr (g v5 d ^^^ g v5 a) 8) = w := ⟨_, rfl⟩
 have e6 : v6.length = 16 := by rw [← h6, List.length_set]; exact e5
 obtain ⟨v7, h7⟩ : ∃ w, v6.set c (g v6 c + g v6 d) = w := ⟨_, rfl⟩
 have e7 : v7.length = 16 := by rw [← h7, List.length_set]; exact e6
 obtain ⟨v8, h8⟩ : ∃ w, v7.set b (rotr (g v7 b ^^^ g v7 c) 7) = w := ⟨_, rfl⟩
 have e8 : v8.length = 16 := by rw [← h8, List.length_set]; exact e7
 have hm : mixS v a b c d x y = v8 := by unfold mixS; simp only [h1, h2, h3, h4, h5, h6, h7, h8]
 rw [hm]
 refine ecalls k_mix ?_
 simp [c_mix, NV, WV, VO, hv, e1, e2, e3, e4, e5, e6, e7, e8, ha, hb, hc, hd, ia, ib, ic, id', xa, xb, xc, xd, wl_gE, wl_put, la, lb, lc, ld, wi_add, wi_xor, h1, h2, h3, h4, h5, h6, h7, h8]
 refine call0 (Rot16_ok (g v1 d ^^^ g v1 a)) (by simp [WV, NV]) ?_
 rintro y' H' ⟨rfl, rfl⟩
 refine ⟨.inl (by simp), le_ok rfl, ?_⟩
 simp [NV, WV, VO, hv, e1, e2, e3, e4, e5, e6, e7, e8, ha, hb, hc, hd, ia, ib, ic, id', xa, xb, xc, xd, wl_gE, wl_put, la, lb, lc, ld, wi_add, wi_xor, h1, h2, h3, h4, h5, h6, h7, h8]
 refine call0 (Rot12_ok (g v3 b ^^^ g v3 c)) (by simp [WV, NV]) ?_
 rintro y' H' ⟨rfl, rfl⟩
 refine ⟨.inl (by simp), le_ok rfl, ?_⟩
 simp [NV, WV, VO, hv, e1, e2, e3, e4, e5, e6, e7, e8, ha, hb, hc, hd, ia, ib, ic, id', xa, xb, xc, xd, wl_gE, wl_put, la, lb, lc, ld, wi_add, wi_xor, h1, h2, h3, h4, h5, h6, h7, h8]
 refine call0 (Rot8_ok (g v5 d ^^^ g v5 a)) (by simp [WV, NV]) ?_
 rintro y' H' ⟨rfl, rfl⟩
 refine ⟨.inl (by simp), le_ok rfl, ?_⟩
 simp [NV, WV, VO, hv, e1, e2, e3, e4, e5, e6, e7, e8, ha, hb, hc, hd, ia, ib, ic, id', xa, xb, xc, xd, wl_gE, wl_put, la, lb, lc, ld, wi_add, wi_xor, h1, h2, h3, h4, h5, h6, h7, h8]
 refine call0 (Rot7_ok (g v7 b ^^^ g v7 c)) (by simp [WV, NV]) ?_
 rintro y' H' ⟨rfl, rfl⟩
 refine ⟨.inl (by simp), le_ok rfl, ?_⟩
 simp [NV, WV, VO, hv, e1, e2, e3, e4, e5, e6, e7, e8, ha, hb, hc, hd, ia, ib, ic, id', xa, xb, xc, xd, wl_gE, wl_put, la, lb, lc, ld, wi_add, wi_xor, h1, h2, h3, h4, h5, h6, h7, h8]
 exact fin [] (by decide) rfl rfl (by simp [objsOut]) ⟨rfl, rfl⟩
end Go.Proofs.YtejjhgdnmknejaaGreatDoor
