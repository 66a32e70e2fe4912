import Derived.Test.YtejjhgdnmknejaaGreatDoorAll12
import Derived.Test.YtejjhgdnmknejaaGreatDoorAll14
set_option maxHeartbeats 64000000
namespace Go.Proofs.YtejjhgdnmknejaaGreatDoor
open Go Go.EW
set_option linter.unusedSimpArgs false
set_option linter.unusedVariables false
def yls0 : UL | _ => [xD 0 3 35 1, xO 1 4 (.fz (.q (.bsl 35 (([xS] : List Value) ++ zU8 ++ [xZ, xZ]) 1 [(0, .t 3)]))), xQ 2 5 (.build [xS] [(0, 1, .t 4)]), xN 3 (.fz (.sto 1 (.t 2) (.t 5)))]
def ybs1 : UB | _ => .seq (reg0 [xW 0 1 196 0, xQ 1 2 (.alloc 109 [xS])] 2) (.seq (reg0 (hid yls0) 4) .ret)
attribute [simp] yls0 ybs1
def c_BOne : EB × List QOp × Nat := ((hid ybs1), [(.lda 1 (.t 2))], 6)
theorem k_BOne : cfun Tryz.prog 176 = some c_BOne := by kernel_rfl
def yls2 : UL | _ => [xW 0 1 178 0, xQ 1 2 (.alloc 196 (([xS] : List Value) ++ zU8 ++ [xZ, xZ]))]
def yls3 : UL | _ => [xL 6 9 8, xQ 7 10 (.bsl 1 [xZ] 1 [(0, .t 9)]), xF 8 11 44 1, xD 9 12 32 11, xQ 10 13 (.build (([xS] : List Value) ++ zU8 ++ [xZ, xZ]) [(0, 1, .t 10), (1, 32, .t 12)]), xN 11 (.fz (.sto 35 (.t 2) (.t 13)))]
def yls4 : UL | _ => xF 0 3 43 1 :: xL 1 4 3 :: xQ 2 5 (.bin .sub (xK 1) (.t 4)) :: xF 3 6 0 1 :: xF 4 7 34 6 :: xQ 5 8 (.iad 2 1 (.t 7) (.t 5)) :: hid yls3
def ybs5 : UB | _ => .seq (reg0 (hid yls2) 2) (.seq (reg0 (hid yls4) 12) .ret)
attribute [simp] yls2 yls3 yls4 ybs5
def c_BFine : EB × List QOp × Nat := ((hid ybs5), [(.lda 35 (.t 2))], 14)
theorem k_BFine : cfun Tryz.prog 177 = some c_BFine := by kernel_rfl
def ybsb : UB | _ => .seq (reg0 [xW 0 2 178 0, xC 1 4 0] 2) (.seq (.seq (reg0 [xM 0 5 1, xF 1 6 43 2, xL 2 7 6, xb 3 8 .eql 5 7] 4) (.cond (.t 8) (.seq (reg0 [xF 0 9 0 2, xF 1 10 36 9, xL 2 11 10, xM 3 4 11] 4) .ret) .skip)) (.seq (reg0 [xC 0 4 0] 1) .ret))
attribute [simp] ybsb
def c_BWait : EB × List QOp × Nat := ((hid ybsb), [(.mov (.t 4))], 12)
theorem k_BWait : cfun Tryz.prog 178 = some c_BWait := by kernel_rfl
def ylsd : UL | _ => [⟨11, (some 16), none, (.call 176 [.t 15]), [12]⟩, xO 13 18 (.call 177 [.t 17]), xO 14 19 (.call 176 [.t 18]), xO 15 20 (.call 141 [.t 16, .t 19]), xN 16 (.fz (.sto 1 (.t 4) (.t 20)))]
def ylse : UL | _ => xQ 6 11 (.bsl 1 [xZ] 1 [(0, .t 10)]) :: xF 7 12 0 2 :: xF 8 13 36 12 :: xL 9 14 13 :: xQ 10 15 (.build (([xS] : List Value) ++ zU8 ++ [xZ, xZ]) [(0, 1, .t 11), (34, 1, .t 14)]) :: xD 12 17 76 2 :: hid ylsd
def ylsf : UL | _ => xF 0 5 43 2 :: xL 1 6 5 :: xF 2 7 0 2 :: xF 3 8 34 7 :: xQ 4 9 (.iad 2 1 (.t 8) (.t 6)) :: xL 5 10 9 :: hid ylse
def ybsg : UB | _ => .seq (reg0 [xW 0 2 178 0, xW 1 3 127 1, xQ 2 4 (.alloc 109 [xS])] 3) (.seq (reg1 (hid ylsf) 17) .ret)
attribute [simp] ylsd ylse ylsf ybsg
def c_BOwn : EB × List QOp × Nat := ((hid ybsg), [(.lda 1 (.t 4))], 21)
theorem k_BOwn : cfun Tryz.prog 138 = some c_BOwn := by kernel_rfl
def ylsi : UL | _ => [xL 6 11 10, xQ 7 12 (.bsl 1 [xZ] 1 [(0, .t 11)]), xO 8 13 (.call 36 [.t 12]), xN 9 (.fz (.sto 1 (.t 4) (.t 13)))]
def ylsj : UL | _ => xF 0 5 43 2 :: xL 1 6 5 :: xQ 2 7 (.bin .sub (xK 1) (.t 6)) :: xF 3 8 0 2 :: xF 4 9 34 8 :: xQ 5 10 (.iad 2 1 (.t 9) (.t 7)) :: hid ylsi
def ybsk : UB | _ => .seq (reg0 [xW 0 2 178 0, xW 1 3 127 1, xQ 2 4 (.alloc 109 [xS])] 3) (.seq (reg0 (hid ylsj) 10) .ret)
attribute [simp] ylsi ylsj ybsk
def c_BOther : EB × List QOp × Nat := ((hid ybsk), [(.lda 1 (.t 4))], 14)
theorem k_BOther : cfun Tryz.prog 139 = some c_BOther := by kernel_rfl
def ylsm : UL | _ => [xF 0 8 1 3, xL 1 9 8, xQ 2 10 (.bin .sub (xK 1) (.t 9)), xM 3 5 10]
def ylsn : UL | _ => [xQ 11 22 (.build (([xS] : List Value) ++ zU8 ++ [xZ, xZ]) [(0, 1, .t 16), (1, 32, .t 18), (34, 1, .t 21)]), xN 13 (.fz (.sto 35 (.t 6) (.t 22)))]
def ylso : UL | _ => xF 6 17 4 3 :: xD 7 18 32 17 :: xD 8 19 76 2 :: xM 9 20 5 :: xQ 12 6 (.alloc 196 (([xS] : List Value) ++ zU8 ++ [xZ, xZ])) :: ⟨10, (some 21), none, (.call 178 [.t 19, .t 20]), [0, 1, 2, 3, 4, 5, 6, 7, 12]⟩ :: hid ylsn
def ylsp : UL | _ => xM 0 11 5 :: xF 1 12 0 2 :: xF 2 13 34 12 :: xQ 3 14 (.iad 2 1 (.t 13) (.t 11)) :: xL 4 15 14 :: xQ 5 16 (.bsl 1 [xZ] 1 [(0, .t 15)]) :: hid ylso
def ylsq : UL | _ => [xQ 14 7 (.alloc 196 (([xS] : List Value) ++ zU8 ++ [xZ, xZ])), ⟨12, (some 35), none, (.call 178 [.t 32, .t 34]), [0, 1, 2, 3, 4, 5, 6, 7, 8, 14]⟩, xQ 13 36 (.build (([xS] : List Value) ++ zU8 ++ [xZ, xZ]) [(0, 1, .t 29), (33, 1, .t 31), (34, 1, .t 35)]), xN 15 (.fz (.sto 35 (.t 7) (.t 36)))]
def ylsr : UL | _ => xQ 6 29 (.bsl 1 [xZ] 1 [(0, .t 28)]) :: xF 7 30 3 3 :: xL 8 31 30 :: xD 9 32 76 2 :: xF 10 33 1 3 :: xL 11 34 33 :: hid ylsq
def ylss : UL | _ => xF 0 23 1 3 :: xL 1 24 23 :: xF 2 25 0 2 :: xF 3 26 34 25 :: xQ 4 27 (.iad 2 1 (.t 26) (.t 24)) :: xL 5 28 27 :: hid ylsr
def ylst : UL | _ => [xN 6 (.fz (.sto 1 (.t 4) (.t 42)))]
def ylsu : UL | _ => xD 0 37 35 6 :: xD 1 38 35 7 :: xD 2 39 76 2 :: ⟨3, (some 40), none, (.call 177 [.t 39]), [0, 1]⟩ :: xO 4 41 (.fz (.q (.bsl 35 (([xS] : List Value) ++ zU8 ++ [xZ, xZ]) 3 [(0, .t 37), (1, .t 38), (2, .t 40)]))) :: xQ 5 42 (.build [xS] [(0, 1, .t 41)]) :: hid ylst
def ybsw : UB | _ => .seq (reg0 [xW 0 2 178 0, xW 1 3 127 1, xQ 2 4 (.alloc 109 [xS])] 3) (.seq (reg0 (hid ylsm) 4) (.seq (reg1 (hid ylsp) 14) (.seq (reg1 (hid ylss) 16) (.seq (reg1 (hid ylsu) 7) .ret))))
attribute [simp] ylsm ylsn ylso ylsp ylsq ylsr ylss ylst ylsu ybsw
def c_BPaid : EB × List QOp × Nat := ((hid ybsw), [(.lda 1 (.t 4))], 43)
theorem k_BPaid : cfun Tryz.prog 140 = some c_BPaid := by kernel_rfl
def ylsz : UL | _ => [xM 6 6 14]
def ylt0 : UL | _ => xF 0 9 1 4 :: xQ 1 10 (.iad 2 1 (.t 9) (xK 0)) :: xL 2 11 10 :: xF 3 12 37 3 :: xL 4 13 12 :: xb 5 14 .sub 11 13 :: hid ylsz
def ylt2 : UL | _ => [xF 0 15 1 4, xQ 1 16 (.iad 2 1 (.t 15) (xK 1)), xL 2 17 16, xM 3 6 17]
def ybt3 : UB | _ => .seq (reg0 [xW 0 3 42 0, xW 1 4 49 1, xC 2 6 0] 3) (.seq (.seq (reg0 [xM 0 7 2, xc 1 8 .eql 7 0] 2) (.cond (.t 8) (.seq (reg0 (hid ylt0) 7) .ret) .skip)) (.seq (reg0 (hid ylt2) 4) .ret))
attribute [simp] ylsz ylt0 ylt2 ybt3
def c_BHas : EB × List QOp × Nat := ((hid ybt3), [(.mov (.t 6))], 18)
theorem k_BHas : cfun Tryz.prog 137 = some c_BHas := by kernel_rfl
def mkC (p : Prm) (s : Sta) (o : Int) (lock : List UInt8) : List EC := prmC p ++ (staC s ++ (iC o :: hc lock))
def MKv (p : Prm) (s : Sta) (o : Int) (lock : List UInt8) : EV := .v (.agg (mkC p s o lock))
def mkF (p : Prm) (s : Sta) (o : Int) (lock : List UInt8) : List FV := prmF p ++ ([.lit (.int .i64 s.num), .lit (.int .i64 s.h0), .lit (.int .i64 s.h1), .sl 36 (payv s.pays), .sl 3 (holv s.holds)] ++ (iF o :: hf lock))
theorem mkF_fz (p : Prm) (s : Sta) (o : Int) (lock : List UInt8) : (mkF p s o lock).map EC.fz = mkC p s o lock := by simp [mkF, mkC, prmF_fz, staC, iF, iC]
@[simp] theorem conAll_mkC (H : Nat → Option EO) (ids : List Nat) (p : Prm) (s : Sta) (o : Int) (l : List UInt8) : conAll H ids (mkC p s o l) = some (mkC p s o l) := by rw [← mkF_fz]; exact conAll_mp H ids _
@[simp] theorem strAll_mkC (ids : List Nat) (p : Prm) (s : Sta) (o : Int) (l : List UInt8) : strAll ids (mkC p s o l) = some (mkC p s o l) := by rw [← mkF_fz]; exact strAll_mp ids _
@[simp] theorem refs_mkC (p : Prm) (s : Sta) (o : Int) (l : List UInt8) : (mkC p s o l).flatMap refsC = [] := by rw [← mkF_fz]; exact refs_mp _
@[simp] theorem fz_mkC (ids : List Nat) (p : Prm) (s : Sta) (o : Int) (l : List UInt8) : (mkC p s o l).flatMap (fzC ids) = [] := by rw [← mkF_fz]; exact fz_mp ids _
@[simp] theorem ren_mkC (g : Nat → Nat) (p : Prm) (s : Sta) (o : Int) (l : List UInt8) : (mkC p s o l).map (renC g) = mkC p s o l := by rw [← mkF_fz]; exact ren_mp g _
section
variable {p : Prm} {lock : List UInt8} (h : p.tx.length = 32) (hl : lock.length = 32) (s : Sta) (o : Int)
include h
theorem mk_p : (mkC p s o lock).take 38 = prmC p := by unfold mkC; rw [← prmC_len h, List.take_left]
theorem mk_d38 : (mkC p s o lock).drop 38 = staC s ++ (iC o :: hc lock) := by unfold mkC; rw [← prmC_len h, List.drop_left]
theorem mk_s : ((mkC p s o lock).drop 38).take 5 = staC s := by rw [mk_d38 h]; rfl
theorem mk_d43 : (mkC p s o lock).drop 43 = iC o :: hc lock := by rw [show 43 = 38 + 5 from rfl, ← List.drop_drop, mk_d38 h]; rfl
theorem mk_d44 : (mkC p s o lock).drop 44 = hc lock := by rw [show 44 = 43 + 1 from rfl, ← List.drop_drop, mk_d43 h]; rfl
theorem mk_43 : (mkC p s o lock)[43]? = some (iC o) := by
 have := congrArg (·[0]?) (mk_d43 (lock := lock) h s o)
 simpa using this
theorem mk_at (i : Nat) (hi : i < 6) : (mkC p s o lock)[32 + i]? = [iC p.n, iC p.am, iC p.k0, iC p.k1, iC p.dl, iC p.fe][i]? := by
 have e : (hc p.tx).length = 32 := by rw [hc_len, h]
 unfold mkC prmC
 rw [List.append_assoc, List.getElem?_append_right (by omega), e, Nat.add_sub_cancel_left, List.getElem?_append_left (by simp; omega)]
theorem mk_34 : (mkC p s o lock)[34]? = some (iC p.k0) := mk_at h s o 2 (by omega)
theorem mk_35 : (mkC p s o lock)[35]? = some (iC p.k1) := mk_at h s o 3 (by omega)
theorem mk_36 : (mkC p s o lock)[36]? = some (iC p.dl) := mk_at h s o 4 (by omega)
include hl
theorem mk_lock : ((mkC p s o lock).drop 44).take 32 = hc lock := by rw [mk_d44 h]; exact hc_t32 hl
theorem mk_len : (mkC p s o lock).length = 76 := by simp [mkC, prmC_len h, staC, hl]
theorem mk_take : (mkC p s o lock).take 76 = mkC p s o lock := List.tkL (by rw [mk_len h hl]; omega)
end
def keyO (p : Prm) (o : Int) : Int := if o = 0 then p.k0 else p.k1
def fineB (p : Prm) (o : Int) (lock : List UInt8) : Bra := ⟨[keyO p (1 - o)], lock, 0, 0⟩
def waitV (p : Prm) (o who : Int) : Int := if who = o then p.dl else 0
def ownB (p : Prm) (o : Int) (lock : List UInt8) : List Bra := [⟨[keyO p o], hz, 0, p.dl⟩, fineB p o lock]
def paidB (p : Prm) (o : Int) (lock : List UInt8) (x : Pay) : List Bra := [⟨[keyO p (1 - x.fr)], x.lock, 0, waitV p o (1 - x.fr)⟩, ⟨[keyO p x.fr], hz, x.af, waitV p o x.fr⟩, fineB p o lock]
theorem take33h (a b : EC) : List.take 33 (hc hz ++ [a, b]) = hc hz ++ [a] := by
 rw [List.take_append, List.tkL (by simp [hz])]
 rfl
theorem take32h (a b : EC) : List.take 32 (hc hz ++ [a, b]) = hc hz := by
 rw [List.take_append, List.tkL (by simp [hz])]
 simp [hz]
theorem drop32h (a b : EC) : List.drop 32 (hc hz ++ [a, b]) = [a, b] := by
 rw [List.drop_append, List.drop_of_length_le (by simp [hz])]
 rfl
theorem drop33h (a b : EC) : List.drop 33 (hc hz ++ [a, b]) = [b] := by
 rw [List.drop_append, List.drop_of_length_le (by simp [hz])]
 rfl
theorem take33l {l : List UInt8} (h : l.length = 32) (a b : EC) : List.take 33 (hc l ++ [a, b]) = hc l ++ [a] := by
 rw [List.take_append, List.tkL (by simp [h]), hc_len, h]
 rfl
theorem take34l {l : List UInt8} (h : l.length = 32) (a b : EC) : List.take 34 (hc l ++ [a, b]) = hc l ++ [a, b] := List.tkL (by simp [h])
theorem drop34l {l : List UInt8} (h : l.length = 32) (a b : EC) : List.drop 34 (hc l ++ [a, b]) = [] := by rw [List.drop_eq_nil_iff]; simp [h]
theorem drop34h (a b : EC) : List.drop 34 (hc hz ++ [a, b]) = [] := by rw [List.drop_eq_nil_iff]; simp [hz]
theorem bfold (k a b : Int) (l : List UInt8) : EC.fz (FV.sl 1 [[FV.lit (.int .i64 k)]]) :: (hc l ++ [EC.fz (FV.lit (.int .i64 a)), EC.fz (FV.lit (.int .i64 b))]) = braC ⟨[k], l, a, b⟩ := rfl
theorem rows_mp : ∀ l : List FV, (l.map EC.fz).flatMap rowsE = []
 | [] => rfl
 | a :: r => by simp only [List.map_cons, List.flatMap_cons, rows_mp r]; rfl
theorem fzM_mp (H : Nat → Option EO) (d : List Nat) : ∀ l : List FV, (l.map EC.fz).map (fzM H d) = l.map EC.fz
 | [] => rfl
 | a :: r => by rw [List.map_cons, List.map_cons, fzM_mp H d r]; rfl
@[simp] theorem rows_braC (b : Bra) : (braC b).flatMap rowsE = [] := by rw [← braF_fz]; exact rows_mp _
@[simp] theorem fzM_braC (H : Nat → Option EO) (d : List Nat) (b : Bra) : (braC b).map (fzM H d) = braC b := by rw [← braF_fz]; exact fzM_mp H d _
@[simp] theorem rows_mkC (p : Prm) (s : Sta) (o : Int) (l : List UInt8) : (mkC p s o l).flatMap rowsE = [] := by rw [← mkF_fz]; exact rows_mp _
@[simp] theorem fzM_mkC (H : Nat → Option EO) (d : List Nat) (p : Prm) (s : Sta) (o : Int) (l : List UInt8) : (mkC p s o l).map (fzM H d) = mkC p s o l := by rw [← mkF_fz]; exact fzM_mp H d _
theorem bsing (b : Bra) : [braF b] = brav [b] := rfl
theorem finL {post : EV → List (Option EO) → Prop} {T : List EV} {H : Nat → Option EO} {m i o L : Nat} {ty : TypeId} (fs : List FV) (hL : fs.length = L) (hT : nth T i = .v (.c (.ptr o 0))) (hH : H o = some (.box ty (fs.map EC.fz))) (hp : post (.v (.agg (fs.map EC.fz))) []) : FinQ 0 [QOp.lda L (.t i)] post .ret ⟨T, H, m⟩ := by
 have hv : resV T H [QOp.lda L (.t i)] = some (.v (.agg (fs.map EC.fz))) := by
  subst hL
  have tk : List.take fs.length (List.map EC.fz fs) = List.map EC.fz fs := List.tkL (by simp)
  simp [resV, evT, hT, hH, tk]
 exact fin [] (by decide) hv (y := .v (.agg (fs.map EC.fz))) (by simp [conR, conT, conAll_mp]) rfl hp
theorem w_0 : IntKind.i64.wrap 0 = 0 := by decide +kernel
theorem w_1 : IntKind.i64.wrap 1 = 1 := by decide +kernel
theorem hz_len : hz.length = 32 := rfl
theorem keyO_i64 {p : Prm} (h : p.ok) (o : Int) : i64 (keyO p o) := by
 unfold keyO
 split
 ·exact h.2.2.2.1
 ·exact h.2.2.2.2.1
theorem BFine_ok (p : Prm) (s : Sta) (o : Int) (lock : List UInt8) (hp : p.tx.length = 32) (hl : lock.length = 32) (ho : o = 0 ∨ o = 1) : ECalls Tryz.prog 177 [MKv p s o lock] [] fun y H' => H' = [] ∧ y = .v (.agg (braC (fineB p o lock))) := by
 have l0 := mk_len hp hl s o
 have e34 := idx_of (mk_34 (lock := lock) hp s o) (by omega)
 have e35 := idx_of (mk_35 (lock := lock) hp s o) (by omega)
 have e43 := idx_of (mk_43 (lock := lock) hp s o) (by omega)
 have d44 := mk_lock hp hl s o
 have lb := bc_len (b := fineB p o lock) hl
 refine ecalls k_BFine ?_
 rcases ho with rfl | rfl
 ·simp [c_BFine, MKv, I, l0, e43, iC, w_1, w_0, e34, e35, d44, drop34h, hl]
  exact finL (braF (fineB p 0 lock)) (bf_len hl) rfl (by rw [braF_fz]; rfl) ⟨rfl, by rw [braF_fz]⟩
 ·simp [c_BFine, MKv, I, l0, e43, iC, w_1, w_0, e34, e35, d44, drop34h, hl]
  exact finL (braF (fineB p 1 lock)) (bf_len hl) rfl (by rw [braF_fz]; rfl) ⟨rfl, by rw [braF_fz]⟩
theorem BWait_ok (p : Prm) (s : Sta) (o : Int) (lock : List UInt8) (who : Int) (hp : p.tx.length = 32) (hl : lock.length = 32) : ECalls Tryz.prog 178 [MKv p s o lock, I .i64 who] [] fun y H' => H' = [] ∧ y = I .i64 (waitV p o who) := by
 have l0 := mk_len hp hl s o
 have t0 := mk_take hp hl s o
 have mp := mk_p (lock := lock) hp s o
 have e34 := idx_of (mk_34 (lock := lock) hp s o) (by omega)
 have e35 := idx_of (mk_35 (lock := lock) hp s o) (by omega)
 have e36 := idx_of (mk_36 (lock := lock) hp s o) (by omega)
 have e43 := idx_of (mk_43 (lock := lock) hp s o) (by omega)
 refine ecalls k_BWait ?_
 simp [c_BWait, MKv, I, l0, e43, iC]
 by_cases c : who = o
 ·rw [show waitV p o who = p.dl from if_pos c]
  simp [c, l0, e36, iC]
  exact fin0
 ·rw [show waitV p o who = 0 from if_neg c]
  simp [c]
  exact fin0
theorem BOne_ok (b : Bra) (hb : b.lock.length = 32) : ECalls Tryz.prog 176 [.v (.agg (braC b))] [] fun y H' => H' = [] ∧ y = CNv [b] := by
 have l0 := bc_len hb
 have tk := bc_take hb
 refine ecalls k_BOne ?_
 simp [c_BOne, l0, tk, bf_len hb]
 exact fin [] (by decide) rfl rfl rfl ⟨rfl, by simp [CNv, brav]⟩
theorem fineB_ok {p : Prm} {o : Int} {lock : List UInt8} (hp : p.ok) (hl : lock.length = 32) : (fineB p o lock).ok := ⟨by simp [fineB]; exact keyO_i64 hp _, hl, by simp [fineB, i64], by simp [fineB, i64], by simp [fineB]⟩
theorem BOwn_ok (p : Prm) (s : Sta) (o : Int) (lock : List UInt8) (x : Pay) (hp : p.ok) (hl : lock.length = 32) (ho : o = 0 ∨ o = 1) (hx : x.lock.length = 32) : ECalls Tryz.prog 138 [MKv p s o lock, .v (.agg (payC x))] [] fun y H' => H' = [] ∧ y = CNv (ownB p o lock) := by
 have hpo := hp
 replace hp := hp.1
 have l0 := mk_len hp hl s o
 have t0 := mk_take hp hl s o
 have e34 := idx_of (mk_34 (lock := lock) hp s o) (by omega)
 have e35 := idx_of (mk_35 (lock := lock) hp s o) (by omega)
 have e36 := idx_of (mk_36 (lock := lock) hp s o) (by omega)
 have e43 := idx_of (mk_43 (lock := lock) hp s o) (by omega)
 have hf := BFine_ok p s o lock hp hl ho
 have h1 := BOne_ok ⟨[keyO p o], hz, 0, p.dl⟩ hz_len
 have h2 := BOne_ok (fineB p o lock) hl
 have lb := bc_len (b := fineB p o lock) hl
 have h3 := POr_ok [⟨[keyO p o], hz, 0, p.dl⟩] [fineB p o lock] (by intro b hb; simp at hb; subst hb; exact ⟨by simp; exact keyO_i64 hpo _, hz_len, by simp [i64], hpo.2.2.2.2.2.1, by simp⟩) (by intro b hb; simp at hb; subst hb; exact fineB_ok hpo hl) (by simp) (by simp)
 refine ecalls k_BOwn ?_
 rcases ho with rfl | rfl
 ·have hk : keyO p 0 = p.k0 := rfl
  rw [hk] at h1 h3
  simp [c_BOwn, MKv, I, l0, t0, e43, e34, e35, e36, iC, w_1, w_0, hl, hx, take33h, take32h, drop32h, drop33h, drop34h, hz_len, lb, bsing, hc_t32 hl, hc_t32 hx, take33l hx, drop34l hx, take33l hl, drop34l hl, take34l hz_len, take34l hx]
  simp only [bfold]
  refine call0 (h1) (by simp [MKv, I, l0, t0, e43, e34, e35, e36, iC, w_1, w_0, hl, hx, take33h, take32h, drop32h, drop33h, drop34h, hz_len, lb, bsing, hc_t32 hl, hc_t32 hx, take33l hx, drop34l hx, take33l hl, drop34l hl, take34l hz_len, take34l hx]) ?_
  rintro y H' ⟨rfl, rfl⟩
  refine ⟨.inl (by simp [CNv]), le_ok rfl, ?_⟩
  simp [MKv, I, l0, t0, e43, e34, e35, e36, iC, w_1, w_0, hl, hx, take33h, take32h, drop32h, drop33h, drop34h, hz_len, lb, bsing, hc_t32 hl, hc_t32 hx, take33l hx, drop34l hx, take33l hl, drop34l hl, take34l hz_len, take34l hx]
  refine call0 (hf) (by simp [MKv, I, l0, t0, e43, e34, e35, e36, iC, w_1, w_0, hl, hx, take33h, take32h, drop32h, drop33h, drop34h, hz_len, lb, bsing, hc_t32 hl, hc_t32 hx, take33l hx, drop34l hx, take33l hl, drop34l hl, take34l hz_len, take34l hx]) ?_
  rintro y H' ⟨rfl, rfl⟩
  refine ⟨.inl (by simp), le_ok rfl, ?_⟩
  simp [MKv, I, l0, t0, e43, e34, e35, e36, iC, w_1, w_0, hl, hx, take33h, take32h, drop32h, drop33h, drop34h, hz_len, lb, bsing, hc_t32 hl, hc_t32 hx, take33l hx, drop34l hx, take33l hl, drop34l hl, take34l hz_len, take34l hx]
  refine call0 (h2) (by simp [MKv, I, l0, t0, e43, e34, e35, e36, iC, w_1, w_0, hl, hx, take33h, take32h, drop32h, drop33h, drop34h, hz_len, lb, bsing, hc_t32 hl, hc_t32 hx, take33l hx, drop34l hx, take33l hl, drop34l hl, take34l hz_len, take34l hx]) ?_
  rintro y H' ⟨rfl, rfl⟩
  refine ⟨.inl (by simp [CNv]), le_ok rfl, ?_⟩
  simp [CNv, MKv, I, l0, t0, e43, e34, e35, e36, iC, w_1, w_0, hl, hx, take33h, take32h, drop32h, drop33h, drop34h, hz_len, lb, bsing, hc_t32 hl, hc_t32 hx, take33l hx, drop34l hx, take33l hl, drop34l hl, take34l hz_len, take34l hx]
  refine call0 (h3) (by simp [CNv, MKv, I, l0, t0, e43, e34, e35, e36, iC, w_1, w_0, hl, hx, take33h, take32h, drop32h, drop33h, drop34h, hz_len, lb, bsing, hc_t32 hl, hc_t32 hx, take33l hx, drop34l hx, take33l hl, drop34l hl, take34l hz_len, take34l hx]) ?_
  rintro y H' ⟨rfl, rfl⟩
  refine ⟨.inl (by simp [CNv]), le_ok rfl, ?_⟩
  simp [CNv, MKv, I, l0, t0, e43, e34, e35, e36, iC, w_1, w_0, hl, hx, take33h, take32h, drop32h, drop33h, drop34h, hz_len, lb, bsing, hc_t32 hl, hc_t32 hx, take33l hx, drop34l hx, take33l hl, drop34l hl, take34l hz_len, take34l hx]
  exact fin [] (by decide) rfl rfl rfl ⟨rfl, by simp [ownB, CNv, hk]⟩
 ·have hk : keyO p 1 = p.k1 := rfl
  rw [hk] at h1 h3
  simp [c_BOwn, MKv, I, l0, t0, e43, e34, e35, e36, iC, w_1, w_0, hl, hx, take33h, take32h, drop32h, drop33h, drop34h, hz_len, lb, bsing, hc_t32 hl, hc_t32 hx, take33l hx, drop34l hx, take33l hl, drop34l hl, take34l hz_len, take34l hx]
  simp only [bfold]
  refine call0 (h1) (by simp [MKv, I, l0, t0, e43, e34, e35, e36, iC, w_1, w_0, hl, hx, take33h, take32h, drop32h, drop33h, drop34h, hz_len, lb, bsing, hc_t32 hl, hc_t32 hx, take33l hx, drop34l hx, take33l hl, drop34l hl, take34l hz_len, take34l hx]) ?_
  rintro y H' ⟨rfl, rfl⟩
  refine ⟨.inl (by simp [CNv]), le_ok rfl, ?_⟩
  simp [MKv, I, l0, t0, e43, e34, e35, e36, iC, w_1, w_0, hl, hx, take33h, take32h, drop32h, drop33h, drop34h, hz_len, lb, bsing, hc_t32 hl, hc_t32 hx, take33l hx, drop34l hx, take33l hl, drop34l hl, take34l hz_len, take34l hx]
  refine call0 (hf) (by simp [MKv, I, l0, t0, e43, e34, e35, e36, iC, w_1, w_0, hl, hx, take33h, take32h, drop32h, drop33h, drop34h, hz_len, lb, bsing, hc_t32 hl, hc_t32 hx, take33l hx, drop34l hx, take33l hl, drop34l hl, take34l hz_len, take34l hx]) ?_
  rintro y H' ⟨rfl, rfl⟩
  refine ⟨.inl (by simp), le_ok rfl, ?_⟩
  simp [MKv, I, l0, t0, e43, e34, e35, e36, iC, w_1, w_0, hl, hx, take33h, take32h, drop32h, drop33h, drop34h, hz_len, lb, bsing, hc_t32 hl, hc_t32 hx, take33l hx, drop34l hx, take33l hl, drop34l hl, take34l hz_len, take34l hx]
  refine call0 (h2) (by simp [MKv, I, l0, t0, e43, e34, e35, e36, iC, w_1, w_0, hl, hx, take33h, take32h, drop32h, drop33h, drop34h, hz_len, lb, bsing, hc_t32 hl, hc_t32 hx, take33l hx, drop34l hx, take33l hl, drop34l hl, take34l hz_len, take34l hx]) ?_
  rintro y H' ⟨rfl, rfl⟩
  refine ⟨.inl (by simp [CNv]), le_ok rfl, ?_⟩
  simp [CNv, MKv, I, l0, t0, e43, e34, e35, e36, iC, w_1, w_0, hl, hx, take33h, take32h, drop32h, drop33h, drop34h, hz_len, lb, bsing, hc_t32 hl, hc_t32 hx, take33l hx, drop34l hx, take33l hl, drop34l hl, take34l hz_len, take34l hx]
  refine call0 (h3) (by simp [CNv, MKv, I, l0, t0, e43, e34, e35, e36, iC, w_1, w_0, hl, hx, take33h, take32h, drop32h, drop33h, drop34h, hz_len, lb, bsing, hc_t32 hl, hc_t32 hx, take33l hx, drop34l hx, take33l hl, drop34l hl, take34l hz_len, take34l hx]) ?_
  rintro y H' ⟨rfl, rfl⟩
  refine ⟨.inl (by simp [CNv]), le_ok rfl, ?_⟩
  simp [CNv, MKv, I, l0, t0, e43, e34, e35, e36, iC, w_1, w_0, hl, hx, take33h, take32h, drop32h, drop33h, drop34h, hz_len, lb, bsing, hc_t32 hl, hc_t32 hx, take33l hx, drop34l hx, take33l hl, drop34l hl, take34l hz_len, take34l hx]
  exact fin [] (by decide) rfl rfl rfl ⟨rfl, by simp [ownB, CNv, hk]⟩
theorem BOther_ok (p : Prm) (s : Sta) (o : Int) (lock : List UInt8) (x : Pay) (hp : p.ok) (hl : lock.length = 32) (ho : o = 0 ∨ o = 1) (hx : x.lock.length = 32) : ECalls Tryz.prog 139 [MKv p s o lock, .v (.agg (payC x))] [] fun y H' => H' = [] ∧ y = CNv (allB [keyO p (1 - o)]) := by
 have hpo := hp
 replace hp := hp.1
 have l0 := mk_len hp hl s o
 have t0 := mk_take hp hl s o
 have e34 := idx_of (mk_34 (lock := lock) hp s o) (by omega)
 have e35 := idx_of (mk_35 (lock := lock) hp s o) (by omega)
 have e36 := idx_of (mk_36 (lock := lock) hp s o) (by omega)
 have e43 := idx_of (mk_43 (lock := lock) hp s o) (by omega)
 have h1 := PAll_ok [keyO p (1 - o)] (keys_one _).1
 have lb := bc_len (b := fineB p o lock) hl
 refine ecalls k_BOther ?_
 rcases ho with rfl | rfl
 ·have hk : keyO p (1 - 0) = p.k1 := rfl
  rw [hk] at h1 ⊢
  simp [c_BOther, MKv, I, l0, t0, e43, e34, e35, e36, iC, w_1, w_0, hl, hx, take33h, take32h, drop32h, drop33h, drop34h, hz_len, lb, bsing, hc_t32 hl, hc_t32 hx, take33l hx, drop34l hx, take33l hl, drop34l hl, take34l hz_len, take34l hx]
  refine call0 (h1) (by simp [IL, intv, MKv, I, l0, t0, e43, e34, e35, e36, iC, w_1, w_0, hl, hx, take33h, take32h, drop32h, drop33h, drop34h, hz_len, lb, bsing, hc_t32 hl, hc_t32 hx, take33l hx, drop34l hx, take33l hl, drop34l hl, take34l hz_len, take34l hx]) ?_
  rintro y H' ⟨rfl, rfl⟩
  refine ⟨.inl (by simp [CNv]), le_ok rfl, ?_⟩
  simp [CNv, MKv, I, l0, t0, e43, e34, e35, e36, iC, w_1, w_0, hl, hx, take33h, take32h, drop32h, drop33h, drop34h, hz_len, lb, bsing, hc_t32 hl, hc_t32 hx, take33l hx, drop34l hx, take33l hl, drop34l hl, take34l hz_len, take34l hx]
  exact fin [] (by decide) rfl rfl rfl ⟨rfl, by simp [CNv]⟩
 ·have hk : keyO p (1 - 1) = p.k0 := rfl
  rw [hk] at h1 ⊢
  simp [c_BOther, MKv, I, l0, t0, e43, e34, e35, e36, iC, w_1, w_0, hl, hx, take33h, take32h, drop32h, drop33h, drop34h, hz_len, lb, bsing, hc_t32 hl, hc_t32 hx, take33l hx, drop34l hx, take33l hl, drop34l hl, take34l hz_len, take34l hx]
  refine call0 (h1) (by simp [IL, intv, MKv, I, l0, t0, e43, e34, e35, e36, iC, w_1, w_0, hl, hx, take33h, take32h, drop32h, drop33h, drop34h, hz_len, lb, bsing, hc_t32 hl, hc_t32 hx, take33l hx, drop34l hx, take33l hl, drop34l hl, take34l hz_len, take34l hx]) ?_
  rintro y H' ⟨rfl, rfl⟩
  refine ⟨.inl (by simp [CNv]), le_ok rfl, ?_⟩
  simp [CNv, MKv, I, l0, t0, e43, e34, e35, e36, iC, w_1, w_0, hl, hx, take33h, take32h, drop32h, drop33h, drop34h, hz_len, lb, bsing, hc_t32 hl, hc_t32 hx, take33l hx, drop34l hx, take33l hl, drop34l hl, take34l hz_len, take34l hx]
  exact fin [] (by decide) rfl rfl rfl ⟨rfl, by simp [CNv]⟩
theorem BPaid_ok (p : Prm) (s : Sta) (o : Int) (lock : List UInt8) (x : Pay) (hp : p.ok) (hl : lock.length = 32) (ho : o = 0 ∨ o = 1) (hx : x.lock.length = 32) (hf : x.fr = 0 ∨ x.fr = 1) : ECalls Tryz.prog 140 [MKv p s o lock, .v (.agg (payC x))] [] fun y H' => H' = [] ∧ y = CNv (paidB p o lock x) := by
 have hpo := hp
 replace hp := hp.1
 have l0 := mk_len hp hl s o
 have t0 := mk_take hp hl s o
 have e34 := idx_of (mk_34 (lock := lock) hp s o) (by omega)
 have e35 := idx_of (mk_35 (lock := lock) hp s o) (by omega)
 have e36 := idx_of (mk_36 (lock := lock) hp s o) (by omega)
 have e43 := idx_of (mk_43 (lock := lock) hp s o) (by omega)
 have h1 := BFine_ok p s o lock hp hl ho
 have lb := bc_len (b := fineB p o lock) hl
 have hw1 := BWait_ok p s o lock (1 - x.fr) hp hl
 have hw2 := BWait_ok p s o lock x.fr hp hl
 obtain ⟨A, hA⟩ : ∃ A, waitV p o (1 - x.fr) = A := ⟨_, rfl⟩
 obtain ⟨B, hB⟩ : ∃ B, waitV p o x.fr = B := ⟨_, rfl⟩
 have hv : paidB p o lock x = [⟨[keyO p (1 - x.fr)], x.lock, 0, A⟩, ⟨[keyO p x.fr], hz, x.af, B⟩, fineB p o lock] := by rw [← hA, ← hB]; rfl
 rw [hA] at hw1
 rw [hB] at hw2
 refine ecalls k_BPaid ?_
 rw [hv]
 obtain ⟨id', fr, am, af, lk⟩ := x
 dsimp only at hf hw1 hw2 hx ⊢
 rcases hf with rfl | rfl
 ·have hw1' := hw1
  rw [show (1 - 0 : Int) = 1 from rfl] at hw1'
  have lb1 := bc_len (b := (⟨[p.k1], lk, 0, A⟩ : Bra)) hx
  have lb2 := bc_len (b := (⟨[p.k0], hz, af, B⟩ : Bra)) hz_len
  have tk1 := bc_take (b := (⟨[p.k1], lk, 0, A⟩ : Bra)) hx
  have tk2 := bc_take (b := (⟨[p.k0], hz, af, B⟩ : Bra)) hz_len
  have tkb := bc_take (b := fineB p o lock) hl
  have f1 := bf_len (b := (⟨[p.k1], lk, 0, A⟩ : Bra)) hx
  have f2 := bf_len (b := (⟨[p.k0], hz, af, B⟩ : Bra)) hz_len
  have f3 := bf_len (b := fineB p o lock) hl
  simp [c_BPaid, payC, MKv, I, l0, t0, e43, e34, e35, e36, iC, w_1, w_0, hl, hx, take33h, take32h, drop32h, drop33h, drop34h, hz_len, lb, bsing, hc_t32 hl, hc_t32 hx, take33l hx, drop34l hx, take33l hl, drop34l hl, take34l hz_len, take34l hx]
  refine call0 (hw1') (by simp [MKv, I, l0, t0, e43, e34, e35, e36, iC, w_1, w_0, hl, hx, take33h, take32h, drop32h, drop33h, drop34h, hz_len, lb, bsing, hc_t32 hl, hc_t32 hx, take33l hx, drop34l hx, take33l hl, drop34l hl, take34l hz_len, take34l hx]) ?_
  rintro y H' ⟨rfl, rfl⟩
  refine ⟨.inl (by simp [I]), le_ok rfl, ?_⟩
  simp [MKv, I, l0, t0, e43, e34, e35, e36, iC, w_1, w_0, hl, hx, take33h, take32h, drop32h, drop33h, drop34h, hz_len, lb, bsing, hc_t32 hl, hc_t32 hx, take33l hx, drop34l hx, take33l hl, drop34l hl, take34l hz_len, take34l hx]
  simp only [bfold]
  refine call0 (hw2) (by simp [MKv, I, l0, t0, e43, e34, e35, e36, iC, w_1, w_0, hl, hx, take33h, take32h, drop32h, drop33h, drop34h, hz_len, lb, bsing, hc_t32 hl, hc_t32 hx, take33l hx, drop34l hx, take33l hl, drop34l hl, take34l hz_len, take34l hx]) ?_
  rintro y H' ⟨rfl, rfl⟩
  refine ⟨.inl (by simp [I]), le_ok rfl, ?_⟩
  simp [MKv, I, l0, t0, e43, e34, e35, e36, iC, w_1, w_0, hl, hx, take33h, take32h, drop32h, drop33h, drop34h, hz_len, lb, bsing, hc_t32 hl, hc_t32 hx, take33l hx, drop34l hx, take33l hl, drop34l hl, take34l hz_len, take34l hx, lb1, lb2, tk1, tk2, tkb]
  simp only [bfold]
  refine call0 (h1) (by simp [MKv, I, l0, t0, e43, e34, e35, e36, iC, w_1, w_0, hl, hx, take33h, take32h, drop32h, drop33h, drop34h, hz_len, lb, bsing, hc_t32 hl, hc_t32 hx, take33l hx, drop34l hx, take33l hl, drop34l hl, take34l hz_len, take34l hx]) ?_
  rintro y H' ⟨rfl, rfl⟩
  refine ⟨.inl (by simp), le_ok rfl, ?_⟩
  simp [MKv, I, l0, t0, e43, e34, e35, e36, iC, w_1, w_0, hl, hx, take33h, take32h, drop32h, drop33h, drop34h, hz_len, lb, bsing, hc_t32 hl, hc_t32 hx, take33l hx, drop34l hx, take33l hl, drop34l hl, take34l hz_len, take34l hx, lb1, lb2, tk1, tk2, tkb, f1, f2, f3]
  exact fin [] (by decide) rfl rfl rfl ⟨rfl, by simp [CNv, brav, keyO]⟩
 ·have hw1' := hw1
  rw [show (1 - 1 : Int) = 0 from rfl] at hw1'
  have lb1 := bc_len (b := (⟨[p.k0], lk, 0, A⟩ : Bra)) hx
  have lb2 := bc_len (b := (⟨[p.k1], hz, af, B⟩ : Bra)) hz_len
  have tk1 := bc_take (b := (⟨[p.k0], lk, 0, A⟩ : Bra)) hx
  have tk2 := bc_take (b := (⟨[p.k1], hz, af, B⟩ : Bra)) hz_len
  have tkb := bc_take (b := fineB p o lock) hl
  have f1 := bf_len (b := (⟨[p.k0], lk, 0, A⟩ : Bra)) hx
  have f2 := bf_len (b := (⟨[p.k1], hz, af, B⟩ : Bra)) hz_len
  have f3 := bf_len (b := fineB p o lock) hl
  simp [c_BPaid, payC, MKv, I, l0, t0, e43, e34, e35, e36, iC, w_1, w_0, hl, hx, take33h, take32h, drop32h, drop33h, drop34h, hz_len, lb, bsing, hc_t32 hl, hc_t32 hx, take33l hx, drop34l hx, take33l hl, drop34l hl, take34l hz_len, take34l hx]
  refine call0 (hw1') (by simp [MKv, I, l0, t0, e43, e34, e35, e36, iC, w_1, w_0, hl, hx, take33h, take32h, drop32h, drop33h, drop34h, hz_len, lb, bsing, hc_t32 hl, hc_t32 hx, take33l hx, drop34l hx, take33l hl, drop34l hl, take34l hz_len, take34l hx]) ?_
  rintro y H' ⟨rfl, rfl⟩
  refine ⟨.inl (by simp [I]), le_ok rfl, ?_⟩
  simp [MKv, I, l0, t0, e43, e34, e35, e36, iC, w_1, w_0, hl, hx, take33h, take32h, drop32h, drop33h, drop34h, hz_len, lb, bsing, hc_t32 hl, hc_t32 hx, take33l hx, drop34l hx, take33l hl, drop34l hl, take34l hz_len, take34l hx]
  simp only [bfold]
  refine call0 (hw2) (by simp [MKv, I, l0, t0, e43, e34, e35, e36, iC, w_1, w_0, hl, hx, take33h, take32h, drop32h, drop33h, drop34h, hz_len, lb, bsing, hc_t32 hl, hc_t32 hx, take33l hx, drop34l hx, take33l hl, drop34l hl, take34l hz_len, take34l hx]) ?_
  rintro y H' ⟨rfl, rfl⟩
  refine ⟨.inl (by simp [I]), le_ok rfl, ?_⟩
  simp [MKv, I, l0, t0, e43, e34, e35, e36, iC, w_1, w_0, hl, hx, take33h, take32h, drop32h, drop33h, drop34h, hz_len, lb, bsing, hc_t32 hl, hc_t32 hx, take33l hx, drop34l hx, take33l hl, drop34l hl, take34l hz_len, take34l hx, lb1, lb2, tk1, tk2, tkb]
  simp only [bfold]
  refine call0 (h1) (by simp [MKv, I, l0, t0, e43, e34, e35, e36, iC, w_1, w_0, hl, hx, take33h, take32h, drop32h, drop33h, drop34h, hz_len, lb, bsing, hc_t32 hl, hc_t32 hx, take33l hx, drop34l hx, take33l hl, drop34l hl, take34l hz_len, take34l hx]) ?_
  rintro y H' ⟨rfl, rfl⟩
  refine ⟨.inl (by simp), le_ok rfl, ?_⟩
  simp [MKv, I, l0, t0, e43, e34, e35, e36, iC, w_1, w_0, hl, hx, take33h, take32h, drop32h, drop33h, drop34h, hz_len, lb, bsing, hc_t32 hl, hc_t32 hx, take33l hx, drop34l hx, take33l hl, drop34l hl, take34l hz_len, take34l hx, lb1, lb2, tk1, tk2, tkb, f1, f2, f3]
  exact fin [] (by decide) rfl rfl rfl ⟨rfl, by simp [CNv, brav, keyO]⟩
def ylt6 : UL | _ => [xQ 6 19 (.build [xZ, xS] [(0, 1, .t 14), (1, 1, .t 18)]), ⟨7, (some 20), none, (.fz (.q (.bsl 2 [xZ, xS] 1 [(0, .t 19)]))), [0]⟩, xO 8 21 (.app 112 2 32 (.t 13) (.t 20)), xN 9 (.fz (.sto 1 (.t 4) (.t 21)))]
def ylt7 : UL | _ => xL 0 13 4 :: xM 1 14 2 :: xM 2 15 3 :: xD 3 16 76 5 :: xD 4 17 36 8 :: ⟨5, (some 18), none, (.clo (.t 15) [.t 16, .t 17]), [0, 1]⟩ :: hid ylt6
def ylt8 : UL | _ => [xO 6 28 (.app 166 2 16 (.t 22) (.t 27)), xN 7 (.fz (.sto 1 (.t 6) (.t 28)))]
def ylt9 : UL | _ => xL 0 22 6 :: xM 1 23 0 :: xF 2 24 0 8 :: xL 3 25 24 :: xQ 4 26 (.build [xZ, xZ] [(0, 1, .t 23), (1, 1, .t 25)]) :: xQ 5 27 (.bsl 2 [xZ, xZ] 1 [(0, .t 26)]) :: hid ylt8
def ybtb : UB | _ => .seq (reg0 [xW 0 8 127 1] 1) (.seq (reg0 [xM 0 11 2, xc 1 12 .geq 11 10] 2) (.cond (.t 12) (.seq (reg1 (hid ylt7) 10) (reg0 (hid ylt9) 8)) .skip))
attribute [simp] ylt6 ylt7 ylt8 ylt9 ybtb
def c_BLay : EB × List QOp × Nat := ((hid ybtb), [], 29)
theorem k_BLay : cfun Tryz.prog 136 = some c_BLay := by kernel_rfl
def plcF (q : Int × Int) : List FV := [iF q.1, iF q.2]
def plcv (l : List (Int × Int)) : List (List FV) := l.map plcF
@[simp] theorem plcv_len (l : List (Int × Int)) : (plcv l).length = l.length := by simp [plcv]
def hasP (p : Prm) (s : Sta) (who : Int) : Int := if who = 0 then s.h0 - p.fe else s.h1
@[simp] theorem rows_payC (x : Pay) : (payC x).flatMap rowsE = [] := by rw [← payF_fz]; exact rows_mp _
@[simp] theorem fzM_payC (H : Nat → Option EO) (d : List Nat) (x : Pay) : (payC x).map (fzM H d) = payC x := by rw [← payF_fz]; exact fzM_mp H d _
theorem BHas_ok (p : Prm) (s : Sta) (who : Int) (hp : p.tx.length = 32) (hw : i64 (s.h0 - p.fe)) : ECalls Tryz.prog 137 [PVv p, SV s, I .i64 who] [] fun y H' => H' = [] ∧ y = I .i64 (hasP p s who) := by
 unfold i64 at hw
 have l0 := prmC_len hp
 have e37 : (prmC p)[37]? = some (iC p.fe) := by
  have e : (hc p.tx).length = 32 := by rw [hc_len, hp]
  unfold prmC
  rw [List.getElem?_append_right (by omega), e]; rfl
 have e37 := idx_of e37 (by omega)
 have w1 : IntKind.i64.wrap (s.h0 - p.fe) = s.h0 - p.fe := wrap_i64 (by omega) (by omega)
 refine ecalls k_BHas ?_
 simp [c_BHas, PVv, SV, staC, I, l0, iC]
 by_cases c : who = 0
 ·rw [show hasP p s who = s.h0 - p.fe from if_pos c]
  simp [c, l0, e37, iC, w1]
  exact fin0
 ·rw [show hasP p s who = s.h1 from if_neg c]
  simp [c]
  exact fin0
def layH (p : Prm) (s : Sta) (o : Int) (lock : List UInt8) (L : List Outp) (Q : List (Int × Int)) : List EO :=
 [.box 69 [.row 3 L.length], .box 178 (mkC p s o lock), .box 161 [.row 4 Q.length], .row 112 2 (outv L), .row 166 2 (plcv Q)]
theorem BLay_no (f : FuncId) (p : Prm) (s : Sta) (o kind am : Int) (lock : List UInt8) (x : Pay) (L : List Outp) (Q : List (Int × Int)) (ha : am < 10) (hx : x.lock.length = 32) :
  ECalls Tryz.prog 136 [I .i64 kind, .v (.agg (payC x)), I .i64 am, .v (.c (.clo f [])), Ptr 0, Ptr 1, Ptr 2] (layH p s o lock L Q) fun y H' => H' = (layH p s o lock L Q).map some ∧ y = .tup [] := by
 have ha' : ¬ 10 ≤ am := by omega
 refine ecalls k_BLay ?_
 simp [c_BLay, I, Ptr, layH, ha']
 exact fin [] (by decide) rfl rfl (by simp [objsOut, show List.range 5 = [0, 1, 2, 3, 4] from rfl]) ⟨rfl, rfl⟩
theorem BLay_yes (f : FuncId) (c : List Bra) (p : Prm) (s : Sta) (o kind am : Int) (lock : List UInt8) (x : Pay) (L : List Outp) (Q : List (Int × Int)) (ha : 10 ≤ am) (hx : x.lock.length = 32) (hp : p.tx.length = 32) (hl : lock.length = 32) (hL : L.length ≤ 1000) (hQ : Q.length ≤ 1000)
  (hb : bodyOK Tryz.prog f = true) (hf : ECalls Tryz.prog f [MKv p s o lock, .v (.agg (payC x))] [] fun y H' => H' = [] ∧ y = CNv c) :
  ECalls Tryz.prog 136 [I .i64 kind, .v (.agg (payC x)), I .i64 am, .v (.c (.clo f [])), Ptr 0, Ptr 1, Ptr 2] (layH p s o lock L Q) fun y H' =>
   H' = [some (.box 69 [.row 5 (L.length + 1)]), some (.box 178 (mkC p s o lock)), some (.box 161 [.row 6 (Q.length + 1)]), none, none, some (.row 112 2 (outv (L ++ [⟨am, c⟩]))), some (.row 166 2 (plcv (Q ++ [(kind, x.id)])))] ∧ y = .tup [] := by
 have l0 := mk_len hp hl s o
 have t0 := mk_take hp hl s o
 have tp := payC_take hx
 have lp := payC_len hx
 refine ecalls k_BLay ?_
 simp [c_BLay, I, Ptr, layH, ha, l0, t0, tp, lp]
 refine ⟨hb, ?_⟩
 refine call0 hf (by simp [MKv]) ?_
 rintro y H' ⟨rfl, rfl⟩
 refine ⟨.inl (by simp [CNv]), le_ok rfl, ?_⟩
 simp [CNv]
 refine ⟨⟨by omega, by omega⟩, ?_⟩
 have e0 : (payC x)[0]? = some (.fz (.lit (.int .i64 x.id))) := rfl
 simp [e0]
 refine ⟨⟨by omega, by omega⟩, ?_⟩
 have hol : outv L ++ [[FV.lit (Value.int IntKind.i64 am), FV.sl 35 (brav c)]] = outv (L ++ [⟨am, c⟩]) := by simp [outv, outF, iF]
 have hpl : plcv Q ++ [[FV.lit (Value.int IntKind.i64 kind), FV.lit (Value.int IntKind.i64 x.id)]] = plcv (Q ++ [(kind, x.id)]) := by simp [plcv, plcF, iF]
 rw [hol, hpl]
 exact fin [181, 309] (by decide) rfl rfl (by simp [objsOut, show List.range 5 = [0, 1, 2, 3, 4] from rfl]) ⟨rfl, rfl⟩
def layN (p : Prm) (s : Sta) (o : Int) (lock : List UInt8) : List EO :=
 [.box 69 [.fz (.lit (.slice none 0 0))], .box 178 (mkC p s o lock), .box 161 [.fz (.lit (.slice none 0 0))]]
theorem lay_nil {f : FuncId} {args : List EV} {post : EV → List (Option EO) → Prop} {p : Prm} {s : Sta} {o : Int} {lock : List UInt8} (h : ECalls Tryz.prog f args (layH p s o lock [] []) post) : ECalls Tryz.prog f args (layN p s o lock) post := by
 refine ecalls_nilB (o := 0) (k := 0) (ty := 112) (es := 2) rfl rfl (by omega) ?_
 refine ecalls_nilB (o := 2) (k := 0) (ty := 166) (es := 2) rfl rfl (by omega) ?_
 exact h
def yltg : UL | _ => [xF 6 18 43 1, xL 7 19 18, xO 8 20 (.call 137 [.t 15, .t 17, .t 19]), xO 9 21 (.clo (.t 12) [(xK 1), .t 13, .t 20, (.k (.func (.func 138) #[] #[]))])]
def ylth : UL | _ => xM 0 12 6 :: xQ 1 13 (.build (([xZ, xZ, xZ, xZ] : List Value) ++ zU8) []) :: xF 2 14 0 1 :: xD 3 15 38 14 :: xF 4 16 38 1 :: xD 5 17 5 16 :: hid yltg
def ylti : UL | _ => [xF 6 28 43 1, xL 7 29 28, xQ 8 30 (.bin .sub (xK 1) (.t 29)), xO 9 31 (.call 137 [.t 25, .t 27, .t 30]), xO 10 32 (.clo (.t 22) [(xK 2), .t 23, .t 31, (.k (.func (.func 139) #[] #[]))])]
def yltj : UL | _ => xM 0 22 6 :: xQ 1 23 (.build (([xZ, xZ, xZ, xZ] : List Value) ++ zU8) []) :: xF 2 24 0 1 :: xD 3 25 38 24 :: xF 4 26 38 1 :: xD 5 27 5 26 :: hid ylti
def yltm : UL | _ => [xI 0 39 36 35 37, xD 1 40 36 39, xQ 2 8 (.alloc 127 (([xZ, xZ, xZ, xZ] : List Value) ++ zU8)), xN 3 (.sto 36 (.t 8) (.t 40))]
def yltn : UL | _ => [xM 0 41 6, xD 1 42 36 8, xF 2 43 2 8, xL 3 44 43, xO 4 45 (.clo (.t 41) [(xK 3), .t 42, .t 44, (.k (.func (.func 140) #[] #[]))])]
def ybtq : UB | _ => .seq (reg0 [xb 0 38 .lss 37 36] 1) (.seq (.cond (.t 38) .skip (.exit 0)) (.seq (.block 1 (.seq (reg0 (hid yltm) 4) (reg0 (hid yltn) 5))) (reg0 [xc 0 46 .add 37 1, xM 1 37 46] 2)))
def yltt : UL | _ => [xI 0 53 3 49 51, xD 1 54 3 53, xQ 2 10 (.alloc 124 [xZ, xZ, xS]), xN 3 (.fz (.sto 3 (.t 10) (.t 54)))]
def yltu : UL | _ => [xQ 6 61 (.build [xZ, xS] [(0, 1, .t 57), (1, 1, .t 60)]), ⟨7, (some 62), none, (.fz (.q (.bsl 2 [xZ, xS] 1 [(0, .t 61)]))), [0]⟩, xO 8 63 (.app 112 2 32 (.t 55) (.t 62)), xN 9 (.fz (.sto 1 (.t 4) (.t 63)))]
def yltv : UL | _ => xL 0 55 4 :: xF 1 56 1 10 :: xL 2 57 56 :: xF 3 58 2 10 :: xL 4 59 58 :: ⟨5, (some 60), none, (.call 36 [.t 59]), [0, 1, 2]⟩ :: hid yltu
def yltw : UL | _ => [xN 6 (.fz (.sto 1 (.t 5) (.t 69)))]
def yltx : UL | _ => xL 0 64 5 :: xF 1 65 0 10 :: xL 2 66 65 :: xQ 3 67 (.build [xZ, xZ] [(0, 1, (xK 4)), (1, 1, .t 66)]) :: xQ 4 68 (.bsl 2 [xZ, xZ] 1 [(0, .t 67)]) :: xO 5 69 (.app 166 2 16 (.t 64) (.t 68)) :: hid yltw
def ybu0 : UB | _ => .seq (.cond (.t 52) .skip (.exit 2)) (.seq (.block 3 (.seq (reg0 (hid yltt) 4) (.seq (reg1 (hid yltv) 10) (reg0 (hid yltx) 7)))) (reg0 [xc 0 70 .add 51 1, xM 1 51 70] 2))
def ybu1 : UB | _ => .seq (reg0 [xF 0 47 38 1, xF 1 48 4 47, xL 2 49 48, xE 3 50 49, xC 4 51 0] 5) (.block 2 (.loop (.seq (reg0 [xb 0 52 .lss 51 50] 1) (hid ybu0))))
def ybu3 : UB | _ => .seq (.seq (reg0 [xF 0 33 38 1, xF 1 34 3 33, xL 2 35 34, xE 3 36 35, xC 4 37 0] 5) (.block 0 (.loop (hid ybtq)))) (.seq (hid ybu1) (.seq (reg0 [xL 0 71 4, xL 1 72 5, xM 2 2 71, xM 3 3 72] 4) .ret))
def ybu4 : UB | _ => .seq (reg0 (hid ylth) 10) (.seq (reg0 (hid yltj) 11) (hid ybu3))
def ybu5 : UB | _ => .seq (reg0 [xQ 0 5 (.alloc 161 [xS])] 1) (.seq (reg0 [xQ 0 11 (.mkf 136 [.t 4, .t 1, .t 5]), xM 1 6 11] 2) (hid ybu4))
def ybu6 : UB | _ => .seq (reg0 [xW 0 1 178 0, xQ 1 2 (.mov (.k xS)), xQ 2 3 (.mov (.k xS))] 3) (.seq (reg0 [xQ 0 4 (.alloc 69 [xS])] 1) (hid ybu5))
attribute [simp] yltg ylth ylti yltj yltm yltn ybtq yltt yltu yltv yltw yltx ybu0 ybu1 ybu3 ybu4 ybu5 ybu6
def c_BOuts : EB × List QOp × Nat := ((hid ybu6), [(.mov (.t 2)), (.mov (.t 3))], 73)
theorem k_BOuts : cfun Tryz.prog 72 = some c_BOuts := by kernel_rfl
def zPy : Pay := ⟨0, 0, 0, 0, hz⟩
theorem mk_41 {p : Prm} {lock : List UInt8} (h : p.tx.length = 32) (s : Sta) (o : Int) : (mkC p s o lock)[41]? = some (.fz (.sl 36 (payv s.pays))) := by
 rw [show 41 = 38 + 3 from rfl, ← List.getElem?_drop, mk_d38 h]; rfl
theorem mk_42 {p : Prm} {lock : List UInt8} (h : p.tx.length = 32) (s : Sta) (o : Int) : (mkC p s o lock)[42]? = some (.fz (.sl 3 (holv s.holds))) := by
 rw [show 42 = 38 + 4 from rfl, ← List.getElem?_drop, mk_d38 h]; rfl
theorem zpid : zPy.id = 0 := rfl
theorem zpay : EC.fz (FV.lit (.int .i64 0)) :: EC.fz (FV.lit (.int .i64 0)) :: EC.fz (FV.lit (.int .i64 0)) :: EC.fz (FV.lit (.int .i64 0)) :: hc hz = payC zPy := rfl
def out1 (p : Prm) (s : Sta) (o : Int) (lock : List UInt8) : List Outp := if 10 ≤ hasP p s o then [⟨hasP p s o, ownB p o lock⟩] else []
def out2 (p : Prm) (s : Sta) (o : Int) : List Outp := if 10 ≤ hasP p s (1 - o) then [⟨hasP p s (1 - o), allB [keyO p (1 - o)]⟩] else []
def outP (p : Prm) (o : Int) (lock : List UInt8) (l : List Pay) : List Outp := l.map fun x => ⟨x.am, paidB p o lock x⟩
def outH (l : List Hol) : List Outp := l.map fun h => ⟨h.am, allB h.keys⟩
def outsB (p : Prm) (s : Sta) (o : Int) (lock : List UInt8) : List Outp := (out1 p s o lock ++ out2 p s o) ++ (outP p o lock s.pays ++ outH s.holds)
def plc1 (p : Prm) (s : Sta) (o : Int) : List (Int × Int) := if 10 ≤ hasP p s o then [(1, 0)] else []
def plc2 (p : Prm) (s : Sta) (o : Int) : List (Int × Int) := if 10 ≤ hasP p s (1 - o) then [(2, 0)] else []
def plcP (l : List Pay) : List (Int × Int) := l.map fun x => (3, x.id)
def plcH (l : List Hol) : List (Int × Int) := l.map fun h => (4, h.id)
def plcB (p : Prm) (s : Sta) (o : Int) : List (Int × Int) := (plc1 p s o ++ plc2 p s o) ++ (plcP s.pays ++ plcH s.holds)
def boT (s : Sta) (i : Nat) : List EV := [xA, Ptr 0, xA, xA, Ptr 1, Ptr 2, .v (.c (.clo 136 [(1, 0), (0, 0), (2, 0)])), xA, xA, xA, xA, xA, xA, xA, xA, xA, xA, xA, xA, xA, xA, xA, xA, xA, xA, xA, xA, xA, xA, xA, xA, xA, xA, xA, xA, PL s.pays, I .i64 s.pays.length, I .i64 i, xA, xA, xA, xA, xA, xA, xA, xA, xA, xA, xA, xA, xA, xA, xA, xA, xA, xA, xA, xA, xA, xA, xA, xA, xA, xA, xA, xA, xA, xA, xA, xA, xA, xA, .any]
def boL (p : Prm) (s : Sta) (o : Int) (lock : List UInt8) (L0 : List Outp) (Q0 : List (Int × Int)) (i : Nat) : List (Option EO) := [some (.box 178 (mkC p s o lock)), some (.box 69 [.row 3 (L0 ++ outP p o lock (s.pays.take i)).length]), some (.box 161 [.row 4 (Q0 ++ plcP (s.pays.take i)).length]), some (.row 112 2 (outv (L0 ++ outP p o lock (s.pays.take i)))), some (.row 166 2 (plcv (Q0 ++ plcP (s.pays.take i))))]
@[simp] theorem boL_len (p : Prm) (s : Sta) (o : Int) (lock : List UInt8) (L0 : List Outp) (Q0 : List (Int × Int)) (i : Nat) : (boL p s o lock L0 Q0 i).length = 5 := rfl
theorem BLay_body : bodyOK Tryz.prog 136 = true := by kernel_rfl
theorem BOwn_body : bodyOK Tryz.prog 138 = true := by kernel_rfl
theorem BOther_body : bodyOK Tryz.prog 139 = true := by kernel_rfl
theorem BPaid_body : bodyOK Tryz.prog 140 = true := by kernel_rfl
theorem BOuts_ok (p : Prm) (s : Sta) (o : Int) (lock : List UInt8) (hp : p.ok) (hl : lock.length = 32) (ho : o = 0 ∨ o = 1) (hs : s.ok) (hw : i64 (s.h0 - p.fe)) (hn : s.pays.length ≤ 8 ∧ s.holds.length ≤ 8) (hpay : ∀ x ∈ s.pays, 10 ≤ x.am ∧ (x.fr = 0 ∨ x.fr = 1)) (hhol : ∀ h ∈ s.holds, KeysOK h.keys) :
  ECalls Tryz.prog 72 [MKv p s o lock] [] fun y H' => H' = [] ∧ y = .tup [.c (.fz (.sl 2 (outv (outsB p s o lock)))), .c (.fz (.sl 2 (plcv (plcB p s o))))] := by
 have hpo := hp
 replace hp := hp.1
 obtain ⟨ok1, ok2, ok3, ok4, ok5, ok6, ok7⟩ := id hs
 have l0 := mk_len hp hl s o
 have t0 := mk_take hp hl s o
 have mp := mk_p (lock := lock) hp s o
 have ms := mk_s (lock := lock) hp s o
 have e43 := idx_of (mk_43 (lock := lock) hp s o) (by omega)
 have wo : IntKind.i64.wrap (1 - o) = 1 - o := by rcases ho with rfl | rfl <;> decide +kernel
 have e41 := idx_of (mk_41 (lock := lock) hp s o) (by omega)
 have e42 := idx_of (mk_42 (lock := lock) hp s o) (by omega)
 have hB1 := BHas_ok p s o hp hw
 have hB2 := BHas_ok p s (1 - o) hp hw
 have hown := BOwn_ok p s o lock zPy hpo hl ho rfl
 have hoth := BOther_ok p s o lock zPy hpo hl ho rfl
 refine ecalls k_BOuts ?_
 simp [c_BOuts, MKv, SV, PVv, staC, I, Ptr, l0, t0, mp, ms, e43, iC, layH, layN, wo, zpay, zpid, e41, e42]
 refine call0 hB1 (by simp [MKv, SV, PVv, staC, I, Ptr, l0, t0, mp, ms, e43, iC, layH, layN, wo, zpay, zpid, e41, e42]) ?_
 rintro y H' ⟨rfl, rfl⟩
 refine ⟨.inl (by simp [I]), le_ok rfl, ?_⟩
 simp [MKv, SV, PVv, staC, I, Ptr, l0, t0, mp, ms, e43, iC, layH, layN, wo, zpay, zpid, e41, e42]
 refine ⟨BLay_body, ?_⟩
 obtain ⟨L0, hL0⟩ : ∃ L0, out1 p s o lock ++ out2 p s o = L0 := ⟨_, rfl⟩
 obtain ⟨Q0, hQ0⟩ : ∃ Q0, plc1 p s o ++ plc2 p s o = Q0 := ⟨_, rfl⟩
 have hL8 : L0.length ≤ 2 := by rw [← hL0]; unfold out1 out2; split <;> split <;> simp
 have hQ8 : Q0.length ≤ 2 := by rw [← hQ0]; unfold plc1 plc2; split <;> split <;> simp
 have hvL : outsB p s o lock = L0 ++ (outP p o lock s.pays ++ outH s.holds) := by rw [← hL0]; rfl
 have hvQ : plcB p s o = Q0 ++ (plcP s.pays ++ plcH s.holds) := by rw [← hQ0]; rfl
 by_cases c0 : 10 ≤ hasP p s o <;> by_cases c1 : 10 ≤ hasP p s (1 - o)
 have hL1 : L0 = ([⟨hasP p s o, ownB p o lock⟩] ++ [⟨hasP p s (1 - o), allB [keyO p (1 - o)]⟩] : List Outp) := by rw [← hL0, show out1 p s o lock = [⟨hasP p s o, ownB p o lock⟩] from if_pos c0, show out2 p s o = [⟨hasP p s (1 - o), allB [keyO p (1 - o)]⟩] from if_pos c1]
 have hQ1 : Q0 = ([(1, 0)] ++ [(2, 0)] : List (Int × Int)) := by rw [← hQ0, show plc1 p s o = [(1, 0)] from if_pos c0, show plc2 p s o = [(2, 0)] from if_pos c1]
 refine callH [48, 0, 64] (lay_nil (BLay_yes 138 (ownB p o lock) p s o 1 (hasP p s o) lock zPy [] [] c0 rfl hp hl (by simp) (by simp) BOwn_body hown)) (by simp [I, Ptr]) (by simp [layH, layN]) (by simp) (by simp) (by simp) ?_
 rintro y H' ⟨rfl, rfl⟩
 refine ⟨.inl (by simp), by simp [layH], ?_⟩
 simp [MKv, SV, PVv, staC, I, Ptr, l0, t0, mp, ms, e43, iC, layH, layN, wo, zpay, zpid, e41, e42]
 refine call0 hB2 (by simp [MKv, SV, PVv, staC, I, Ptr, l0, t0, mp, ms, e43, iC, layH, layN, wo, zpay, zpid, e41, e42]) ?_
 rintro y H' ⟨rfl, rfl⟩
 refine ⟨.inl (by simp [I]), le_ok rfl, ?_⟩
 simp [MKv, SV, PVv, staC, I, Ptr, l0, t0, mp, ms, e43, iC, layH, layN, wo, zpay, zpid, e41, e42]
 refine ⟨BLay_body, ?_⟩
 refine callH [48, 0, 64, 258, 259] (BLay_yes 139 (allB [keyO p (1 - o)]) p s o 2 (hasP p s (1 - o)) lock zPy [⟨hasP p s o, ownB p o lock⟩] [(1, 0)] c1 rfl hp hl (by simp) (by simp) BOther_body hoth) (by simp [I, Ptr]) (by simp [layH, layN]) (by simp) (by simp) (by simp) ?_
 rintro y H' ⟨rfl, rfl⟩
 refine ⟨.inl (by simp), by simp [layH], ?_⟩
 simp [MKv, SV, PVv, staC, I, Ptr, l0, t0, mp, ms, e43, iC, layH, layN, wo, zpay, zpid, e41, e42]
 refine loopW _ (weak_norm [0, 48, 64, 432, 433] (boT s 0) (boL p s o lock L0 Q0 0) (by simp [boT, Ptr, I, PL]) (by simp [boL, outP, plcP, hL1, hQ1]) (by simp [boL]) (by simp) (by simp)) ?_
 rotate_left 1
 have hL1 : L0 = ([⟨hasP p s o, ownB p o lock⟩] ++ [] : List Outp) := by rw [← hL0, show out1 p s o lock = [⟨hasP p s o, ownB p o lock⟩] from if_pos c0, show out2 p s o = [] from if_neg c1]
 have hQ1 : Q0 = ([(1, 0)] ++ [] : List (Int × Int)) := by rw [← hQ0, show plc1 p s o = [(1, 0)] from if_pos c0, show plc2 p s o = [] from if_neg c1]
 refine callH [48, 0, 64] (lay_nil (BLay_yes 138 (ownB p o lock) p s o 1 (hasP p s o) lock zPy [] [] c0 rfl hp hl (by simp) (by simp) BOwn_body hown)) (by simp [I, Ptr]) (by simp [layH, layN]) (by simp) (by simp) (by simp) ?_
 rintro y H' ⟨rfl, rfl⟩
 refine ⟨.inl (by simp), by simp [layH], ?_⟩
 simp [MKv, SV, PVv, staC, I, Ptr, l0, t0, mp, ms, e43, iC, layH, layN, wo, zpay, zpid, e41, e42]
 refine call0 hB2 (by simp [MKv, SV, PVv, staC, I, Ptr, l0, t0, mp, ms, e43, iC, layH, layN, wo, zpay, zpid, e41, e42]) ?_
 rintro y H' ⟨rfl, rfl⟩
 refine ⟨.inl (by simp [I]), le_ok rfl, ?_⟩
 simp [MKv, SV, PVv, staC, I, Ptr, l0, t0, mp, ms, e43, iC, layH, layN, wo, zpay, zpid, e41, e42]
 refine ⟨BLay_body, ?_⟩
 refine callH [48, 0, 64, 258, 259] (BLay_no 139 p s o 2 (hasP p s (1 - o)) lock zPy [⟨hasP p s o, ownB p o lock⟩] [(1, 0)] (by omega) rfl) (by simp [I, Ptr]) (by simp [layH, layN]) (by simp) (by simp) (by simp) ?_
 rintro y H' ⟨rfl, rfl⟩
 refine ⟨.inl (by simp), by simp [layH], ?_⟩
 simp [MKv, SV, PVv, staC, I, Ptr, l0, t0, mp, ms, e43, iC, layH, layN, wo, zpay, zpid, e41, e42]
 refine loopW _ (weak_norm [0, 48, 64, 258, 259] (boT s 0) (boL p s o lock L0 Q0 0) (by simp [boT, Ptr, I, PL]) (by simp [boL, outP, plcP, hL1, hQ1]) (by simp [boL]) (by simp) (by simp)) ?_
 rotate_left 1
 have hL1 : L0 = ([] ++ [⟨hasP p s (1 - o), allB [keyO p (1 - o)]⟩] : List Outp) := by rw [← hL0, show out1 p s o lock = [] from if_neg c0, show out2 p s o = [⟨hasP p s (1 - o), allB [keyO p (1 - o)]⟩] from if_pos c1]
 have hQ1 : Q0 = ([] ++ [(2, 0)] : List (Int × Int)) := by rw [← hQ0, show plc1 p s o = [] from if_neg c0, show plc2 p s o = [(2, 0)] from if_pos c1]
 refine callH [48, 0, 64] (lay_nil (BLay_no 138 p s o 1 (hasP p s o) lock zPy [] [] (by omega) rfl)) (by simp [I, Ptr]) (by simp [layH, layN]) (by simp) (by simp) (by simp) ?_
 rintro y H' ⟨rfl, rfl⟩
 refine ⟨.inl (by simp), by simp [layH], ?_⟩
 simp [MKv, SV, PVv, staC, I, Ptr, l0, t0, mp, ms, e43, iC, layH, layN, wo, zpay, zpid, e41, e42]
 refine call0 hB2 (by simp [MKv, SV, PVv, staC, I, Ptr, l0, t0, mp, ms, e43, iC, layH, layN, wo, zpay, zpid, e41, e42]) ?_
 rintro y H' ⟨rfl, rfl⟩
 refine ⟨.inl (by simp [I]), le_ok rfl, ?_⟩
 simp [MKv, SV, PVv, staC, I, Ptr, l0, t0, mp, ms, e43, iC, layH, layN, wo, zpay, zpid, e41, e42]
 refine ⟨BLay_body, ?_⟩
 refine callH [48, 0, 64, 256, 257] (BLay_yes 139 (allB [keyO p (1 - o)]) p s o 2 (hasP p s (1 - o)) lock zPy [] [] c1 rfl hp hl (by simp) (by simp) BOther_body hoth) (by simp [I, Ptr]) (by simp [layH, layN]) (by simp) (by simp) (by simp) ?_
 rintro y H' ⟨rfl, rfl⟩
 refine ⟨.inl (by simp), by simp [layH], ?_⟩
 simp [MKv, SV, PVv, staC, I, Ptr, l0, t0, mp, ms, e43, iC, layH, layN, wo, zpay, zpid, e41, e42]
 refine loopW _ (weak_norm [0, 48, 64, 432, 433] (boT s 0) (boL p s o lock L0 Q0 0) (by simp [boT, Ptr, I, PL]) (by simp [boL, outP, plcP, hL1, hQ1]) (by simp [boL]) (by simp) (by simp)) ?_
 rotate_left 1
 have hL1 : L0 = ([] ++ [] : List Outp) := by rw [← hL0, show out1 p s o lock = [] from if_neg c0, show out2 p s o = [] from if_neg c1]
 have hQ1 : Q0 = ([] ++ [] : List (Int × Int)) := by rw [← hQ0, show plc1 p s o = [] from if_neg c0, show plc2 p s o = [] from if_neg c1]
 refine callH [48, 0, 64] (lay_nil (BLay_no 138 p s o 1 (hasP p s o) lock zPy [] [] (by omega) rfl)) (by simp [I, Ptr]) (by simp [layH, layN]) (by simp) (by simp) (by simp) ?_
 rintro y H' ⟨rfl, rfl⟩
 refine ⟨.inl (by simp), by simp [layH], ?_⟩
 simp [MKv, SV, PVv, staC, I, Ptr, l0, t0, mp, ms, e43, iC, layH, layN, wo, zpay, zpid, e41, e42]
 refine call0 hB2 (by simp [MKv, SV, PVv, staC, I, Ptr, l0, t0, mp, ms, e43, iC, layH, layN, wo, zpay, zpid, e41, e42]) ?_
 rintro y H' ⟨rfl, rfl⟩
 refine ⟨.inl (by simp [I]), le_ok rfl, ?_⟩
 simp [MKv, SV, PVv, staC, I, Ptr, l0, t0, mp, ms, e43, iC, layH, layN, wo, zpay, zpid, e41, e42]
 refine ⟨BLay_body, ?_⟩
 refine callH [48, 0, 64, 256, 257] (BLay_no 139 p s o 2 (hasP p s (1 - o)) lock zPy [] [] (by omega) rfl) (by simp [I, Ptr]) (by simp [layH, layN]) (by simp) (by simp) (by simp) ?_
 rintro y H' ⟨rfl, rfl⟩
 refine ⟨.inl (by simp), by simp [layH], ?_⟩
 simp [MKv, SV, PVv, staC, I, Ptr, l0, t0, mp, ms, e43, iC, layH, layN, wo, zpay, zpid, e41, e42]
 refine loopW _ (weak_norm [0, 48, 64, 256, 257] (boT s 0) (boL p s o lock L0 Q0 0) (by simp [boT, Ptr, I, PL]) (by simp [boL, outP, plcP, hL1, hQ1]) (by simp [boL]) (by simp) (by simp)) ?_
 rotate_left 1
 all_goals
  refine eloop (α := Nat) (fun i => i ≤ s.pays.length) (fun i => s.pays.length - i) (fun i => boT s i) (fun i => boL p s o lock L0 Q0 i) 0 [0, 1, 2, 3, 4]
   (Nat.zero_le _) (by simp [boT, Ptr, I, PL]) (by simp [boL]) (by simp [boL]) (by simp) (by simp) ?_
  intro i hi
  obtain ⟨Li, hLi⟩ : ∃ Li, L0 ++ outP p o lock (s.pays.take i) = Li := ⟨_, rfl⟩
  obtain ⟨Qi, hQi⟩ : ∃ Qi, Q0 ++ plcP (s.pays.take i) = Qi := ⟨_, rfl⟩
  have hlL : Li.length ≤ 20 := by rw [← hLi]; simp [outP]; omega
  have hlQ : Qi.length ≤ 20 := by rw [← hQi]; simp [plcP]; omega
  simp only [boT, boL, hLi, hQi]
  simp [Ptr, I, PL]
  refine alt (fun hlt => ?_) (fun hlt => ?_)
  ·have hln : i < s.pays.length := by omega
   obtain ⟨x, hc⟩ : ∃ x, s.pays[i]? = some x := ⟨s.pays[i], by simp [hln]⟩
   have hge : (payv s.pays)[i]'(by simp [hln]) = payF x := gE (payv_get hc)
   have hxo := ok4 x (List.mgE hc)
   have hx := hxo.2.2.2.2
   obtain ⟨ham, hfr⟩ := hpay x (List.mgE hc)
   have lp := payC_len hx
   have lf := payF_len hx
   have tp := payC_take hx
   have e2 : (payC x)[2]? = some (.fz (.lit (.int .i64 x.am))) := rfl
   have e2 := idx_of e2 (by omega)
   have w1 := wS (i := i) (by omega)
   have hpd := BPaid_ok p s o lock x hpo hl ho hx hfr
   have hLn : L0 ++ outP p o lock (s.pays.take (i + 1)) = Li ++ [⟨x.am, paidB p o lock x⟩] := by rw [take_s hc, ← hLi]; simp [outP]
   have hQn : Q0 ++ plcP (s.pays.take (i + 1)) = Qi ++ [(3, x.id)] := by rw [take_s hc, ← hQi]; simp [plcP]
   simp [hln, hge, payF_fz, lp, lf, tp, e2]
   refine ⟨BLay_body, ?_⟩
   refine callH [1, 0, 2, 3, 4] (BLay_yes 140 (paidB p o lock x) p s o 3 x.am lock x Li Qi ham hx hp hl (by omega) (by omega) BPaid_body hpd) (by simp [I, Ptr]) (by simp [layH]) (by simp) (by simp) (by simp) ?_
   rintro y H' ⟨rfl, rfl⟩
   refine ⟨.inl (by simp), by simp, ?_⟩
   simp [w1, -Int.natCast_add]
   refine round (i + 1) [0, 1, 2, 149, 150] (by omega) (by omega) (by simp [boT, Ptr, I, PL]) ?_ (by simp [boL]) (by simp) (by simp)
   have q1 := congrArg List.length hLn
   have q2 := congrArg List.length hQn
   simp only [List.length_append, List.length_singleton] at q1 q2
   rw [hLn, hQn]
   simp [q1, q2]
  have hil : i = s.pays.length := by omega
  subst hil
  rw [List.take_length] at hLi hQi
  clear hlt hi
  simp [l0, e42]
  refine eloop (α := Nat) (fun i => i ≤ s.holds.length) (fun i => s.holds.length - i)
   (fun i => [xA, xA, xA, xA, Ptr 0, Ptr 1, xA, xA, xA, xA, xA, xA, xA, xA, xA, xA, xA, xA, xA, xA, xA, xA, xA, xA, xA, xA, xA, xA, xA, xA, xA, xA, xA, xA, xA, xA, xA, xA, xA, xA, xA, xA, xA, xA, xA, xA, xA, xA, xA, HL s.holds, I .i64 s.holds.length, I .i64 i, xA, xA, xA, xA, xA, xA, xA, xA, xA, xA, xA, xA, xA, xA, xA, xA, xA, xA, xA, xA, .any])
   (fun i => [some (.box 69 [.row 2 (Li ++ outH (s.holds.take i)).length]), some (.box 161 [.row 3 (Qi ++ plcH (s.holds.take i)).length]), some (.row 112 2 (outv (Li ++ outH (s.holds.take i)))), some (.row 166 2 (plcv (Qi ++ plcH (s.holds.take i))))]) 0 [1, 2, 3, 4]
   (Nat.zero_le _) (by simp [Ptr, I, HL]) (by simp [outH, plcH]) (by simp) (by simp) (by simp) ?_
  intro i hi
  obtain ⟨Lj, hLj⟩ : ∃ Lj, Li ++ outH (s.holds.take i) = Lj := ⟨_, rfl⟩
  obtain ⟨Qj, hQj⟩ : ∃ Qj, Qi ++ plcH (s.holds.take i) = Qj := ⟨_, rfl⟩
  have hlL2 : Lj.length ≤ 40 := by rw [← hLj]; simp [outH]; omega
  have hlQ2 : Qj.length ≤ 40 := by rw [← hQj]; simp [plcH]; omega
  rw [hLj, hQj]
  simp [Ptr, I, HL]
  refine alt (fun hlt => ?_) (fun hlt => ?_)
  ·have hln : i < s.holds.length := by omega
   obtain ⟨x, hc⟩ : ∃ x, s.holds[i]? = some x := ⟨s.holds[i], by simp [hln]⟩
   have hge : (holv s.holds)[i]'(by simp [hln]) = holF x := gE (holv_get hc)
   have hk := hhol x (List.mgE hc)
   have w1 := wS (i := i) (by omega)
   have hLn : Li ++ outH (s.holds.take (i + 1)) = Lj ++ [⟨x.am, allB x.keys⟩] := by rw [take_s hc, ← hLj]; simp [outH]
   have hQn : Qi ++ plcH (s.holds.take (i + 1)) = Qj ++ [(4, x.id)] := by rw [take_s hc, ← hQj]; simp [plcH]
   simp [hln, hge, holF]
   refine call0 (PAll_ok x.keys hk) (by simp [IL]) ?_
   rintro y H' ⟨rfl, rfl⟩
   refine ⟨.inl (by simp [CNv]), le_ok rfl, ?_⟩
   simp [CNv]
   refine ⟨⟨by omega, by omega⟩, ?_⟩
   try simp
   refine ⟨⟨by omega, by omega⟩, ?_⟩
   try simp [w1, -Int.natCast_add]
   have q1 := congrArg List.length hLn
   have q2 := congrArg List.length hQn
   simp only [List.length_append, List.length_singleton] at q1 q2
   have hol : outv Lj ++ [[FV.lit (Value.int IntKind.i64 x.am), FV.sl 35 (brav (allB x.keys))]] = outv (Lj ++ [⟨x.am, allB x.keys⟩]) := by simp [outv, outF, iF]
   have hpl : plcv Qj ++ [[FV.lit (Value.int IntKind.i64 4), FV.lit (Value.int IntKind.i64 x.id)]] = plcv (Qj ++ [(4, x.id)]) := by simp [plcv, plcF, iF]
   refine round (i + 1) [0, 1, 212, 324] (by omega) (by omega) (by simp [Ptr, I, HL]) ?_ (by simp) (by simp) (by simp)
   rw [hLn, hQn]
   simp [q1, q2, hol, hpl]
  have hil : i = s.holds.length := by omega
  subst hil
  rw [List.take_length] at hLj hQj
  clear hlt hi
  simp
  have tk1 : List.take Lj.length (outv Lj) = outv Lj := List.tkL (by simp)
  have tk2 : List.take Qj.length (plcv Qj) = plcv Qj := List.tkL (by simp)
  refine finW _ (weak_frz (o := 2) (ty := 112) (es := 2) (xs := outv Lj) rfl) ?_
  refine finW _ (weak_frz (o := 3) (ty := 166) (es := 2) (xs := plcv Qj) rfl) ?_
  refine fin [] (by decide) rfl rfl rfl ⟨rfl, ?_⟩
  have hL9 : outsB p s o lock = Lj := by rw [hvL, ← hLj, ← hLi, List.append_assoc]
  have hQ9 : plcB p s o = Qj := by rw [hvQ, ← hQj, ← hQi, List.append_assoc]
  rw [hL9, hQ9]
  simp [tk1, tk2]
end Go.Proofs.YtejjhgdnmknejaaGreatDoor
