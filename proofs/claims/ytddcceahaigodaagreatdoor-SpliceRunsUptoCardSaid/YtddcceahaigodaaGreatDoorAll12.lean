import Derived.Test.YtddcceahaigodaaGreatDoorAll11
import Derived.Test.YtddcceahaigodaaGreatDoorAll10
import Derived.Test.YtddcceahaigodaaGreatDoorAll9
import Derived.Test.YtddcceahaigodaaGreatDoorAll8
set_option maxHeartbeats 64000000
namespace Go.Proofs.YtddcceahaigodaaGreatDoor
open Go Go.EW
set_option linter.unusedSimpArgs false
set_option linter.unusedVariables false
def yl9v : UL | _ => [⟨2, (some 11), none, (.app 5 1 1 (.t 9) (.t 10)), [3, 4, 5, 6]⟩, xO 7 16 (.call 87 [.t 11, .t 15]), xM 8 5 16]
def yl9w : UL | _ => xM 0 9 5 :: xM 1 10 0 :: xF 3 12 0 3 :: xL 4 13 12 :: xE 5 14 13 :: xQ 6 15 (.cnv .u64 (.t 14)) :: hid yl9v
def yl9y : UL | _ => [xM 0 17 6, xF 1 18 0 3, xL 2 19 18, xE 3 20 19, xb 4 21 .lss 17 20]
def yl9z : UL | _ => [xN 6 (.fz (.sto 35 (.t 7) (.t 28)))]
def yla0 : UL | _ => xF 0 24 0 3 :: xL 1 25 24 :: xM 2 26 6 :: xI 3 27 35 25 26 :: xD 4 28 35 27 :: xQ 5 7 (.alloc 137 (([xS] : List Value) ++ zU8 ++ [xZ, xZ])) :: hid yl9z
def yla1 : UL | _ => [xM 6 5 34]
def yla2 : UL | _ => xM 0 29 5 :: xF 1 30 0 7 :: xL 2 31 30 :: xE 3 32 31 :: xQ 4 33 (.cnv .u64 (.t 32)) :: xO 5 34 (.call 87 [.t 29, .t 33]) :: hid yla1
def yla4 : UL | _ => [xM 0 35 8, xF 1 36 0 7, xL 2 37 36, xE 3 38 37, xb 4 39 .lss 35 38]
def yla5 : UL | _ => [xQ 6 48 (.cnv .u64 (.t 47)), xO 7 49 (.call 87 [.t 42, .t 48]), xM 8 5 49]
def yla6 : UL | _ => xM 0 42 5 :: xF 1 43 0 7 :: xL 2 44 43 :: xM 3 45 8 :: xI 4 46 1 44 45 :: xL 5 47 46 :: hid yla5
def yla9 : UL | _ => [xM 12 5 61]
def ylaa : UL | _ => xF 8 58 34 7 :: xL 9 59 58 :: xQ 10 60 (.cnv .u64 (.t 59)) :: ⟨3, (some 53), none, (.call 88 [.t 50, .t 52]), [4, 5, 6, 8, 9, 10]⟩ :: ⟨7, (some 57), none, (.call 87 [.t 53, .t 56]), [8, 9, 10]⟩ :: xO 11 61 (.call 87 [.t 57, .t 60]) :: hid yla9
def ylab : UL | _ => xM 0 50 5 :: xF 1 51 1 7 :: xD 2 52 32 51 :: xF 4 54 33 7 :: xL 5 55 54 :: xQ 6 56 (.cnv .u64 (.t 55)) :: hid ylaa
def ybad : UB | _ => .seq (reg0 (hid yla0) 7) (.seq (reg0 (hid yla2) 7) (.seq (.seq (reg0 [xC 0 8 0] 1) (.block 2 (.loop (.seq (.seq (reg0 (hid yla4) 5) (.cond (.t 39) .skip (.exit 2))) (.seq (.block 3 (reg0 (hid yla6) 9)) (reg0 [xM 0 40 8, xc 1 41 .add 40 1, xM 2 8 41] 3)))))) (reg1 (hid ylab) 13)))
def ybah : UB | _ => .seq (.seq (reg0 [xC 0 6 0] 1) (.block 0 (.loop (.seq (.seq (reg0 (hid yl9y) 5) (.cond (.t 21) .skip (.exit 0))) (.seq (.block 1 (hid ybad)) (reg0 [xM 0 22 6, xc 1 23 .add 22 1, xM 2 6 23] 3)))))) (.seq (reg0 [xM 0 62 5, xM 1 4 62] 2) .ret)
def ybai : UB | _ => .seq (reg0 [xQ 0 5 (.mov (.k xS))] 1) (.seq (reg1 (hid yl9w) 9) (hid ybah))
def ybaj : UB | _ => .seq (reg0 [xW 0 3 133 1, xQ 1 4 (.mov (.k xS))] 2) (hid ybai)
attribute [simp] yl9v yl9w yl9y yl9z yla0 yla1 yla2 yla4 yla5 yla6 yla9 ylaa ylab ybad ybah ybai ybaj
def c_RCPut : EB × List QOp × Nat := ((hid ybaj), [(.mov (.t 4))], 63)
theorem k_RCPut : cfun Tryz.prog 135 = some c_RCPut := by kernel_rfl
def ylal : UL | _ => [xQ 7 16 (.cnv .u64 (.t 15)), ⟨3, (some 12), none, (.call 87 [(.k xS), .t 11]), [4, 5, 6, 7]⟩, xO 8 17 (.call 87 [.t 12, .t 16]), xM 9 5 17]
def ylam : UL | _ => xF 0 9 0 2 :: xL 1 10 9 :: xQ 2 11 (.cnv .u64 (.t 10)) :: xF 4 13 1 2 :: xL 5 14 13 :: xE 6 15 14 :: hid ylal
def ylao : UL | _ => [xM 0 18 6, xF 1 19 1 2, xL 2 20 19, xE 3 21 20, xb 4 22 .lss 18 21]
def ylap : UL | _ => [xN 6 (.fz (.sto 35 (.t 7) (.t 29)))]
def ylaq : UL | _ => xF 0 25 1 2 :: xL 1 26 25 :: xM 2 27 6 :: xI 3 28 35 26 27 :: xD 4 29 35 28 :: xQ 5 7 (.alloc 130 (zU8 ++ [xZ, xZ, xS])) :: hid ylap
def ylar : UL | _ => [⟨9, (some 39), none, (.call 87 [.t 34, .t 38]), [10, 11, 12]⟩, xO 13 43 (.call 87 [.t 39, .t 42]), xM 14 5 43]
def ylas : UL | _ => xL 7 37 36 :: xQ 8 38 (.cnv .u64 (.t 37)) :: xF 10 40 33 7 :: xL 11 41 40 :: xQ 12 42 (.cnv .u64 (.t 41)) :: ⟨4, (some 34), none, (.call 88 [.t 30, .t 33]), [5, 6, 7, 8, 10, 11, 12]⟩ :: hid ylar
def ylat : UL | _ => xM 0 30 5 :: xF 1 31 0 7 :: xF 2 32 0 31 :: xD 3 33 32 32 :: xF 5 35 0 7 :: xF 6 36 32 35 :: hid ylas
def ylav : UL | _ => [xM 0 45 5, xF 1 46 34 7, xL 2 47 46, xO 3 48 (.call 134 [.t 45, .t 47]), xM 4 5 48]
def ybay : UB | _ => .seq (reg0 (hid ylaq) 7) (.seq (reg1 (hid ylat) 15) (.seq (reg0 [xM 0 44 1] 1) (.cond (.t 44) (reg0 (hid ylav) 5) (reg0 [xM 0 49 5, xO 1 50 (.call 134 [.t 49, (.k xS)]), xM 2 5 50] 3))))
def ybb0 : UB | _ => .seq (.seq (reg0 (hid ylao) 5) (.cond (.t 22) .skip (.exit 0))) (.seq (.block 1 (hid ybay)) (reg0 [xM 0 23 6, xc 1 24 .add 23 1, xM 2 6 24] 3))
def ylb1 : UL | _ => [xM 6 5 56]
def ylb2 : UL | _ => xM 0 51 5 :: xF 1 52 2 2 :: xL 2 53 52 :: xE 3 54 53 :: xQ 4 55 (.cnv .u64 (.t 54)) :: xO 5 56 (.call 87 [.t 51, .t 55]) :: hid ylb1
def ylb4 : UL | _ => [xM 0 57 8, xF 1 58 2 2, xL 2 59 58, xE 3 60 59, xb 4 61 .lss 57 60]
def ylb5 : UL | _ => [xF 13 77 1 76, xD 14 78 1 77, ⟨8, (some 72), none, (.call 87 [.t 64, .t 71]), [9, 10, 11, 12, 13, 14]⟩, xO 15 79 (.call 135 [.t 72, .t 78]), xM 16 5 79]
def ylb6 : UL | _ => xL 6 70 69 :: xQ 7 71 (.cnv .u64 (.t 70)) :: xF 9 73 2 2 :: xL 10 74 73 :: xM 11 75 8 :: xI 12 76 2 74 75 :: hid ylb5
def ylb7 : UL | _ => xM 0 64 5 :: xF 1 65 2 2 :: xL 2 66 65 :: xM 3 67 8 :: xI 4 68 2 66 67 :: xF 5 69 0 68 :: hid ylb6
def ybbb : UB | _ => .seq (.seq (reg0 [xC 0 8 0] 1) (.block 2 (.loop (.seq (.seq (reg0 (hid ylb4) 5) (.cond (.t 61) .skip (.exit 2))) (.seq (.block 3 (reg1 (hid ylb7) 17)) (reg0 [xM 0 62 8, xc 1 63 .add 62 1, xM 2 8 63] 3)))))) (.seq (reg0 [xM 0 80 5, xM 1 4 80] 2) .ret)
def ybbc : UB | _ => .seq (.seq (reg0 [xC 0 6 0] 1) (.block 0 (.loop (hid ybb0)))) (.seq (reg0 (hid ylb2) 7) (hid ybbb))
def ybbd : UB | _ => .seq (reg0 [xW 0 2 71 0, xQ 1 4 (.mov (.k xS))] 2) (.seq (reg1 (hid ylam) 10) (hid ybbc))
attribute [simp] ylal ylam ylao ylap ylaq ylar ylas ylat ylav ybay ybb0 ylb1 ylb2 ylb4 ylb5 ylb6 ylb7 ybbb ybbc ybbd
def c_RTPut : EB × List QOp × Nat := ((hid ybbd), [(.mov (.t 4))], 81)
theorem k_RTPut : cfun Tryz.prog 90 = some c_RTPut := by kernel_rfl
def ylbf : UL | _ => [xD 0 3 3 1, xO 1 4 (.call 90 [.t 3, (.k (.bool true))]), xM 2 2 4]
def ybbg : UB | _ => .seq (reg0 [xW 0 1 71 0, xQ 1 2 (.mov (.k xS))] 2) (.seq (reg0 (hid ylbf) 3) .ret)
attribute [simp] ylbf ybbg
def c_RTEncode : EB × List QOp × Nat := ((hid ybbg), [(.mov (.t 2))], 5)
theorem k_RTEncode : cfun Tryz.prog 40 = some c_RTEncode := by kernel_rfl
theorem RCPut_ok (pre : List UInt8) (l : List Bra) (hl : ∀ b ∈ l, b.ok) (hn : l.length ≤ 100000000) (hs : pre.length + (cndB l).length ≤ 400000000) : ECalls Tryz.prog 135 [Bs pre, CNv l] [] fun y H' => H' = [some (RO (pre ++ cndB l))] ∧ y = R 0 (pre ++ cndB l) := by
 have hc0 : (cndB l).length = (uB (l.length : Int)).length + (brsB l).length := by simp [cndB]
 obtain ⟨F, hF⟩ : ∃ F : Nat → List UInt8, F = fun i => pre ++ uB (l.length : Int) ++ brsB (l.take i) := ⟨_, rfl⟩
 have hF0 : pre ++ uB (l.length : Int) = F 0 := by rw [hF]; simp [brsB]
 have hFl : ∀ i, (F i).length ≤ 400000000 := by
  intro i
  have hfl := flat_take braB l i
  rw [hF]; simp only [List.length_append]; unfold brsB at *; omega
 refine ecalls k_RCPut ?_
 simp [c_RCPut, CNv, Bs]
 refine ⟨⟨by omega, by omega⟩, ?_⟩
 simp only [wrap_u64n]
 refine call0 (RUint_ok pre (u64n (l.length : Int)) (u64n_lt _) (by omega)) (by simp [I, Bs, List.tkL]) ?_
 rintro y H' ⟨rfl, rfl⟩
 refine ⟨.inr ⟨rfl, by simp [RO, bsv, cb]⟩, le_ok rfl, ?_⟩
 simp only [uB_eq, hF0]
 simp [R, RO]
 refine eloop (α := Nat) (fun i => i ≤ l.length) (fun i => l.length - i)
  (fun i => [xA, xA, xA, Ptr 0, xA, R 1 (F i), I .i64 i, xA, xA, xA, xA, xA, xA, xA, xA, xA, xA, xA, xA, xA, xA, xA, xA, xA, xA, xA, xA, xA, xA, xA, xA, xA, xA, xA, xA, xA, xA, xA, xA, xA, xA, xA, xA, xA, xA, xA, xA, xA, xA, xA, xA, xA, xA, xA, xA, xA, xA, xA, xA, xA, xA, xA, .any]) (fun i => [some (.box 133 [.fz (.sl 35 (brav l))]), some (RO (F i))]) 0 [0, 160]
  (Nat.zero_le _) (by simp [Ptr, I, R]) (by simp [RO]) (by simp) (by simp) (by simp) ?_
 intro i hi
 have hX := hFl i
 simp [Ptr, I, R, RO]
 refine alt (fun hlt => ?_) (fun hlt => ?_)
 ·have hln : i < l.length := by omega
  obtain ⟨b, hcx⟩ : ∃ b, l[i]? = some b := ⟨l[i], by simp [hln]⟩
  have hge : (brav l)[i]'(by simpa using hln) = braF b := gE (brav_get hcx)
  have hb := hl b (List.mgE hcx)
  obtain ⟨b1, b2, b3, b4, b5⟩ := id hb
  have l0 := bc_len b2
  have f0 := bf_len b2
  have tk := bc_take b2
  have lk : List.take 32 (braC b).tail = hc b.lock := by have := bc_lock b2; simpa using this
  have e0 := idx_of (bc_0 b) (by omega)
  have e33 := idx_of (bc_33 b2) (by omega)
  have e34 := idx_of (bc_34 b2) (by omega)
  have w1 := wS (i := i) (by omega)
  have hfs := flat_take_s braB hcx
  have hbl : (braB b).length = (uB (b.keys.length : Int)).length + ((usB b.keys).length + (32 + ((uB b.af).length + (uB b.ol).length))) := by simp [braB, b2]
  have hXb : (F i).length + (braB b).length ≤ 400000000 := by
   rw [hF]; simp only [List.length_append]; unfold brsB at *; omega
  have hFs : F (i + 1) = F i ++ braB b := by rw [hF]; simp [take_s hcx, brsB_snoc]
  simp [hln, hge, braF_fz, l0, f0, tk, lk, e0, e33, e34, wrap_u64n, drop34z, iC, RO, R, Ptr]
  refine call0 (RUint_ok (F i) (u64n (b.keys.length : Int)) (u64n_lt _) (by omega)) (by simp [I, Bs, List.tkL]) ?_
  rintro y H' ⟨rfl, rfl⟩
  refine ⟨.inr ⟨rfl, by simp [RO, bsv, cb]⟩, le_ok rfl, ?_⟩
  obtain ⟨G, hG⟩ : ∃ G : Nat → List UInt8, G = fun j => F i ++ uB (b.keys.length : Int) ++ usB (b.keys.take j) := ⟨_, rfl⟩
  have hG0 : F i ++ uB (b.keys.length : Int) = G 0 := by rw [hG]; simp [usB]
  have hGl : ∀ j, (G j).length + 32 + (uB b.af).length + (uB b.ol).length ≤ 400000000 := by
   intro j
   have hfk := flat_take uB b.keys j
   rw [hG]; simp only [List.length_append]; unfold usB at *; omega
  simp only [uB_eq, hG0]
  simp [hln, hge, braF_fz, l0, f0, tk, lk, e0, e33, e34, wrap_u64n, drop34z, iC, RO, R, Ptr]
  refine eloop (α := Nat) (fun j => j ≤ b.keys.length) (fun j => b.keys.length - j)
   (fun j => [xA, xA, xA, Ptr 0, xA, R 1 (G j), I .i64 i, Ptr 2, I .i64 j, xA, xA, xA, xA, xA, xA, xA, xA, xA, xA, xA, xA, xA, xA, xA, xA, xA, xA, xA, xA, xA, xA, xA, xA, xA, xA, xA, xA, xA, xA, xA, xA, xA, xA, xA, xA, xA, xA, xA, xA, xA, xA, xA, xA, xA, xA, xA, xA, xA, xA, xA, xA, xA, .any])
   (fun j => [some (.box 133 [.fz (.sl 35 (brav l))]), some (RO (G j)), some (.box 137 (braC b))]) 0 [0, 274, 162]
   (Nat.zero_le _) (by simp [Ptr, I, R]) (by simp [RO]) (by simp) (by simp) (by simp) ?_
  intro j hj
  have hY := hGl j
  simp [Ptr, I, R, RO, l0, e0]
  refine alt (fun hlt2 => ?_) (fun hlt2 => ?_)
  ·have hjn : j < b.keys.length := by omega
   obtain ⟨k, hc2⟩ : ∃ k, b.keys[j]? = some k := ⟨b.keys[j], by simp [hjn]⟩
   have hcb2 := intv_get hc2
   have w3 : IntKind.i64.wrap ((j : Int) + 1) = ((j + 1 : Nat) : Int) := wrap_i64 (by omega) (by omega)
   have hGs : G (j + 1) = G j ++ uB k := by rw [hG]; simp [take_s hc2, usB_snoc]
   simp [hcb2, hln, hge, braF_fz, l0, f0, tk, lk, e0, e33, e34, wrap_u64n, drop34z, iC, RO, R, Ptr]
   refine call0 (RUint_ok (G j) (u64n k) (u64n_lt _) (by omega)) (by simp [I, Bs, List.tkL]) ?_
   rintro y H' ⟨rfl, rfl⟩
   refine ⟨.inr ⟨rfl, by simp [RO, bsv, cb]⟩, le_ok rfl, ?_⟩
   simp only [uB_eq, ← hGs]
   simp [R, RO, w3, -Int.natCast_add]
   exact round (j + 1) [0, 195, 2] (by omega) (by omega) (by simp [Ptr, I, R]) (by simp [RO]) (by simp) (by simp) (by simp)
  have hjl : j = b.keys.length := by omega
  subst hjl
  simp [hln, hge, braF_fz, l0, f0, tk, lk, e0, e33, e34, wrap_u64n, drop34z, iC, RO, R, Ptr]
  refine call0 (RHash_ok (G b.keys.length) b.lock (by omega) b2) (by simp [Ag, Bs, List.tkL, lk]) ?_
  rintro y H' ⟨rfl, rfl⟩
  refine ⟨.inr ⟨rfl, by simp [RO, bsv, cb]⟩, le_ok rfl, ?_⟩
  simp [hln, hge, braF_fz, l0, f0, tk, lk, e0, e33, e34, wrap_u64n, drop34z, iC, RO, R, Ptr]
  refine call0 (RUint_ok (G b.keys.length ++ b.lock) (u64n b.af) (u64n_lt _) (by simp; omega)) (by simp [I, Bs, List.tkL]) ?_
  rintro y H' ⟨rfl, rfl⟩
  refine ⟨.inr ⟨rfl, by simp [RO, bsv, cb]⟩, le_ok rfl, ?_⟩
  simp only [uB_eq]
  simp [hln, hge, braF_fz, l0, f0, tk, lk, e0, e33, e34, wrap_u64n, drop34z, iC, RO, R, Ptr]
  refine call0 (RUint_ok (G b.keys.length ++ b.lock ++ uB b.af) (u64n b.ol) (u64n_lt _) (by simp; omega)) (by simp [I, Bs, List.tkL]) ?_
  rintro y H' ⟨rfl, rfl⟩
  refine ⟨.inr ⟨rfl, by simp [RO, bsv, cb]⟩, le_ok rfl, ?_⟩
  have hGe : G b.keys.length ++ b.lock ++ uB b.af ++ uB b.ol = F (i + 1) := by rw [hFs, hG]; simp [braB]
  simp only [uB_eq, hGe]
  simp [R, RO, Ptr, w1, -Int.natCast_add]
  exact round (i + 1) [0, 259] (by omega) (by omega) (by simp [Ptr, I, R]) (by simp [RO]) (by simp) (by simp) (by simp)
 have hil : i = l.length := by omega
 subst hil
 have hXc : pre ++ cndB l = F l.length := by rw [hF]; simp [cndB]
 simp
 exact fin [1] (by decide) rfl rfl rfl ⟨by simp [hXc, RO], by simp [← hXc, R]⟩
theorem ecalls_nilC {P : Program} {f : FuncId} {e : Nat} {x : EV} {rest : List EV} {H : List EO} {post : EV → List (Option EO) → Prop} (h : ECalls P f (x :: .v (.c (.fz (.sl e []))) :: rest) H post) :
  ECalls P f (x :: .v (.c (.fz (.lit (.slice none 0 0)))) :: rest) H post := by
 intro ρ Φ w vals r' ha
 refine h ρ Φ w vals r' ?_
 obtain ⟨u0, us0, rfl, h0, ha⟩ := ha.cons_left
 obtain ⟨u, us, rfl, h1, h2⟩ := ha.cons_left
 have h1' : VR ⟨fun o => o < H.length, ρ, Φ, w⟩ (.fz (.lit (.slice none 0 0))) u := h1
 exact All2.cons h0 (All2.cons (nl_vr h1') h2)
theorem RTPutF_ok (sb : Bool) (t : Txn) (ht : t.ok) (hsb : sb = true ∨ ∀ x ∈ t.ins, x.sec = []) (hsec : ∀ x ∈ t.ins, x.sec.length ≤ 10000000) (hs : (encT t).length ≤ 400000000) : ECalls Tryz.prog 90 [TXv t, .lit (.bool sb)] [] fun y H' => H' = [] ∧ y = Bs (encT t) := by
 obtain ⟨t1, t2, t3, t4, t5⟩ := id ht
 have hlen : (encT t).length = (uB t.lk).length + (uB (t.ins.length : Int)).length + (insB t.ins).length + (uB (t.outs.length : Int)).length + (ousB t.outs).length := by simp [encT, mdB, hdB]; try omega
 obtain ⟨F, hF⟩ : ∃ F : Nat → List UInt8, F = fun i => hdB t ++ insB (t.ins.take i) := ⟨_, rfl⟩
 have hF0 : uB t.lk ++ uB (t.ins.length : Int) = F 0 := by rw [hF]; simp [insB, hdB]
 have hFl : ∀ i, (F i).length ≤ 400000000 := by
  intro i
  have hfl := flat_take inpB t.ins i
  rw [hF]; simp only [List.length_append, hdB]; unfold insB at *; omega
 have hFe : F t.ins.length = hdB t ++ insB t.ins := by rw [hF]; simp
 obtain ⟨K, hK⟩ : ∃ K : Nat → List UInt8, K = fun i => mdB t ++ ousB (t.outs.take i) := ⟨_, rfl⟩
 have hK0 : F t.ins.length ++ uB (t.outs.length : Int) = K 0 := by rw [hK, hFe]; simp [ousB, mdB]
 have hKl : ∀ i, (K i).length ≤ 400000000 := by
  intro i
  have hfl := flat_take oupB t.outs i
  rw [hK]; simp only [List.length_append, hdB, mdB]; unfold ousB at *; omega
 refine ecalls k_RTPut ?_
 simp [c_RTPut, TXv, txC, iC, wrap_u64n]
 refine call0 (RUint_nil (u64n t.lk) (u64n_lt _)) (by simp [I]) ?_
 rintro y H' ⟨rfl, rfl⟩
 refine ⟨.inl (by simp), le_ok rfl, ?_⟩
 simp only [uB_eq]
 simp [R, RO, wrap_u64n]
 refine call0 (RUint_ok (uB t.lk) (u64n (t.ins.length : Int)) (u64n_lt _) (by omega)) (by simp [I, Bs, List.tkL]) ?_
 rintro y H' ⟨rfl, rfl⟩
 refine ⟨.inr ⟨rfl, by simp [RO, bsv, cb]⟩, le_ok rfl, ?_⟩
 simp only [uB_eq, hF0]
 simp [R, RO, wrap_u64n]
 refine eloop (α := Nat) (fun i => i ≤ t.ins.length) (fun i => t.ins.length - i)
  (fun i => [xA, .lit (.bool sb), Ptr 0, xA, xA, R 1 (F i), I .i64 i, xA, xA, xA, xA, xA, xA, xA, xA, xA, xA, xA, xA, xA, xA, xA, xA, xA, xA, xA, xA, xA, xA, xA, xA, xA, xA, xA, xA, xA, xA, xA, xA, xA, xA, xA, xA, xA, xA, xA, xA, xA, xA, xA, xA, xA, xA, xA, xA, xA, xA, xA, xA, xA, xA, xA, xA, xA, xA, xA, xA, xA, xA, xA, xA, xA, xA, xA, xA, xA, xA, xA, xA, xA, .any]) (fun i => [some (.box 71 (txC t)), some (RO (F i))]) 0 [0, 160]
  (Nat.zero_le _) (by simp [Ptr, I, R]) (by simp [RO, txC, iC]) (by simp) (by simp) (by simp) ?_
 intro i hi
 have hX := hFl i
 simp [Ptr, I, R, RO, txC, iC]
 refine alt (fun hlt => ?_) (fun hlt => ?_)
 ·have hln : i < t.ins.length := by omega
  obtain ⟨x, hcx⟩ : ∃ x, t.ins[i]? = some x := ⟨t.ins[i], by simp [hln]⟩
  have hge : (inpv t.ins)[i]'(by simpa using hln) = inpF x := gE (inpv_get hcx)
  have hx := t2 x (List.mgE hcx)
  obtain ⟨x1, x2, x3, x4⟩ := id hx
  have x5 := hsec x (List.mgE hcx)
  have l0 := ic_len x1
  have f0 := if_len x1
  have tk := ic_take x1
  have th := ic_hash x1
  have e32 := idx_of (ic_32 x1) (by omega)
  have e33 := idx_of (ic_33 x1) (by omega)
  have e34 := idx_of (ic_34 x1) (by omega)
  have w1 := wS (i := i) (by omega)
  have hfs := flat_take_s inpB hcx
  have hbl : (inpB x).length = 32 + ((uB x.n).length + ((uB x.br).length + (bytesB x.sec).length)) := by simp [inpB, x1]
  have hXb : (F i).length + (inpB x).length ≤ 400000000 := by
   rw [hF]; simp only [List.length_append, hdB]; unfold insB at *; omega
  have hFs : F (i + 1) = F i ++ inpB x := by rw [hF]; simp [take_s hcx, insB_snoc]
  simp [hln, hge, inpF_fz, l0, f0, tk, th, e32, e33, e34, wrap_u64n, drop35h, iC, RO, R, Ptr]
  refine call0 (RHash_ok (F i) x.tx (by omega) x1) (by simp [Ag, Bs, List.tkL]) ?_
  rintro y H' ⟨rfl, rfl⟩
  refine ⟨.inr ⟨rfl, by simp [RO, bsv, cb]⟩, le_ok rfl, ?_⟩
  simp [hln, hge, inpF_fz, l0, f0, tk, th, e32, e33, e34, wrap_u64n, drop35h, iC, RO, R, Ptr]
  refine call0 (RUint_ok (F i ++ x.tx) (u64n x.n) (u64n_lt _) (by simp; omega)) (by simp [I, Bs, List.tkL]) ?_
  rintro y H' ⟨rfl, rfl⟩
  refine ⟨.inr ⟨rfl, by simp [RO, bsv, cb]⟩, le_ok rfl, ?_⟩
  simp only [uB_eq]
  simp [hln, hge, inpF_fz, l0, f0, tk, th, e32, e33, e34, wrap_u64n, drop35h, iC, RO, R, Ptr]
  refine call0 (RUint_ok (F i ++ x.tx ++ uB x.n) (u64n x.br) (u64n_lt _) (by simp; omega)) (by simp [I, Bs, List.tkL]) ?_
  rintro y H' ⟨rfl, rfl⟩
  refine ⟨.inr ⟨rfl, by simp [RO, bsv, cb]⟩, le_ok rfl, ?_⟩
  simp only [uB_eq]
  have hGe : F i ++ x.tx ++ uB x.n ++ uB x.br ++ bytesB x.sec = F (i + 1) := by rw [hFs]; simp [inpB]
  cases sb
  ·have hse : x.sec = [] := by
    rcases hsb with hsb | hsb
    ·exact absurd hsb (by simp)
    ·exact hsb x (List.mgE hcx)
   rw [hse] at hGe
   simp [hln, hge, inpF_fz, l0, f0, tk, th, e32, e33, e34, wrap_u64n, drop35h, iC, RO, R, Ptr]
   refine call0 (ecalls_nilC (e := 1) (RBytes_ok (F i ++ x.tx ++ uB x.n ++ uB x.br) [] (by simp; omega) (by simp))) (by simp [Bs, List.tkL]) ?_
   rintro y H' ⟨rfl, rfl⟩
   refine ⟨.inr ⟨rfl, by simp [RO, bsv, cb]⟩, le_ok rfl, ?_⟩
   simp only [hGe]
   simp [R, RO, Ptr, w1, -Int.natCast_add]
   exact round (i + 1) [0, 466] (by omega) (by omega) (by simp [Ptr, I, R]) (by simp [RO, txC, iC]) (by simp) (by simp) (by simp)
  ·simp [hln, hge, inpF_fz, l0, f0, tk, th, e32, e33, e34, wrap_u64n, drop35h, iC, RO, R, Ptr]
   refine call0 (RBytes_ok (F i ++ x.tx ++ uB x.n ++ uB x.br) x.sec (by simp; omega) (by omega)) (by simp [Bs, List.tkL]) ?_
   rintro y H' ⟨rfl, rfl⟩
   refine ⟨.inr ⟨rfl, by simp [RO, bsv, cb]⟩, le_ok rfl, ?_⟩
   simp only [hGe]
   simp [R, RO, Ptr, w1, -Int.natCast_add]
   exact round (i + 1) [0, 498] (by omega) (by omega) (by simp [Ptr, I, R]) (by simp [RO, txC, iC]) (by simp) (by simp) (by simp)
 have hil : i = t.ins.length := by omega
 subst hil
 simp [wrap_u64n]
 refine call0 (RUint_ok (F t.ins.length) (u64n (t.outs.length : Int)) (u64n_lt _) (by omega)) (by simp [I, Bs, List.tkL]) ?_
 rintro y H' ⟨rfl, rfl⟩
 refine ⟨.inr ⟨rfl, by simp [RO, bsv, cb]⟩, le_ok rfl, ?_⟩
 simp only [uB_eq, hK0]
 simp [R, RO]
 refine eloop (α := Nat) (fun i => i ≤ t.outs.length) (fun i => t.outs.length - i)
  (fun i => [xA, xA, Ptr 0, xA, xA, R 1 (K i), xA, xA, I .i64 i, xA, xA, xA, xA, xA, xA, xA, xA, xA, xA, xA, xA, xA, xA, xA, xA, xA, xA, xA, xA, xA, xA, xA, xA, xA, xA, xA, xA, xA, xA, xA, xA, xA, xA, xA, xA, xA, xA, xA, xA, xA, xA, xA, xA, xA, xA, xA, xA, xA, xA, xA, xA, xA, xA, xA, xA, xA, xA, xA, xA, xA, xA, xA, xA, xA, xA, xA, xA, xA, xA, xA, .any]) (fun i => [some (.box 71 (txC t)), some (RO (K i))]) 0 [0, 162]
  (Nat.zero_le _) (by simp [Ptr, I, R]) (by simp [RO, txC, iC]) (by simp) (by simp) (by simp) ?_
 intro i hi
 have hX := hKl i
 simp [Ptr, I, R, RO, txC, iC]
 refine alt (fun hlt => ?_) (fun hlt => ?_)
 ·have hln : i < t.outs.length := by omega
  obtain ⟨x, hcx⟩ : ∃ x, t.outs[i]? = some x := ⟨t.outs[i], by simp [hln]⟩
  have hge : (outv t.outs)[i]'(by simpa using hln) = outF x := gE (outv_get hcx)
  obtain ⟨x1, x2, x3⟩ := t3 x (List.mgE hcx)
  have w1 := wS (i := i) (by omega)
  have hfs := flat_take_s oupB hcx
  have hbl : (oupB x).length = (uB x.am).length + (cndB x.cs).length := by simp [oupB]
  have hXb : (K i).length + (oupB x).length ≤ 400000000 := by
   rw [hK]; simp only [List.length_append, hdB, mdB]; unfold ousB at *; omega
  have hKs : K (i + 1) = K i ++ oupB x := by rw [hK]; simp [take_s hcx, ousB_snoc]
  simp [hln, hge, outF, iF, wrap_u64n]
  refine call0 (RUint_ok (K i) (u64n x.am) (u64n_lt _) (by omega)) (by simp [I, Bs, List.tkL]) ?_
  rintro y H' ⟨rfl, rfl⟩
  refine ⟨.inr ⟨rfl, by simp [RO, bsv, cb]⟩, le_ok rfl, ?_⟩
  simp only [uB_eq]
  simp [hln, hge, outF, iF, R, RO, wrap_u64n]
  refine call0 (RCPut_ok (K i ++ uB x.am) x.cs x2 x3 (by simp; omega)) (by simp [CNv, Bs, List.tkL]) ?_
  rintro y H' ⟨rfl, rfl⟩
  refine ⟨.inr ⟨rfl, by simp [RO, bsv, cb]⟩, le_ok rfl, ?_⟩
  have hGe : K i ++ uB x.am ++ cndB x.cs = K (i + 1) := by rw [hKs]; simp [oupB]
  simp only [hGe]
  simp [R, RO, w1, -Int.natCast_add]
  exact round (i + 1) [0, 322] (by omega) (by omega) (by simp [R, I, Ptr]) (by simp [RO, txC, iC]) (by simp) (by simp) (by simp)
 have hil : i = t.outs.length := by omega
 subst hil
 have hKe : K t.outs.length = encT t := by rw [hK]; simp [encT]
 simp
 refine finW _ (weak_frz (o := 1) (ty := 5) (es := 1) (xs := bsv (K t.outs.length)) rfl) ?_
 exact fin [] (by decide) rfl rfl rfl ⟨rfl, by simp [Bs, hKe, List.tkL]⟩
theorem RTPut_ok (t : Txn) (ht : t.ok) (hsec : ∀ x ∈ t.ins, x.sec.length ≤ 10000000) (hs : (encT t).length ≤ 400000000) : ECalls Tryz.prog 90 [TXv t, .lit (.bool true)] [] fun y H' => H' = [] ∧ y = Bs (encT t) :=
 RTPutF_ok true t ht (.inl rfl) hsec hs
theorem RTEncode_ok (t : Txn) (ht : t.ok) (hsec : ∀ x ∈ t.ins, x.sec.length ≤ 10000000) (hs : (encT t).length ≤ 400000000) : ECalls Tryz.prog 40 [TXv t] [] fun y H' => H' = [] ∧ y = Bs (encT t) := by
 refine ecalls k_RTEncode ?_
 simp [c_RTEncode, TXv, txC, iC]
 refine call0 (RTPut_ok t ht hsec hs) (by simp [TXv, txC, iC]) ?_
 rintro y H' ⟨rfl, rfl⟩
 refine ⟨.inl (by simp [Bs]), le_ok rfl, ?_⟩
 simp [Bs]
 exact fin0
def gN : FV → FV
 | .sl _ [] => .lit (.slice none 0 0)
 | x => x
theorem fr_g {Φ : Nat → Prop} {w : World} {es : Nat} {ys : List (List FV)} {v : Value} (h : FR Φ w (.sl es (ys.map (·.map gN))) v) : FR Φ w (.sl es ys) v := by
 generalize hx : ys.map (·.map gN) = xs at h
 have hlen : xs.length = ys.length := by rw [← hx]; simp
 cases h with
 | emp => 
  have : ys = [] := by simpa using hx
  subst this
  exact FR.emp _ _ _
 | sl es xs b off cap vs hb h0 hl hn hcap hcell hfr =>
  rw [hlen]
  refine .sl es ys b off cap vs hb h0 ?_ (by rw [hn, hlen]) (by omega) hcell ?_
  ·intro y hy
   have := hl (y.map gN) (by rw [← hx]; exact List.mem_map.2 ⟨y, hy, rfl⟩)
   simpa using this
  ·intro j y u hy hu
   have e : xs.flatten = ys.flatten.map gN := by rw [← hx, List.map_flatten]
   have h1 := hfr j (gN y) u (by rw [e, List.getElem?_map, hy]; rfl) hu
   unfold gN at h1
   split at h1
   ·cases h1
    exact FR.emp _ none 0
   ·exact h1
theorem ecalls_nlG {P : Program} {f : FuncId} {a c : EC} {ys : List (List FV)} {rest : List EV} {H : List EO} {post : EV → List (Option EO) → Prop} (h : ECalls P f (.v (.agg [a, .fz (.sl 35 ys), c]) :: rest) H post) :
  ECalls P f (.v (.agg [a, .fz (.sl 35 (ys.map (·.map gN))), c]) :: rest) H post := by
 intro ρ Φ w vals r' ha
 refine h ρ Φ w vals r' ?_
 obtain ⟨u, us, rfl, h1, h2⟩ := ha.cons_left
 refine All2.cons ?_ h2
 obtain ⟨vs, rfl, hv⟩ := h1
 refine ⟨vs, rfl, by simpa using hv.1, ?_⟩
 intro i x y hx hy
 rcases i with _ | _ | _ | i
 ·exact hv.2 0 x y hx hy
 ·have := hv.2 1 _ y rfl hy
  simp at hx; subst hx
  exact fr_g this
 ·exact hv.2 2 x y hx hy
 ·simp at hx
def ylbl : UL | _ => [xI 0 12 2 8 10, xD 1 13 2 12, xQ 2 6 (.alloc 100 [xZ, xS]), xN 3 (.fz (.sto 2 (.t 6) (.t 13)))]
def ylbm : UL | _ => [yM 6 20 17 false 4, xG 7 21 17 false (.bin .sub (xK 1125899906842624) (.t 20)), xG 8 22 17 false (.bin .gtr (.t 19) (.t 21)), xP 9 23 17 22]
def ylbn : UL | _ => xF 0 14 0 6 :: xL 1 15 14 :: xc 2 16 .lss 15 0 :: xM 3 17 16 :: yF 4 18 17 false 0 6 :: yL 5 19 17 false 18 :: hid ylbm
def ylbq : UL | _ => [xM 0 25 4, xF 1 26 0 6, xL 2 27 26, xb 3 28 .add 25 27, xM 4 4 28]
def ybbt : UB | _ => .seq (.cond (.t 11) .skip (.exit 0)) (.seq (.block 1 (.seq (reg0 (hid ylbl) 4) (.seq (.seq (reg0 (hid ylbn) 10) (.cond (.t 23) (.seq (reg0 [xQ 0 24 (.mki 121 (xK 5)), xC 1 2 0, xM 2 3 24] 3) .ret) .skip)) (reg0 (hid ylbq) 5)))) (reg0 [xc 0 29 .add 10 1, xM 1 10 29] 2))
def ybbw : UB | _ => .seq (reg0 [xC 0 4 0] 1) (.seq (.seq (reg0 [xF 0 7 2 1, xL 1 8 7, xE 2 9 8, xC 3 10 0] 4) (.block 0 (.loop (.seq (reg0 [xb 0 11 .lss 10 9] 1) (hid ybbt))))) (.seq (reg0 [xM 0 30 4, xM 1 2 30, xQ 2 3 (.mov (.k .nilIface))] 3) .ret))
def ybbx : UB | _ => .seq (reg0 [xW 0 1 85 0, xC 1 2 0, xQ 2 3 (.mov (.k .nilIface))] 3) (hid ybbw)
attribute [simp] ylbl ylbm ylbn ylbq ybbt ybbw ybbx
def c_TxTotal : EB × List QOp × Nat := ((hid ybbx), [(.mov (.t 2)), (.mov (.t 3))], 31)
theorem k_TxTotal : cfun Tryz.prog 46 = some c_TxTotal := by kernel_rfl
def ylc0 : UL | _ => [yL 24 36 34 false 35, yM 25 37 34 false 3, ⟨26, (some 38), (some (34, false)), (.call 99 [.t 36, .t 37]), []⟩, xP 27 39 34 38]
def ylc1 : UL | _ => xG 18 30 27 false (.len (.t 29)) :: ⟨19, (some 31), (some (27, false)), (.call 98 [.t 30]), []⟩ :: xG 20 32 27 false (.un .not (.t 31)) :: xP 21 33 27 32 :: xM 22 34 33 :: yF 23 35 34 false 1 1 :: hid ylc0
def ylc2 : UL | _ => ⟨12, (some 24), (some (20, false)), (.call 98 [.t 23]), []⟩ :: xG 13 25 20 false (.un .not (.t 24)) :: xP 14 26 20 25 :: xM 15 27 26 :: yF 16 28 27 false 2 1 :: yL 17 29 27 false 28 :: hid ylc1
def ylc3 : UL | _ => xG 6 18 15 false (.bin .gtr (.t 17) (xK 1099511627776)) :: xP 7 19 15 18 :: xM 8 20 19 :: yF 9 21 20 false 1 1 :: yL 10 22 20 false 21 :: xG 11 23 20 false (.len (.t 22)) :: hid ylc2
def ylc4 : UL | _ => xF 0 12 0 1 :: xL 1 13 12 :: xc 2 14 .lss 13 0 :: xM 3 15 14 :: yF 4 16 15 false 0 1 :: yL 5 17 15 false 16 :: hid ylc3
def ylca : UL | _ => [xI 0 47 35 43 45, xD 1 48 35 47, xQ 2 6 (.alloc 151 (zU8 ++ [xZ, xZ, xS])), xN 3 (.fz (.sto 35 (.t 6) (.t 48)))]
def ylcb : UL | _ => [xX 6 55 1 54, xN 7 (.mp .sto [.t 49, .t 55, .t 53])]
def ylcc : UL | _ => xM 0 49 4 :: xF 1 50 0 6 :: xD 2 51 33 50 :: xQ 3 52 (.mget [(32, .u8), (1, .i64)] .i64 (.t 49) (.t 51)) :: xc 4 53 .add 52 1 :: ⟨5, (some 54), none, (.mp (.ent [(32, .u8), (1, .i64)] .i64) [.t 49, .t 51]), [4]⟩ :: hid ylcb
def ybcg : UB | _ => .seq (reg0 [xF 0 42 1 1, xL 1 43 42, xE 2 44 43, xC 3 45 0] 4) (.block 0 (.loop (.seq (reg0 [xb 0 46 .lss 45 44] 1) (.seq (.cond (.t 46) .skip (.exit 0)) (.seq (.block 1 (.seq (reg0 (hid ylca) 4) (reg1 (hid ylcc) 8))) (reg0 [xc 0 56 .add 45 1, xM 1 45 56] 2))))))
def ylch : UL | _ => [xM 0 57 4, xO 1 58 (.mp .len [.t 57]), xF 2 59 1 1, xL 3 60 59, xE 4 61 60, xb 5 62 .neq 58 61]
def ylcm : UL | _ => [xI 0 69 2 65 67, xD 1 70 2 69, xQ 2 8 (.alloc 100 [xZ, xS]), xN 3 (.fz (.sto 2 (.t 8) (.t 70)))]
def ybcr : UB | _ => .seq (reg0 (hid ylcm) 4) (.seq (reg0 [xD 0 71 2 8, xO 1 72 (.call 100 [.t 71]), xM 2 9 72] 3) (.seq (reg0 [xM 0 73 9, xQ 1 74 (.eqi true (.t 73))] 2) (.cond (.t 74) (.seq (reg0 [xM 0 75 9, xM 1 2 75] 2) .ret) .skip)))
def ybct : UB | _ => .seq (.cond (.t 68) .skip (.exit 2)) (.seq (.block 3 (hid ybcr)) (reg0 [xc 0 76 .add 67 1, xM 1 67 76] 2))
def ybcu : UB | _ => .seq (reg0 [xF 0 64 2 1, xL 1 65 64, xE 2 66 65, xC 3 67 0] 4) (.block 2 (.loop (.seq (reg0 [xb 0 68 .lss 67 66] 1) (hid ybct))))
def ylcv : UL | _ => [xM 6 11 81]
def ylcw : UL | _ => xD 0 78 3 1 :: xO 1 79 (.call 46 [.t 78]) :: xM 2 77 79 :: xX 3 80 0 77 :: xX 4 81 1 77 :: xM 5 10 80 :: hid ylcv
def ybcz : UB | _ => .seq (hid ybcg) (.seq (.seq (reg0 (hid ylch) 6) (.cond (.t 62) (.seq (reg0 [xQ 0 63 (.mki 121 (xK 9)), xM 1 2 63] 2) .ret) .skip)) (.seq (hid ybcu) (.seq (reg0 (hid ylcw) 7) (.seq (reg0 [xM 0 82 11, xM 1 2 82] 2) .ret))))
def ybd0 : UB | _ => .seq (.seq (reg0 (hid ylc4) 28) (.cond (.t 39) (.seq (reg0 [xQ 0 40 (.mki 121 (xK 4)), xM 1 2 40] 2) .ret) .skip)) (.seq (reg0 [xO 0 41 (.mp (.new [(32, .u8), (1, .i64)]) []), xM 1 4 41] 2) (hid ybcz))
def ybd1 : UB | _ => .seq (reg0 [xW 0 1 85 0, xQ 1 2 (.mov (.k .nilIface))] 2) (.seq (reg0 [xQ 0 3 (.mov (.k (.func (.func 96) #[] #[])))] 1) (hid ybd0))
attribute [simp] ylc0 ylc1 ylc2 ylc3 ylc4 ylca ylcb ylcc ybcg ylch ylcm ybcr ybct ybcu ylcv ylcw ybcz ybd0 ybd1
def c_TxCheck : EB × List QOp × Nat := ((hid ybd1), [(.mov (.t 2))], 83)
theorem k_TxCheck : cfun Tryz.prog 51 = some c_TxCheck := by kernel_rfl
def totO : Int → List Outp → Int × Nat
 | n, [] => (n, 0)
 | n, o :: r => if o.am < 0 ∨ 1125899906842624 - n < o.am then (0, 5) else totO (n + o.am) r
def ptI (x : Inp) : List Int := x.tx.map (fun b => (b.toNat : Int)) ++ [x.n]
def ddp (l : List (List Int)) : List (List Int) := l.foldl (fun K p => if p ∈ K then K else K ++ [p]) []
def outsE : List Outp → Nat
 | [] => 0
 | o :: r => if ouE o ≠ 0 then ouE o else outsE r
def chkT (t : Txn) : Nat :=
 if t.lk < 0 ∨ 1099511627776 < t.lk ∨ ¬ (1 ≤ t.ins.length ∧ t.ins.length ≤ 64) ∨ ¬ (1 ≤ t.outs.length ∧ t.outs.length ≤ 64) ∨ t.ins.all inM = false then 4
 else if ¬ (t.ins.map ptI).Nodup then 9
 else if outsE t.outs ≠ 0 then outsE t.outs
 else (totO 0 t.outs).2
theorem revRec {α : Type} {C : List α → Prop} (h0 : C []) (h1 : ∀ l a, C l → C (l ++ [a])) (l : List α) : C l := by
 rw [← List.reverse_reverse l]
 generalize l.reverse = r
 induction r with
 | nil => exact h0
 | cons a r ih => rw [List.reverse_cons]; exact h1 _ _ ih
theorem ddp_snoc (l : List (List Int)) (p : List Int) : ddp (l ++ [p]) = if p ∈ ddp l then ddp l else ddp l ++ [p] := by
 unfold ddp
 rw [List.foldl_append]
 rfl
theorem mem_ddp (l : List (List Int)) : ∀ p, p ∈ ddp l ↔ p ∈ l := by
 refine revRec (C := fun l => ∀ p, p ∈ ddp l ↔ p ∈ l) (fun p => by simp [ddp]) ?_ l
 ·intro l q ih p
  rw [ddp_snoc]
  split
  ·rename_i h
   rw [ih p, List.mem_append, List.mem_singleton]
   constructor
   ·exact .inl
   ·rintro (h' | rfl)
    ·exact h'
    ·exact (ih p).1 h
  ·rw [List.mem_append, List.mem_append, ih p]
theorem ddp_len (l : List (List Int)) : (ddp l).length ≤ l.length ∧ ((ddp l).length = l.length ↔ l.Nodup) := by
 refine revRec (C := fun l => (ddp l).length ≤ l.length ∧ ((ddp l).length = l.length ↔ l.Nodup)) (by simp [ddp]) ?_ l
 ·intro l q ih
  rw [ddp_snoc]
  have hn : (l ++ [q]).Nodup ↔ l.Nodup ∧ q ∉ l := by
   rw [List.nodup_append]
   constructor
   ·rintro ⟨h1, _, h3⟩
    exact ⟨h1, fun h => h3 q h q (by simp) rfl⟩
   ·rintro ⟨h1, h2⟩
    refine ⟨h1, by simp, ?_⟩
    intro a ha b hb
    simp at hb; subst hb
    rintro rfl
    exact h2 ha
  rw [hn]
  split
  ·rename_i h
   refine ⟨by simp; omega, ?_⟩
   constructor
   ·intro e; simp at e; omega
   ·rintro ⟨_, h2⟩; exact absurd ((mem_ddp l q).1 h) h2
  ·rename_i h
   simp only [List.length_append, List.length_singleton]
   refine ⟨by omega, ?_⟩
   rw [← ih.2]
   constructor
   ·intro e; exact ⟨by omega, fun h' => h ((mem_ddp l q).2 h')⟩
   ·rintro ⟨e, _⟩; omega
theorem litK_app : ∀ {ks ks' : List IntKind} {cs cs' : List EC} {a b : List Int}, litK ks cs = some a → litK ks' cs' = some b → litK (ks ++ ks') (cs ++ cs') = some (a ++ b)
 | [], ks', [], cs', a, b, h1, h2 => by simp [litK] at h1; subst h1; exact h2
 | [], ks', c :: cs, cs', a, b, h1, h2 => by simp [litK] at h1
 | k :: ks, ks', [], cs', a, b, h1, h2 => by simp [litK] at h1
 | k :: ks, ks', c :: cs, cs', a, b, h1, h2 => by
  unfold litK at h1
  split at h1
  ·simp at *
  ·rename_i k1 ks1 k2 n r e1 e2
   simp only [List.cons.injEq] at e1 e2
   obtain ⟨rfl, rfl⟩ := e1
   obtain ⟨rfl, rfl⟩ := e2
   split at h1
   ·rename_i hh
    obtain ⟨b', hb', rfl⟩ := Option.map_eq_some_iff.1 h1
    show litK (k :: (ks ++ ks')) (_ :: (cs ++ cs')) = _
    unfold litK
    rw [if_pos hh, litK_app hb' h2]
    rfl
   ·simp at h1
  ·simp at h1
theorem wf_u8 (b : UInt8) : (Lit.int .u8 (b.toNat : Int)).wf = true := by
 have := b.toNat_lt
 simp [Lit.wf, IntKind.min, IntKind.max, IntKind.signed, IntKind.bits]
 omega
theorem wf_i64 {n : Int} (h : i64 n) : (Lit.int .i64 n).wf = true := by
 unfold i64 at h
 simp [Lit.wf, IntKind.min, IntKind.max, IntKind.signed, IntKind.bits]
 omega
theorem litK_u8 : ∀ (l : List UInt8), litK (List.replicate l.length .u8) (hc l) = some (l.map fun b => (b.toNat : Int))
 | [] => rfl
 | b :: r => by
  show litK (.u8 :: List.replicate r.length .u8) (.fz (.lit (.int .u8 b.toNat)) :: hc r) = _
  unfold litK
  rw [if_pos ⟨rfl, wf_u8 b⟩, litK_u8 r]
  rfl
theorem litK_i64 {n : Int} (h : i64 n) : litK [.i64] [iC n] = some [n] := by
 simp [litK, iC, wf_i64 h]
theorem litK_pt {x : Inp} (h : x.ok) : litK (unrle [(32, .u8), (1, .i64)]) (hc x.tx ++ [iC x.n]) = some (ptI x) := by
 have e : unrle [(32, .u8), (1, .i64)] = List.replicate x.tx.length .u8 ++ [.i64] := by rw [h.1]; rfl
 rw [e]
 exact litK_app (litK_u8 x.tx) (litK_i64 h.2.1)
def vI (E : List (List Int × Int)) : List (List Int × Value) := E.map fun p => (p.1, Value.int .i64 p.2)
theorem vI_get (k : List Int) : ∀ E, ∃ c, getM (.int .i64 0) k (vI E) = Value.int .i64 c
 | [] => ⟨0, rfl⟩
 | p :: r => by
  obtain ⟨c, hc⟩ := vI_get k r
  by_cases h : p.1 = k
  ·exact ⟨p.2, by simp [vI, getM, h]⟩
  ·refine ⟨c, ?_⟩
   show getM (.int .i64 0) k ((p.1, Value.int .i64 p.2) :: vI r) = _
   simp only [getM, if_neg h]
   exact hc
theorem vI_ent (k : List Int) : ∀ E, ∃ E', entM (.int .i64 0) k (vI E) = vI E' ∧ E'.map (·.1) = (if k ∈ E.map (·.1) then E.map (·.1) else E.map (·.1) ++ [k]) ∧ idxM k (vI E) < E'.length
 | [] => ⟨[(k, 0)], rfl, by simp, by simp [vI, idxM]⟩
 | p :: r => by
  by_cases h : p.1 = k
  ·exact ⟨p :: r, by simp [vI, entM, h], by simp [h], by simp [vI, idxM, h]⟩
  ·obtain ⟨E', h1, h2, h3⟩ := vI_ent k r
   refine ⟨p :: E', ?_, ?_, ?_⟩
   ·show entM (.int .i64 0) k ((p.1, Value.int .i64 p.2) :: vI r) = _
    simp only [entM, if_neg h, h1]
    rfl
   ·simp only [List.map_cons, List.mem_cons, h2, fun e : k = p.1 => h e.symm]
    by_cases hm : k ∈ r.map (·.1)
    ·rw [if_pos hm, if_pos (.inr hm)]
    ·rw [if_neg hm, if_neg (by rintro (e | e); exact h e.symm; exact hm e)]
     rfl
   ·show idxM k ((p.1, Value.int .i64 p.2) :: vI r) < _
    simp only [idxM, if_neg h, List.length_cons]
    omega
theorem vI_put (s : Nat) (c : Int) (E : List (List Int × Int)) : ∃ E', putM s (.int .i64 c) (vI E) = vI E' ∧ E'.map (·.1) = E.map (·.1) := by
 refine ⟨E.modify s fun p => (p.1, c), ?_, ?_⟩
 ·unfold putM vI
  apply List.ext_getElem?
  intro i
  simp only [List.getElem?_modify, List.getElem?_map]
  by_cases h : s = i
  ·subst h; cases E[s]? <;> simp
  ·cases E[i]? <;> simp [h]
 ·apply List.ext_getElem?
  intro i
  simp only [List.getElem?_modify, List.getElem?_map]
  by_cases h : s = i
  ·subst h; cases E[s]? <;> simp
  ·cases E[i]? <;> simp [h]
theorem TxTotal_ok (t : Txn) (ht : t.ok) : ECalls Tryz.prog 46 [TXv t] [] fun y H' => H' = [] ∧ y = .tup [.c (iC (totO 0 t.outs).1), .c (.fz (.lit (errV (totO 0 t.outs).2)))] := by
 obtain ⟨h1, h2, h3, h4, h5⟩ := ht
 obtain ⟨F, hF⟩ : ∃ F, totO 0 t.outs = F := ⟨_, rfl⟩
 rw [hF]
 refine ecalls k_TxTotal ?_
 simp [c_TxTotal, TXv, txC, I, iC]
 refine eloop (α := Nat × Int) (fun a => a.1 ≤ t.outs.length ∧ totO a.2 (t.outs.drop a.1) = F ∧ 0 ≤ a.2 ∧ a.2 ≤ 1125899906842624) (fun a => t.outs.length - a.1)
  (fun a => [xA, xA, xA, xA, I .i64 a.2, xA, xA, xA, .v (.c (.fz (.sl 2 (outv t.outs)))), I .i64 t.outs.length, I .i64 a.1, xA, xA, xA, xA, xA, xA, xA, xA, xA, xA, xA, xA, xA, xA, xA, xA, xA, xA, xA, .any]) (fun _ => []) (0, 0) []
  ⟨by simp, by simpa using hF, by simp, by simp⟩ (by simp [I]) (by simp) (by simp) (by simp) (by simp) ?_
 rintro ⟨i, n⟩ ⟨hi1, hi2, hi3, hi4⟩
 dsimp only at hi1 hi2 hi3 hi4
 simp [I]
 refine alt (fun hlt => ?_) (fun hlt => ?_)
 ·have hln : i < t.outs.length := by omega
  obtain ⟨p, hc⟩ : ∃ p, t.outs[i]? = some p := ⟨t.outs[i], by simp [hln]⟩
  have hge : (outv t.outs)[i]'(by simp [hln]) = outF p := gE (outv_get hc)
  have hpo := h3 p (List.mgE hc)
  have hpa := hpo.1
  unfold i64 at hpa
  rw [drop_cons hc] at hi2
  have w1 := wS (i := i) (by omega)
  have w2 : IntKind.i64.wrap (1125899906842624 - n) = 1125899906842624 - n := wrap_i64 (by omega) (by omega)
  simp [hln, hge, outF, iF]
  by_cases c1 : p.am < 0
  ·have c1' : ¬ 0 ≤ p.am := by omega
   have hv : F = (0, 5) := by rw [← hi2]; exact if_pos (.inl c1)
   rw [hv]
   simp [c1, c1', w2]
   exact fin0
  have c1' : 0 ≤ p.am := by omega
  by_cases c2 : 1125899906842624 - n < p.am
  ·have c2' : ¬ p.am ≤ 1125899906842624 - n := by omega
   have hv : F = (0, 5) := by rw [← hi2]; exact if_pos (.inr c2)
   rw [hv]
   simp [c1, c1', w2, c2, c2']
   exact fin0
  have c2' : p.am ≤ 1125899906842624 - n := by omega
  have w3 : IntKind.i64.wrap (n + p.am) = n + p.am := wrap_i64 (by omega) (by omega)
  have hn : totO (n + p.am) (t.outs.drop (i + 1)) = F := by rw [← hi2]; exact (if_neg (by omega)).symm
  simp [c1, c1', w2, c2, c2', w3, w1, -Int.natCast_add]
  exact round (i + 1, n + p.am) [] ⟨by dsimp only; omega, hn, by dsimp only; omega, by dsimp only; omega⟩ (by dsimp only; omega) (by simp [I]) (by simp) (by simp) (by simp) (by simp)
 ·have hd : t.outs.drop i = [] := by rw [List.drop_eq_nil_iff]; omega
  rw [hd] at hi2
  rw [← hi2]
  simp
  exact fin0
def seenO (E : List (List Int × Int)) : EO := .mp [(32, .u8), (1, .i64)] (vI E)
theorem drop35i (a b c : EC) : List.drop 35 (hc hz ++ [a, b, c]) = [] := by rw [List.drop_eq_nil_iff]; simp [hz]
theorem TxCheck_ok (t : Txn) (ht : t.ok) : ECalls Tryz.prog 51 [TXv t] [] fun y H' => H' = [] ∧ y = .lit (errV (chkT t)) := by
 obtain ⟨h1, h2, h3, h4, h5⟩ := id ht
 have hv4 : (t.lk < 0 ∨ 1099511627776 < t.lk ∨ ¬ (1 ≤ t.ins.length ∧ t.ins.length ≤ 64) ∨ ¬ (1 ≤ t.outs.length ∧ t.outs.length ≤ 64) ∨ t.ins.all inM = false) → chkT t = 4 := fun h => if_pos h
 refine ecalls k_TxCheck ?_
 simp [c_TxCheck, TXv, txC, I, iC]
 by_cases c1 : t.lk < 0
 ·have c1' : ¬ 0 ≤ t.lk := by omega
  rw [hv4 (.inl c1)]
  simp [c1, c1']
  exact fin0
 have c1' : 0 ≤ t.lk := by omega
 by_cases c2 : 1099511627776 < t.lk
 ·have c2' : ¬ t.lk ≤ 1099511627776 := by omega
  rw [hv4 (.inr (.inl c2))]
  simp [c1, c1', c2, c2']
  exact fin0
 have c2' : t.lk ≤ 1099511627776 := by omega
 simp [c1, c1', c2, c2', I]
 refine call0 (TxSome_ok (t.ins.length : Int)) (by simp [I]) ?_
 rintro y H' ⟨rfl, rfl⟩
 refine ⟨.inl (by simp), le_ok rfl, ?_⟩
 cases c3 : decide (1 ≤ (t.ins.length : Int) ∧ (t.ins.length : Int) ≤ 64)
 ·have c3 := of_decide_eq_false c3
  rw [hv4 (.inr (.inr (.inl (by omega))))]
  simp [I]
  exact fin0
 have c3 := of_decide_eq_true c3
 simp [I]
 refine call0 (TxSome_ok (t.outs.length : Int)) (by simp [I]) ?_
 rintro y H' ⟨rfl, rfl⟩
 refine ⟨.inl (by simp), le_ok rfl, ?_⟩
 cases c4 : decide (1 ≤ (t.outs.length : Int) ∧ (t.outs.length : Int) ≤ 64)
 ·have c4 := of_decide_eq_false c4
  rw [hv4 (.inr (.inr (.inr (.inl (by omega)))))]
  simp [I]
  exact fin0
 have c4 := of_decide_eq_true c4
 simp [I]
 refine call0 (ConIn_ok t.ins h2 h4) (by simp) ?_
 rintro y H' ⟨rfl, rfl⟩
 refine ⟨.inl (by simp), le_ok rfl, ?_⟩
 cases c5 : t.ins.all inM
 ·rw [hv4 (.inr (.inr (.inr (.inr c5))))]
  simp [I]
  exact fin0
 have hv9 : chkT t = if ¬ (t.ins.map ptI).Nodup then 9 else if outsE t.outs ≠ 0 then outsE t.outs else (totO 0 t.outs).2 := by
  unfold chkT
  rw [if_neg]
  rintro (h | h | h | h | h)
  ·exact c1 h
  ·exact c2 h
  ·omega
  ·omega
  ·rw [c5] at h; simp at h
 simp [I]
 refine eloop (α := Nat × List (List Int × Int)) (fun a => a.1 ≤ t.ins.length ∧ a.2.map (·.1) = ddp ((t.ins.take a.1).map ptI)) (fun a => t.ins.length - a.1)
  (fun a => [xA, Ptr 0, xA, xA, .v (.c (.mp 1)), xA, xA, xA, xA, xA, xA, xA, xA, xA, xA, xA, xA, xA, xA, xA, xA, xA, xA, xA, xA, xA, xA, xA, xA, xA, xA, xA, xA, xA, xA, xA, xA, xA, xA, xA, xA, xA, xA, .v (.c (.fz (.sl 35 (inpv t.ins)))), I .i64 t.ins.length, I .i64 a.1, xA, xA, xA, xA, xA, xA, xA, xA, xA, xA, xA, xA, xA, xA, xA, xA, xA, xA, xA, xA, xA, xA, xA, xA, xA, xA, xA, xA, xA, xA, xA, xA, xA, xA, xA, xA, .any]) (fun a => [some (.box 85 (txC t)), some (seenO a.2)]) (0, []) [0, 496]
  ⟨by simp, by simp [ddp]⟩ (by simp [I, Ptr]) (by simp [txC, iC, seenO, vI]) (by simp) (by simp) (by simp) ?_
 rintro ⟨i, E⟩ ⟨hi1, hi2⟩
 dsimp only at hi1 hi2
 simp [I, Ptr, txC, iC, seenO]
 refine alt (fun hlt => ?_) (fun hlt => ?_)
 ·have hln : i < t.ins.length := by omega
  obtain ⟨p, hcp⟩ : ∃ p, t.ins[i]? = some p := ⟨t.ins[i], by simp [hln]⟩
  have hge : (inpv t.ins)[i]'(by simp [hln]) = inpF p := gE (inpv_get hcp)
  have hpo := h2 p (List.mgE hcp)
  have l0 := ic_len hpo.1
  have l1 := if_len hpo.1
  have tk := ic_take hpo.1
  have pt := ic_pt hpo.1
  have hkl : (hc p.tx ++ [EC.fz (FV.lit (Value.int IntKind.i64 p.n))]).length = 33 := by simp [hpo.1]
  have lk := litK_pt hpo
  have w1 := wS (i := i) (by omega)
  simp [hln, hge, inpF_fz, l0, l1, tk, pt, drop35i, iC]
  have lk' : litK (unrle [(32, .u8), (1, .i64)]) (EW.hc p.tx ++ [EC.fz (FV.lit (Value.int IntKind.i64 p.n))]) = some (ptI p) := lk
  obtain ⟨c, hg⟩ := vI_get (ptI p) E
  obtain ⟨E', he1, he2, he3⟩ := vI_ent (ptI p) E
  obtain ⟨d, hd⟩ : ∃ d, IntKind.i64.wrap (c + 1) = d := ⟨_, rfl⟩
  obtain ⟨E2, hp1, hp2⟩ := vI_put (idxM (ptI p) (vI E)) d E'
  have hEl : (vI E').length = E'.length := by simp [vI]
  have hkeys : E2.map (·.1) = ddp ((t.ins.take (i + 1)).map ptI) := by
   rw [hp2, he2, hi2, take_s hcp, List.map_append, List.map_singleton, ddp_snoc]
  simp [lk', hg, hd, he1, he3, hEl, hp1, w1, -Int.natCast_add]
  exact round (i + 1, E2) [0, 1] ⟨by dsimp only; omega, by dsimp only; rw [← List.map_take]; exact hkeys⟩ (by dsimp only; omega) (by simp [I, Ptr]) (by simp) (by simp) (by simp) (by simp)
 have hil : i = t.ins.length := by omega
 subst hil
 rw [List.take_length] at hi2
 have hEl : E.length = (ddp (t.ins.map ptI)).length := by rw [← hi2]; simp
 have hvl : (vI E).length = E.length := by simp [vI]
 obtain ⟨d1, d2⟩ := ddp_len (t.ins.map ptI)
 rw [List.length_map] at d1 d2
 simp [hvl]
 by_cases c6 : (t.ins.map ptI).Nodup
 rotate_left
 ·have hne : ¬ E.length = t.ins.length := by rw [hEl, d2]; exact c6
  have hne' : ¬ (E.length : Int) = (t.ins.length : Int) := by omega
  rw [hv9, if_pos c6]
  simp [hne, hne']
  exact fin0
 have hne : E.length = t.ins.length := by rw [hEl, d2]; exact c6
 have hne' : (E.length : Int) = (t.ins.length : Int) := by omega
 rw [hv9, if_neg (by simpa using c6)]
 obtain ⟨V, hV⟩ : ∃ V, (if outsE t.outs ≠ 0 then outsE t.outs else (totO 0 t.outs).2) = V := ⟨_, rfl⟩
 rw [hV]
 simp [hne, hne', -errV_0]
 refine eloop (α := Nat) (fun i => i ≤ t.outs.length ∧ outsE t.outs = outsE (t.outs.drop i)) (fun i => t.outs.length - i)
  (fun i => [xA, Ptr 0, xA, xA, xA, xA, xA, xA, xA, xA, xA, xA, xA, xA, xA, xA, xA, xA, xA, xA, xA, xA, xA, xA, xA, xA, xA, xA, xA, xA, xA, xA, xA, xA, xA, xA, xA, xA, xA, xA, xA, xA, xA, xA, xA, xA, xA, xA, xA, xA, xA, xA, xA, xA, xA, xA, xA, xA, xA, xA, xA, xA, xA, xA, xA, .v (.c (.fz (.sl 2 (outv t.outs)))), I .i64 t.outs.length, I .i64 i, xA, xA, xA, xA, xA, xA, xA, xA, xA, xA, xA, xA, xA, xA, .any]) (fun _ => [some (.box 85 (txC t))]) 0 [0]
  ⟨by simp, by simp⟩ (by simp [I, Ptr]) (by simp [txC, iC]) (by simp) (by simp) (by simp) ?_
 clear hi1 hi2 hlt
 rintro i ⟨hi1, hi2⟩
 simp [I, Ptr, txC, iC, -errV_0]
 refine alt (fun hlt => ?_) (fun hlt => ?_)
 ·have hln : i < t.outs.length := by omega
  obtain ⟨p, hcp⟩ : ∃ p, t.outs[i]? = some p := ⟨t.outs[i], by simp [hln]⟩
  have hge : (outv t.outs)[i]'(by simp [hln]) = outF p := gE (outv_get hcp)
  have hpo := h3 p (List.mgE hcp)
  rw [drop_cons hcp] at hi2
  have w1 := wS (i := i) (by omega)
  simp [hln, hge, outF, iF, -errV_0]
  refine call0 (OutChk_ok p hpo) (by simp [outC, iC]) ?_
  rintro y H' ⟨rfl, rfl⟩
  refine ⟨.inl (by simp), le_ok rfl, ?_⟩
  by_cases c7 : ouE p = 0
  ·have hn : outsE t.outs = outsE (t.outs.drop (i + 1)) := by rw [hi2]; exact if_neg (by simpa using c7)
   simp [c7, w1, -errV_0, -Int.natCast_add]
   exact round (i + 1) [0] ⟨by omega, hn⟩ (by omega) (by simp [I, Ptr]) (by simp) (by simp) (by simp) (by simp)
  ·have hn : outsE t.outs = ouE p := by rw [hi2]; exact if_pos c7
   rw [show V = ouE p by rw [← hV, if_pos (by rw [hn]; exact c7), hn]]
   simp [c7, -errV_0]
   exact fin0
 have hil : i = t.outs.length := by omega
 subst hil
 rw [List.drop_length] at hi2
 have hz0 : outsE t.outs = 0 := hi2
 rw [show V = (totO 0 t.outs).2 by rw [← hV, if_neg (by simpa using hz0)]]
 simp [-errV_0]
 refine call0 (TxTotal_ok t ht) (by simp [TXv, txC, iC]) ?_
 rintro y H' ⟨rfl, rfl⟩
 refine ⟨.inl (by simp [iC]), le_ok rfl, ?_⟩
 simp [iC, -errV_0]
 exact fin0
theorem drop33i (a b c : EC) : List.drop 33 (hc hz ++ [a, b, c]) = [b, c] := by
 rw [List.drop_append, List.drop_of_length_le (by simp [hz])]
 rfl
section
variable {l : List UInt8} (h : l.length = 32)
include h
theorem tk33x (a : EC) (r : List EC) : List.take 33 (hc l ++ a :: r) = hc l ++ [a] := by
 have e : (hc l).length = 32 := by rw [hc_len, h]
 rw [List.take_append, List.tkL (by omega), e]; rfl
theorem tk34x (a b : EC) (r : List EC) : List.take 34 (hc l ++ a :: b :: r) = hc l ++ [a, b] := by
 have e : (hc l).length = 32 := by rw [hc_len, h]
 rw [List.take_append, List.tkL (by omega), e]; rfl
theorem dr34x (a b : EC) (r : List EC) : List.drop 34 (hc l ++ a :: b :: r) = r := by
 have e : (hc l).length = 32 := by rw [hc_len, h]
 rw [List.drop_append, List.drop_of_length_le (by omega), e]; rfl
theorem dr35x (a b c : EC) (r : List EC) : List.drop 35 (hc l ++ a :: b :: c :: r) = r := by
 have e : (hc l).length = 32 := by rw [hc_len, h]
 rw [List.drop_append, List.drop_of_length_le (by omega), e]; rfl
end
end Go.Proofs.YtddcceahaigodaaGreatDoor
