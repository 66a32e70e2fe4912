import Derived.Test.YtejjhgdnmknejaaGreatDoorAll10
import Derived.Test.YtejjhgdnmknejaaGreatDoorAll9
import Derived.Test.YtejjhgdnmknejaaGreatDoorAll8
set_option maxHeartbeats 64000000
namespace Go.Proofs.YtejjhgdnmknejaaGreatDoor
open Go Go.EW
set_option linter.unusedSimpArgs false
set_option linter.unusedVariables false
def yl5q : UL | _ => [⟨2, (some 11), none, (.app 5 1 1 (.t 9) (.t 10)), [3, 4, 5, 6]⟩, xO 7 16 (.call 107 [.t 11, .t 15]), xM 8 5 16]
def yl5r : UL | _ => xM 0 9 5 :: xM 1 10 0 :: xF 3 12 0 3 :: xL 4 13 12 :: xE 5 14 13 :: xQ 6 15 (.cnv .u64 (.t 14)) :: hid yl5q
def yl5t : UL | _ => [xM 0 17 6, xF 1 18 0 3, xL 2 19 18, xE 3 20 19, xb 4 21 .lss 17 20]
def yl5u : UL | _ => [xN 6 (.fz (.sto 35 (.t 7) (.t 28)))]
def yl5v : UL | _ => xF 0 24 0 3 :: xL 1 25 24 :: xM 2 26 6 :: xI 3 27 35 25 26 :: xD 4 28 35 27 :: xQ 5 7 (.alloc 212 (([xS] : List Value) ++ zU8 ++ [xZ, xZ])) :: hid yl5u
def yl5w : UL | _ => [xM 6 5 34]
def yl5x : UL | _ => xM 0 29 5 :: xF 1 30 0 7 :: xL 2 31 30 :: xE 3 32 31 :: xQ 4 33 (.cnv .u64 (.t 32)) :: xO 5 34 (.call 107 [.t 29, .t 33]) :: hid yl5w
def yl5z : UL | _ => [xM 0 35 8, xF 1 36 0 7, xL 2 37 36, xE 3 38 37, xb 4 39 .lss 35 38]
def yl60 : UL | _ => [xQ 6 48 (.cnv .u64 (.t 47)), xO 7 49 (.call 107 [.t 42, .t 48]), xM 8 5 49]
def yl61 : UL | _ => xM 0 42 5 :: xF 1 43 0 7 :: xL 2 44 43 :: xM 3 45 8 :: xI 4 46 1 44 45 :: xL 5 47 46 :: hid yl60
def yl64 : UL | _ => [xM 12 5 61]
def yl65 : UL | _ => xF 8 58 34 7 :: xL 9 59 58 :: xQ 10 60 (.cnv .u64 (.t 59)) :: ⟨3, (some 53), none, (.call 108 [.t 50, .t 52]), [4, 5, 6, 8, 9, 10]⟩ :: ⟨7, (some 57), none, (.call 107 [.t 53, .t 56]), [8, 9, 10]⟩ :: xO 11 61 (.call 107 [.t 57, .t 60]) :: hid yl64
def yl66 : UL | _ => xM 0 50 5 :: xF 1 51 1 7 :: xD 2 52 32 51 :: xF 4 54 33 7 :: xL 5 55 54 :: xQ 6 56 (.cnv .u64 (.t 55)) :: hid yl65
def yb68 : UB | _ => .seq (reg0 (hid yl5v) 7) (.seq (reg0 (hid yl5x) 7) (.seq (.seq (reg0 [xC 0 8 0] 1) (.block 2 (.loop (.seq (.seq (reg0 (hid yl5z) 5) (.cond (.t 39) .skip (.exit 2))) (.seq (.block 3 (reg0 (hid yl61) 9)) (reg0 [xM 0 40 8, xc 1 41 .add 40 1, xM 2 8 41] 3)))))) (reg1 (hid yl66) 13)))
def yb6c : UB | _ => .seq (.seq (reg0 [xC 0 6 0] 1) (.block 0 (.loop (.seq (.seq (reg0 (hid yl5t) 5) (.cond (.t 21) .skip (.exit 0))) (.seq (.block 1 (hid yb68)) (reg0 [xM 0 22 6, xc 1 23 .add 22 1, xM 2 6 23] 3)))))) (.seq (reg0 [xM 0 62 5, xM 1 4 62] 2) .ret)
def yb6d : UB | _ => .seq (reg0 [xQ 0 5 (.mov (.k xS))] 1) (.seq (reg1 (hid yl5r) 9) (hid yb6c))
def yb6e : UB | _ => .seq (reg0 [xW 0 3 152 1, xQ 1 4 (.mov (.k xS))] 2) (hid yb6d)
attribute [simp] yl5q yl5r yl5t yl5u yl5v yl5w yl5x yl5z yl60 yl61 yl64 yl65 yl66 yb68 yb6c yb6d yb6e
def c_RCPut : EB × List QOp × Nat := ((hid yb6e), [(.mov (.t 4))], 63)
theorem k_RCPut : cfun Tryz.prog 125 = some c_RCPut := by kernel_rfl
def yl6g : UL | _ => [xQ 7 16 (.cnv .u64 (.t 15)), ⟨3, (some 12), none, (.call 107 [(.k xS), .t 11]), [4, 5, 6, 7]⟩, xO 8 17 (.call 107 [.t 12, .t 16]), xM 9 5 17]
def yl6h : UL | _ => xF 0 9 0 2 :: xL 1 10 9 :: xQ 2 11 (.cnv .u64 (.t 10)) :: xF 4 13 1 2 :: xL 5 14 13 :: xE 6 15 14 :: hid yl6g
def yl6j : UL | _ => [xM 0 18 6, xF 1 19 1 2, xL 2 20 19, xE 3 21 20, xb 4 22 .lss 18 21]
def yl6k : UL | _ => [xN 6 (.fz (.sto 35 (.t 7) (.t 29)))]
def yl6l : UL | _ => xF 0 25 1 2 :: xL 1 26 25 :: xM 2 27 6 :: xI 3 28 35 26 27 :: xD 4 29 35 28 :: xQ 5 7 (.alloc 149 (zU8 ++ [xZ, xZ, xS])) :: hid yl6k
def yl6m : UL | _ => [⟨9, (some 39), none, (.call 107 [.t 34, .t 38]), [10, 11, 12]⟩, xO 13 43 (.call 107 [.t 39, .t 42]), xM 14 5 43]
def yl6n : UL | _ => xL 7 37 36 :: xQ 8 38 (.cnv .u64 (.t 37)) :: xF 10 40 33 7 :: xL 11 41 40 :: xQ 12 42 (.cnv .u64 (.t 41)) :: ⟨4, (some 34), none, (.call 108 [.t 30, .t 33]), [5, 6, 7, 8, 10, 11, 12]⟩ :: hid yl6m
def yl6o : UL | _ => xM 0 30 5 :: xF 1 31 0 7 :: xF 2 32 0 31 :: xD 3 33 32 32 :: xF 5 35 0 7 :: xF 6 36 32 35 :: hid yl6n
def yl6q : UL | _ => [xM 0 45 5, xF 1 46 34 7, xL 2 47 46, xO 3 48 (.call 124 [.t 45, .t 47]), xM 4 5 48]
def yb6t : UB | _ => .seq (reg0 (hid yl6l) 7) (.seq (reg1 (hid yl6o) 15) (.seq (reg0 [xM 0 44 1] 1) (.cond (.t 44) (reg0 (hid yl6q) 5) (reg0 [xM 0 49 5, xO 1 50 (.call 124 [.t 49, (.k xS)]), xM 2 5 50] 3))))
def yb6v : UB | _ => .seq (.seq (reg0 (hid yl6j) 5) (.cond (.t 22) .skip (.exit 0))) (.seq (.block 1 (hid yb6t)) (reg0 [xM 0 23 6, xc 1 24 .add 23 1, xM 2 6 24] 3))
def yl6w : UL | _ => [xM 6 5 56]
def yl6x : UL | _ => xM 0 51 5 :: xF 1 52 2 2 :: xL 2 53 52 :: xE 3 54 53 :: xQ 4 55 (.cnv .u64 (.t 54)) :: xO 5 56 (.call 107 [.t 51, .t 55]) :: hid yl6w
def yl6z : UL | _ => [xM 0 57 8, xF 1 58 2 2, xL 2 59 58, xE 3 60 59, xb 4 61 .lss 57 60]
def yl70 : UL | _ => [xF 13 77 1 76, xD 14 78 1 77, ⟨8, (some 72), none, (.call 107 [.t 64, .t 71]), [9, 10, 11, 12, 13, 14]⟩, xO 15 79 (.call 125 [.t 72, .t 78]), xM 16 5 79]
def yl71 : UL | _ => xL 6 70 69 :: xQ 7 71 (.cnv .u64 (.t 70)) :: xF 9 73 2 2 :: xL 10 74 73 :: xM 11 75 8 :: xI 12 76 2 74 75 :: hid yl70
def yl72 : UL | _ => xM 0 64 5 :: xF 1 65 2 2 :: xL 2 66 65 :: xM 3 67 8 :: xI 4 68 2 66 67 :: xF 5 69 0 68 :: hid yl71
def yb76 : UB | _ => .seq (.seq (reg0 [xC 0 8 0] 1) (.block 2 (.loop (.seq (.seq (reg0 (hid yl6z) 5) (.cond (.t 61) .skip (.exit 2))) (.seq (.block 3 (reg1 (hid yl72) 17)) (reg0 [xM 0 62 8, xc 1 63 .add 62 1, xM 2 8 63] 3)))))) (.seq (reg0 [xM 0 80 5, xM 1 4 80] 2) .ret)
def yb77 : UB | _ => .seq (.seq (reg0 [xC 0 6 0] 1) (.block 0 (.loop (hid yb6v)))) (.seq (reg0 (hid yl6x) 7) (hid yb76))
def yb78 : UB | _ => .seq (reg0 [xW 0 2 77 0, xQ 1 4 (.mov (.k xS))] 2) (.seq (reg1 (hid yl6h) 10) (hid yb77))
attribute [simp] yl6g yl6h yl6j yl6k yl6l yl6m yl6n yl6o yl6q yb6t yb6v yl6w yl6x yl6z yl70 yl71 yl72 yb76 yb77 yb78
def c_RTPut : EB × List QOp × Nat := ((hid yb78), [(.mov (.t 4))], 81)
theorem k_RTPut : cfun Tryz.prog 62 = some c_RTPut := by kernel_rfl
def yl7a : UL | _ => [xD 0 3 3 1, xO 1 4 (.call 62 [.t 3, (.k (.bool true))]), xM 2 2 4]
def yb7b : UB | _ => .seq (reg0 [xW 0 1 77 0, xQ 1 2 (.mov (.k xS))] 2) (.seq (reg0 (hid yl7a) 3) .ret)
attribute [simp] yl7a yb7b
def c_RTEncode : EB × List QOp × Nat := ((hid yb7b), [(.mov (.t 2))], 5)
theorem k_RTEncode : cfun Tryz.prog 24 = some c_RTEncode := by kernel_rfl
theorem RCPut_ok (pre : List UInt8) (l : List Bra) (hl : ∀ b ∈ l, b.ok) (hn : l.length ≤ 100000000) (hs : pre.length + (cndB l).length ≤ 400000000) : ECalls Tryz.prog 125 [Bs pre, CNv l] [] fun y H' => H' = [some (RO (pre ++ cndB l))] ∧ y = R 0 (pre ++ cndB l) := by
 have hc0 : (cndB l).length = (uB (l.length : Int)).length + (brsB l).length := by simp [cndB]
 obtain ⟨F, hF⟩ : ∃ F : Nat → List UInt8, F = fun i => pre ++ uB (l.length : Int) ++ brsB (l.take i) := ⟨_, rfl⟩
 have hF0 : pre ++ uB (l.length : Int) = F 0 := by rw [hF]; simp [brsB]
 have hFl : ∀ i, (F i).length ≤ 400000000 := by
  intro i
  have hfl := flat_take braB l i
  rw [hF]; simp only [List.length_append]; unfold brsB at *; omega
 refine ecalls k_RCPut ?_
 simp [c_RCPut, CNv, Bs]
 refine ⟨⟨by omega, by omega⟩, ?_⟩
 simp only [wrap_u64n]
 refine call0 (RUint_ok pre (u64n (l.length : Int)) (u64n_lt _) (by omega)) (by simp [I, Bs, List.tkL]) ?_
 rintro y H' ⟨rfl, rfl⟩
 refine ⟨.inr ⟨rfl, by simp [RO, bsv, cb]⟩, le_ok rfl, ?_⟩
 simp only [uB_eq, hF0]
 simp [R, RO]
 refine eloop (α := Nat) (fun i => i ≤ l.length) (fun i => l.length - i)
  (fun i => [xA, xA, xA, Ptr 0, xA, R 1 (F i), I .i64 i, xA, xA, xA, xA, xA, xA, xA, xA, xA, xA, xA, xA, xA, xA, xA, xA, xA, xA, xA, xA, xA, xA, xA, xA, xA, xA, xA, xA, xA, xA, xA, xA, xA, xA, xA, xA, xA, xA, xA, xA, xA, xA, xA, xA, xA, xA, xA, xA, xA, xA, xA, xA, xA, xA, xA, .any]) (fun i => [some (.box 152 [.fz (.sl 35 (brav l))]), some (RO (F i))]) 0 [0, 160]
  (Nat.zero_le _) (by simp [Ptr, I, R]) (by simp [RO]) (by simp) (by simp) (by simp) ?_
 intro i hi
 have hX := hFl i
 simp [Ptr, I, R, RO]
 refine alt (fun hlt => ?_) (fun hlt => ?_)
 ·have hln : i < l.length := by omega
  obtain ⟨b, hcx⟩ : ∃ b, l[i]? = some b := ⟨l[i], by simp [hln]⟩
  have hge : (brav l)[i]'(by simpa using hln) = braF b := gE (brav_get hcx)
  have hb := hl b (List.mgE hcx)
  obtain ⟨b1, b2, b3, b4, b5⟩ := id hb
  have l0 := bc_len b2
  have f0 := bf_len b2
  have tk := bc_take b2
  have lk : List.take 32 (braC b).tail = hc b.lock := by have := bc_lock b2; simpa using this
  have e0 := idx_of (bc_0 b) (by omega)
  have e33 := idx_of (bc_33 b2) (by omega)
  have e34 := idx_of (bc_34 b2) (by omega)
  have w1 := wS (i := i) (by omega)
  have hfs := flat_take_s braB hcx
  have hbl : (braB b).length = (uB (b.keys.length : Int)).length + ((usB b.keys).length + (32 + ((uB b.af).length + (uB b.ol).length))) := by simp [braB, b2]
  have hXb : (F i).length + (braB b).length ≤ 400000000 := by
   rw [hF]; simp only [List.length_append]; unfold brsB at *; omega
  have hFs : F (i + 1) = F i ++ braB b := by rw [hF]; simp [take_s hcx, brsB_snoc]
  simp [hln, hge, braF_fz, l0, f0, tk, lk, e0, e33, e34, wrap_u64n, drop34z, iC, RO, R, Ptr]
  refine call0 (RUint_ok (F i) (u64n (b.keys.length : Int)) (u64n_lt _) (by omega)) (by simp [I, Bs, List.tkL]) ?_
  rintro y H' ⟨rfl, rfl⟩
  refine ⟨.inr ⟨rfl, by simp [RO, bsv, cb]⟩, le_ok rfl, ?_⟩
  obtain ⟨G, hG⟩ : ∃ G : Nat → List UInt8, G = fun j => F i ++ uB (b.keys.length : Int) ++ usB (b.keys.take j) := ⟨_, rfl⟩
  have hG0 : F i ++ uB (b.keys.length : Int) = G 0 := by rw [hG]; simp [usB]
  have hGl : ∀ j, (G j).length + 32 + (uB b.af).length + (uB b.ol).length ≤ 400000000 := by
   intro j
   have hfk := flat_take uB b.keys j
   rw [hG]; simp only [List.length_append]; unfold usB at *; omega
  simp only [uB_eq, hG0]
  simp [hln, hge, braF_fz, l0, f0, tk, lk, e0, e33, e34, wrap_u64n, drop34z, iC, RO, R, Ptr]
  refine eloop (α := Nat) (fun j => j ≤ b.keys.length) (fun j => b.keys.length - j)
   (fun j => [xA, xA, xA, Ptr 0, xA, R 1 (G j), I .i64 i, Ptr 2, I .i64 j, xA, xA, xA, xA, xA, xA, xA, xA, xA, xA, xA, xA, xA, xA, xA, xA, xA, xA, xA, xA, xA, xA, xA, xA, xA, xA, xA, xA, xA, xA, xA, xA, xA, xA, xA, xA, xA, xA, xA, xA, xA, xA, xA, xA, xA, xA, xA, xA, xA, xA, xA, xA, xA, .any])
   (fun j => [some (.box 152 [.fz (.sl 35 (brav l))]), some (RO (G j)), some (.box 212 (braC b))]) 0 [0, 274, 162]
   (Nat.zero_le _) (by simp [Ptr, I, R]) (by simp [RO]) (by simp) (by simp) (by simp) ?_
  intro j hj
  have hY := hGl j
  simp [Ptr, I, R, RO, l0, e0]
  refine alt (fun hlt2 => ?_) (fun hlt2 => ?_)
  ·have hjn : j < b.keys.length := by omega
   obtain ⟨k, hc2⟩ : ∃ k, b.keys[j]? = some k := ⟨b.keys[j], by simp [hjn]⟩
   have hcb2 := intv_get hc2
   have w3 : IntKind.i64.wrap ((j : Int) + 1) = ((j + 1 : Nat) : Int) := wrap_i64 (by omega) (by omega)
   have hGs : G (j + 1) = G j ++ uB k := by rw [hG]; simp [take_s hc2, usB_snoc]
   simp [hcb2, hln, hge, braF_fz, l0, f0, tk, lk, e0, e33, e34, wrap_u64n, drop34z, iC, RO, R, Ptr]
   refine call0 (RUint_ok (G j) (u64n k) (u64n_lt _) (by omega)) (by simp [I, Bs, List.tkL]) ?_
   rintro y H' ⟨rfl, rfl⟩
   refine ⟨.inr ⟨rfl, by simp [RO, bsv, cb]⟩, le_ok rfl, ?_⟩
   simp only [uB_eq, ← hGs]
   simp [R, RO, w3, -Int.natCast_add]
   exact round (j + 1) [0, 195, 2] (by omega) (by omega) (by simp [Ptr, I, R]) (by simp [RO]) (by simp) (by simp) (by simp)
  have hjl : j = b.keys.length := by omega
  subst hjl
  simp [hln, hge, braF_fz, l0, f0, tk, lk, e0, e33, e34, wrap_u64n, drop34z, iC, RO, R, Ptr]
  refine call0 (RHash_ok (G b.keys.length) b.lock (by omega) b2) (by simp [Ag, Bs, List.tkL, lk]) ?_
  rintro y H' ⟨rfl, rfl⟩
  refine ⟨.inr ⟨rfl, by simp [RO, bsv, cb]⟩, le_ok rfl, ?_⟩
  simp [hln, hge, braF_fz, l0, f0, tk, lk, e0, e33, e34, wrap_u64n, drop34z, iC, RO, R, Ptr]
  refine call0 (RUint_ok (G b.keys.length ++ b.lock) (u64n b.af) (u64n_lt _) (by simp; omega)) (by simp [I, Bs, List.tkL]) ?_
  rintro y H' ⟨rfl, rfl⟩
  refine ⟨.inr ⟨rfl, by simp [RO, bsv, cb]⟩, le_ok rfl, ?_⟩
  simp only [uB_eq]
  simp [hln, hge, braF_fz, l0, f0, tk, lk, e0, e33, e34, wrap_u64n, drop34z, iC, RO, R, Ptr]
  refine call0 (RUint_ok (G b.keys.length ++ b.lock ++ uB b.af) (u64n b.ol) (u64n_lt _) (by simp; omega)) (by simp [I, Bs, List.tkL]) ?_
  rintro y H' ⟨rfl, rfl⟩
  refine ⟨.inr ⟨rfl, by simp [RO, bsv, cb]⟩, le_ok rfl, ?_⟩
  have hGe : G b.keys.length ++ b.lock ++ uB b.af ++ uB b.ol = F (i + 1) := by rw [hFs, hG]; simp [braB]
  simp only [uB_eq, hGe]
  simp [R, RO, Ptr, w1, -Int.natCast_add]
  exact round (i + 1) [0, 259] (by omega) (by omega) (by simp [Ptr, I, R]) (by simp [RO]) (by simp) (by simp) (by simp)
 have hil : i = l.length := by omega
 subst hil
 have hXc : pre ++ cndB l = F l.length := by rw [hF]; simp [cndB]
 simp
 exact fin [1] (by decide) rfl rfl rfl ⟨by simp [hXc, RO], by simp [← hXc, R]⟩
theorem ecalls_nilC {P : Program} {f : FuncId} {e : Nat} {x : EV} {rest : List EV} {H : List EO} {post : EV → List (Option EO) → Prop} (h : ECalls P f (x :: .v (.c (.fz (.sl e []))) :: rest) H post) :
  ECalls P f (x :: .v (.c (.fz (.lit (.slice none 0 0)))) :: rest) H post := by
 intro ρ Φ w vals r' ha
 refine h ρ Φ w vals r' ?_
 obtain ⟨u0, us0, rfl, h0, ha⟩ := ha.cons_left
 obtain ⟨u, us, rfl, h1, h2⟩ := ha.cons_left
 have h1' : VR ⟨fun o => o < H.length, ρ, Φ, w⟩ (.fz (.lit (.slice none 0 0))) u := h1
 exact All2.cons h0 (All2.cons (nl_vr h1') h2)
theorem RTPutF_ok (sb : Bool) (t : Txn) (ht : t.ok) (hsb : sb = true ∨ ∀ x ∈ t.ins, x.sec = []) (hsec : ∀ x ∈ t.ins, x.sec.length ≤ 10000000) (hs : (encT t).length ≤ 400000000) : ECalls Tryz.prog 62 [TXv t, .lit (.bool sb)] [] fun y H' => H' = [] ∧ y = Bs (encT t) := by
 obtain ⟨t1, t2, t3, t4, t5⟩ := id ht
 have hlen : (encT t).length = (uB t.lk).length + (uB (t.ins.length : Int)).length + (insB t.ins).length + (uB (t.outs.length : Int)).length + (ousB t.outs).length := by simp [encT, mdB, hdB]; try omega
 obtain ⟨F, hF⟩ : ∃ F : Nat → List UInt8, F = fun i => hdB t ++ insB (t.ins.take i) := ⟨_, rfl⟩
 have hF0 : uB t.lk ++ uB (t.ins.length : Int) = F 0 := by rw [hF]; simp [insB, hdB]
 have hFl : ∀ i, (F i).length ≤ 400000000 := by
  intro i
  have hfl := flat_take inpB t.ins i
  rw [hF]; simp only [List.length_append, hdB]; unfold insB at *; omega
 have hFe : F t.ins.length = hdB t ++ insB t.ins := by rw [hF]; simp
 obtain ⟨K, hK⟩ : ∃ K : Nat → List UInt8, K = fun i => mdB t ++ ousB (t.outs.take i) := ⟨_, rfl⟩
 have hK0 : F t.ins.length ++ uB (t.outs.length : Int) = K 0 := by rw [hK, hFe]; simp [ousB, mdB]
 have hKl : ∀ i, (K i).length ≤ 400000000 := by
  intro i
  have hfl := flat_take oupB t.outs i
  rw [hK]; simp only [List.length_append, hdB, mdB]; unfold ousB at *; omega
 refine ecalls k_RTPut ?_
 simp [c_RTPut, TXv, txC, iC, wrap_u64n]
 refine call0 (RUint_nil (u64n t.lk) (u64n_lt _)) (by simp [I]) ?_
 rintro y H' ⟨rfl, rfl⟩
 refine ⟨.inl (by simp), le_ok rfl, ?_⟩
 simp only [uB_eq]
 simp [R, RO, wrap_u64n]
 refine call0 (RUint_ok (uB t.lk) (u64n (t.ins.length : Int)) (u64n_lt _) (by omega)) (by simp [I, Bs, List.tkL]) ?_
 rintro y H' ⟨rfl, rfl⟩
 refine ⟨.inr ⟨rfl, by simp [RO, bsv, cb]⟩, le_ok rfl, ?_⟩
 simp only [uB_eq, hF0]
 simp [R, RO, wrap_u64n]
 refine eloop (α := Nat) (fun i => i ≤ t.ins.length) (fun i => t.ins.length - i)
  (fun i => [xA, .lit (.bool sb), Ptr 0, xA, xA, R 1 (F i), I .i64 i, xA, xA, xA, xA, xA, xA, xA, xA, xA, xA, xA, xA, xA, xA, xA, xA, xA, xA, xA, xA, xA, xA, xA, xA, xA, xA, xA, xA, xA, xA, xA, xA, xA, xA, xA, xA, xA, xA, xA, xA, xA, xA, xA, xA, xA, xA, xA, xA, xA, xA, xA, xA, xA, xA, xA, xA, xA, xA, xA, xA, xA, xA, xA, xA, xA, xA, xA, xA, xA, xA, xA, xA, xA, .any]) (fun i => [some (.box 77 (txC t)), some (RO (F i))]) 0 [0, 160]
  (Nat.zero_le _) (by simp [Ptr, I, R]) (by simp [RO, txC, iC]) (by simp) (by simp) (by simp) ?_
 intro i hi
 have hX := hFl i
 simp [Ptr, I, R, RO, txC, iC]
 refine alt (fun hlt => ?_) (fun hlt => ?_)
 ·have hln : i < t.ins.length := by omega
  obtain ⟨x, hcx⟩ : ∃ x, t.ins[i]? = some x := ⟨t.ins[i], by simp [hln]⟩
  have hge : (inpv t.ins)[i]'(by simpa using hln) = inpF x := gE (inpv_get hcx)
  have hx := t2 x (List.mgE hcx)
  obtain ⟨x1, x2, x3, x4⟩ := id hx
  have x5 := hsec x (List.mgE hcx)
  have l0 := ic_len x1
  have f0 := if_len x1
  have tk := ic_take x1
  have th := ic_hash x1
  have e32 := idx_of (ic_32 x1) (by omega)
  have e33 := idx_of (ic_33 x1) (by omega)
  have e34 := idx_of (ic_34 x1) (by omega)
  have w1 := wS (i := i) (by omega)
  have hfs := flat_take_s inpB hcx
  have hbl : (inpB x).length = 32 + ((uB x.n).length + ((uB x.br).length + (bytesB x.sec).length)) := by simp [inpB, x1]
  have hXb : (F i).length + (inpB x).length ≤ 400000000 := by
   rw [hF]; simp only [List.length_append, hdB]; unfold insB at *; omega
  have hFs : F (i + 1) = F i ++ inpB x := by rw [hF]; simp [take_s hcx, insB_snoc]
  simp [hln, hge, inpF_fz, l0, f0, tk, th, e32, e33, e34, wrap_u64n, drop35h, iC, RO, R, Ptr]
  refine call0 (RHash_ok (F i) x.tx (by omega) x1) (by simp [Ag, Bs, List.tkL]) ?_
  rintro y H' ⟨rfl, rfl⟩
  refine ⟨.inr ⟨rfl, by simp [RO, bsv, cb]⟩, le_ok rfl, ?_⟩
  simp [hln, hge, inpF_fz, l0, f0, tk, th, e32, e33, e34, wrap_u64n, drop35h, iC, RO, R, Ptr]
  refine call0 (RUint_ok (F i ++ x.tx) (u64n x.n) (u64n_lt _) (by simp; omega)) (by simp [I, Bs, List.tkL]) ?_
  rintro y H' ⟨rfl, rfl⟩
  refine ⟨.inr ⟨rfl, by simp [RO, bsv, cb]⟩, le_ok rfl, ?_⟩
  simp only [uB_eq]
  simp [hln, hge, inpF_fz, l0, f0, tk, th, e32, e33, e34, wrap_u64n, drop35h, iC, RO, R, Ptr]
  refine call0 (RUint_ok (F i ++ x.tx ++ uB x.n) (u64n x.br) (u64n_lt _) (by simp; omega)) (by simp [I, Bs, List.tkL]) ?_
  rintro y H' ⟨rfl, rfl⟩
  refine ⟨.inr ⟨rfl, by simp [RO, bsv, cb]⟩, le_ok rfl, ?_⟩
  simp only [uB_eq]
  have hGe : F i ++ x.tx ++ uB x.n ++ uB x.br ++ bytesB x.sec = F (i + 1) := by rw [hFs]; simp [inpB]
  cases sb
  ·have hse : x.sec = [] := by
    rcases hsb with hsb | hsb
    ·exact absurd hsb (by simp)
    ·exact hsb x (List.mgE hcx)
   rw [hse] at hGe
   simp [hln, hge, inpF_fz, l0, f0, tk, th, e32, e33, e34, wrap_u64n, drop35h, iC, RO, R, Ptr]
   refine call0 (ecalls_nilC (e := 1) (RBytes_ok (F i ++ x.tx ++ uB x.n ++ uB x.br) [] (by simp; omega) (by simp))) (by simp [Bs, List.tkL]) ?_
   rintro y H' ⟨rfl, rfl⟩
   refine ⟨.inr ⟨rfl, by simp [RO, bsv, cb]⟩, le_ok rfl, ?_⟩
   simp only [hGe]
   simp [R, RO, Ptr, w1, -Int.natCast_add]
   exact round (i + 1) [0, 466] (by omega) (by omega) (by simp [Ptr, I, R]) (by simp [RO, txC, iC]) (by simp) (by simp) (by simp)
  ·simp [hln, hge, inpF_fz, l0, f0, tk, th, e32, e33, e34, wrap_u64n, drop35h, iC, RO, R, Ptr]
   refine call0 (RBytes_ok (F i ++ x.tx ++ uB x.n ++ uB x.br) x.sec (by simp; omega) (by omega)) (by simp [Bs, List.tkL]) ?_
   rintro y H' ⟨rfl, rfl⟩
   refine ⟨.inr ⟨rfl, by simp [RO, bsv, cb]⟩, le_ok rfl, ?_⟩
   simp only [hGe]
   simp [R, RO, Ptr, w1, -Int.natCast_add]
   exact round (i + 1) [0, 498] (by omega) (by omega) (by simp [Ptr, I, R]) (by simp [RO, txC, iC]) (by simp) (by simp) (by simp)
 have hil : i = t.ins.length := by omega
 subst hil
 simp [wrap_u64n]
 refine call0 (RUint_ok (F t.ins.length) (u64n (t.outs.length : Int)) (u64n_lt _) (by omega)) (by simp [I, Bs, List.tkL]) ?_
 rintro y H' ⟨rfl, rfl⟩
 refine ⟨.inr ⟨rfl, by simp [RO, bsv, cb]⟩, le_ok rfl, ?_⟩
 simp only [uB_eq, hK0]
 simp [R, RO]
 refine eloop (α := Nat) (fun i => i ≤ t.outs.length) (fun i => t.outs.length - i)
  (fun i => [xA, xA, Ptr 0, xA, xA, R 1 (K i), xA, xA, I .i64 i, xA, xA, xA, xA, xA, xA, xA, xA, xA, xA, xA, xA, xA, xA, xA, xA, xA, xA, xA, xA, xA, xA, xA, xA, xA, xA, xA, xA, xA, xA, xA, xA, xA, xA, xA, xA, xA, xA, xA, xA, xA, xA, xA, xA, xA, xA, xA, xA, xA, xA, xA, xA, xA, xA, xA, xA, xA, xA, xA, xA, xA, xA, xA, xA, xA, xA, xA, xA, xA, xA, xA, .any]) (fun i => [some (.box 77 (txC t)), some (RO (K i))]) 0 [0, 162]
  (Nat.zero_le _) (by simp [Ptr, I, R]) (by simp [RO, txC, iC]) (by simp) (by simp) (by simp) ?_
 intro i hi
 have hX := hKl i
 simp [Ptr, I, R, RO, txC, iC]
 refine alt (fun hlt => ?_) (fun hlt => ?_)
 ·have hln : i < t.outs.length := by omega
  obtain ⟨x, hcx⟩ : ∃ x, t.outs[i]? = some x := ⟨t.outs[i], by simp [hln]⟩
  have hge : (outv t.outs)[i]'(by simpa using hln) = outF x := gE (outv_get hcx)
  obtain ⟨x1, x2, x3⟩ := t3 x (List.mgE hcx)
  have w1 := wS (i := i) (by omega)
  have hfs := flat_take_s oupB hcx
  have hbl : (oupB x).length = (uB x.am).length + (cndB x.cs).length := by simp [oupB]
  have hXb : (K i).length + (oupB x).length ≤ 400000000 := by
   rw [hK]; simp only [List.length_append, hdB, mdB]; unfold ousB at *; omega
  have hKs : K (i + 1) = K i ++ oupB x := by rw [hK]; simp [take_s hcx, ousB_snoc]
  simp [hln, hge, outF, iF, wrap_u64n]
  refine call0 (RUint_ok (K i) (u64n x.am) (u64n_lt _) (by omega)) (by simp [I, Bs, List.tkL]) ?_
  rintro y H' ⟨rfl, rfl⟩
  refine ⟨.inr ⟨rfl, by simp [RO, bsv, cb]⟩, le_ok rfl, ?_⟩
  simp only [uB_eq]
  simp [hln, hge, outF, iF, R, RO, wrap_u64n]
  refine call0 (RCPut_ok (K i ++ uB x.am) x.cs x2 x3 (by simp; omega)) (by simp [CNv, Bs, List.tkL]) ?_
  rintro y H' ⟨rfl, rfl⟩
  refine ⟨.inr ⟨rfl, by simp [RO, bsv, cb]⟩, le_ok rfl, ?_⟩
  have hGe : K i ++ uB x.am ++ cndB x.cs = K (i + 1) := by rw [hKs]; simp [oupB]
  simp only [hGe]
  simp [R, RO, w1, -Int.natCast_add]
  exact round (i + 1) [0, 322] (by omega) (by omega) (by simp [R, I, Ptr]) (by simp [RO, txC, iC]) (by simp) (by simp) (by simp)
 have hil : i = t.outs.length := by omega
 subst hil
 have hKe : K t.outs.length = encT t := by rw [hK]; simp [encT]
 simp
 refine finW _ (weak_frz (o := 1) (ty := 5) (es := 1) (xs := bsv (K t.outs.length)) rfl) ?_
 exact fin [] (by decide) rfl rfl rfl ⟨rfl, by simp [Bs, hKe, List.tkL]⟩
theorem RTPut_ok (t : Txn) (ht : t.ok) (hsec : ∀ x ∈ t.ins, x.sec.length ≤ 10000000) (hs : (encT t).length ≤ 400000000) : ECalls Tryz.prog 62 [TXv t, .lit (.bool true)] [] fun y H' => H' = [] ∧ y = Bs (encT t) :=
 RTPutF_ok true t ht (.inl rfl) hsec hs
theorem RTEncode_ok (t : Txn) (ht : t.ok) (hsec : ∀ x ∈ t.ins, x.sec.length ≤ 10000000) (hs : (encT t).length ≤ 400000000) : ECalls Tryz.prog 24 [TXv t] [] fun y H' => H' = [] ∧ y = Bs (encT t) := by
 refine ecalls k_RTEncode ?_
 simp [c_RTEncode, TXv, txC, iC]
 refine call0 (RTPut_ok t ht hsec hs) (by simp [TXv, txC, iC]) ?_
 rintro y H' ⟨rfl, rfl⟩
 refine ⟨.inl (by simp [Bs]), le_ok rfl, ?_⟩
 simp [Bs]
 exact fin0
def restN : Nat → Nat → List Int → List Int
 | 0, _, l => l
 | k + 1, i, l => restN k (i + 1) (sinkS i l)
def insN (l : List Int) : List Int := restN (l.length - 1) 1 l
def RisI (l : List Int) : Prop := ∀ i a b, l[i]? = some a → l[i + 1]? = some b → a < b
theorem sink_ris {l : List Int} (h : RisI l) (i : Nat) (hi : i < l.length) : sinkS i l = l := by
 cases i with
 | zero => rfl
 | succ j =>
  unfold sinkS
  obtain ⟨a, ha⟩ : ∃ a, l[j]? = some a := ⟨l[j], by simp [show j < l.length by omega]⟩
  obtain ⟨b, hb⟩ : ∃ b, l[j + 1]? = some b := ⟨l[j + 1], by simp [hi]⟩
  have := h j a b ha hb
  rw [ha, hb, if_neg (by simp; omega)]
theorem rest_ris {l : List Int} (h : RisI l) : ∀ (k i : Nat), i + k ≤ l.length → restN k i l = l
 | 0, _, _ => rfl
 | k + 1, i, hk => by
  unfold restN
  rw [sink_ris h i (by omega)]
  exact rest_ris h k (i + 1) (by omega)
theorem ins_ris {l : List Int} (h : RisI l) : insN l = l := by
 unfold insN
 rcases Nat.eq_zero_or_pos l.length with e | e
 ·rw [e]; rfl
 ·exact rest_ris h _ _ (by omega)
theorem ins_two (a b : Int) : insN [a, b] = if b < a then [b, a] else [a, b] := by
 show sinkS 1 [a, b] = _
 unfold sinkS
 by_cases h : b < a
 ·simp [h, sinkS, swS]
 ·simp [h]
theorem restN_len : ∀ (k i : Nat) (l : List Int), (restN k i l).length = l.length
 | 0, _, _ => rfl
 | k + 1, i, l => by unfold restN; rw [restN_len k, sinkS_len]
theorem insN_len (l : List Int) : (insN l).length = l.length := restN_len _ _ _
theorem InsN_ok (l : List Int) (n : Nat) (h3 : l.length = n) (hn1 : 1 ≤ n) (hn2 : n ≤ 1000) : ECalls Tryz.prog 180 [.v (.c (.row 0 n)), I .i64 0, I .i64 n] [.row 3 1 (intv l)] fun y H' => H' = [some (.row 3 1 (intv (insN l)))] ∧ y = .tup [] := by
 obtain ⟨F, hF⟩ : ∃ F, insN l = F := ⟨_, rfl⟩
 rw [hF]
 have w0 : IntKind.i64.wrap 1 = 1 := by decide +kernel
 refine ecalls k_InsI ?_
 simp [c_InsI, I, w0]
 refine eloop (α := Nat × List Int) (fun a => 1 ≤ a.1 ∧ a.1 ≤ n ∧ a.2.length = n ∧ restN (n - a.1) a.1 a.2 = F) (fun a => n - a.1)
  (fun a => [.v (.c (.row 0 n)), I .i64 0, I .i64 n, xA, xA, xA, I .i64 a.1, xA, xA, xA, xA, xA, xA, xA, xA, xA, xA, xA, xA, xA, xA, xA, xA, xA, xA, xA, xA, xA, xA, xA, xA, xA, xA, xA, xA, xA, xA, xA, xA, xA, xA, xA, xA, xA, xA, xA, xA, xA, .any]) (fun a => [some (.row 3 1 (intv a.2))]) (1, l) [0]
  ⟨by simp, by simpa using hn1, h3, by rw [← hF, ← h3]; rfl⟩ (by simp [I]) (by simp) (by simp) (by simp) (by simp) ?_
 rintro ⟨i, m⟩ ⟨hi1, hi3, hm, hr⟩
 dsimp only at hi1 hi3 hm hr
 by_cases hlt : i < n
 ·have hli : (i : Int) < n := by omega
  have w1 := wS (i := i) (by omega)
  have hnext : restN (n - (i + 1)) (i + 1) (sinkS i m) = F := by
   rw [← hr, show n - i = (n - (i + 1)) + 1 by omega]
   rfl
  obtain ⟨G, hG⟩ : ∃ G, sinkS i m = G := ⟨_, rfl⟩
  have hGl : G.length = n := by rw [← hG, sinkS_len]; exact hm
  rw [hG] at hnext
  simp [I, hli, hlt]
  refine eloop (α := Nat × List Int) (fun a => a.1 ≤ i ∧ a.2.length = n ∧ sinkS a.1 a.2 = G) (fun a => a.1)
   (fun a => [.v (.c (.row 0 n)), I .i64 0, I .i64 n, xA, xA, xA, I .i64 i, I .i64 a.1, xA, xA, xA, xA, xA, xA, xA, xA, xA, xA, xA, xA, xA, xA, xA, xA, xA, xA, xA, xA, xA, xA, xA, xA, xA, xA, xA, xA, xA, xA, xA, xA, xA, xA, xA, xA, xA, xA, xA, xA, .any]) (fun a => [some (.row 3 1 (intv a.2))]) (i, m) [0]
   ⟨Nat.le_refl _, hm, hG⟩ (by simp [I]) (by simp) (by simp) (by simp) (by simp) ?_
  rintro ⟨j, k⟩ ⟨hj, hk, hs⟩
  dsimp only at hj hk hs
  rcases Nat.eq_zero_or_pos j with hj0 | hj0
  ·subst hj0
   have hkG : k = G := hs
   subst hkG
   simp [I, w1, -Int.natCast_add]
   exact round (i + 1, k) [0] ⟨by dsimp only; omega, by dsimp only; omega, hk, hnext⟩ (by dsimp only; omega) (by simp [I]) (by simp) (by simp) (by simp) (by simp)
  ·obtain ⟨p, rfl⟩ : ∃ p, j = p + 1 := ⟨j - 1, by omega⟩
   have hjp : (0 : Int) < ((p + 1 : Nat) : Int) := by omega
   have wj : IntKind.i64.wrap (((p + 1 : Nat) : Int) - 1) = (p : Int) := by rw [wrap_i64 (by omega) (by omega)]; omega
   obtain ⟨j, hje⟩ : ∃ j, p + 1 = j := ⟨_, rfl⟩
   have hp3 : p < n := by omega
   have hj3 : j < n := by omega
   obtain ⟨A, hA⟩ : ∃ A, (k[p]?).getD 0 = A := ⟨_, rfl⟩
   obtain ⟨B, hB⟩ : ∃ B, (k[j]?).getD 0 = B := ⟨_, rfl⟩
   have ga : ∀ h2, (intv k)[p]'h2 = [.lit (.int .i64 A)] := fun h2 => by rw [intv_at (by omega), hA]
   have gb : ∀ h2, (intv k)[j]'h2 = [.lit (.int .i64 B)] := fun h2 => by rw [intv_at (by omega), hB]
   have hs' : (if B < A then sinkS p (swS k p) else k) = G := by
    rw [← hs, ← hB, ← hA, ← hje]
    rfl
   rw [hje] at hjp wj
   have ip : (p : Int) < n := by omega
   have ij : (j : Int) < n := by omega
   have n0 : ¬ ((j : Int) < 0) := by omega
   have n1 : ¬ ((p : Int) < 0) := by omega
   rw [hje]
   have hjn : 0 < j := by omega
   simp [I, hjp, hjn, wj, ga, gb, hk, hp3, hj3, ip, ij, n0, n1]
   refine call0 (LessI_ok B A) (by simp [I]) ?_
   rintro y H' ⟨rfl, rfl⟩
   refine ⟨.inl (by simp), le_ok rfl, ?_⟩
   have hsw : (k.set j A).set p B = swS k p := by unfold swS; rw [hje, hA, hB]
   by_cases hBA : B < A
   ·rw [if_pos hBA] at hs'
    rw [decide_eq_true hBA]
    have gp : ∀ h2, (intv (k.set j A))[p]'h2 = [.lit (.int .i64 (((k.set j A)[p]?).getD 0))] := fun h2 => intv_at (by simp; omega) h2
    simp [I, wj, ga, gb, gp, hk, hp3, hj3, ip, ij, n0, n1, intv_set, hsw]
    exact round (p, swS k p) [0] ⟨by dsimp only; omega, by rw [swS_len]; exact hk, hs'⟩ (by dsimp only; omega) (by simp [I]) (by simp) (by simp) (by simp) (by simp)
   ·rw [if_neg hBA] at hs'
    subst hs'
    rw [decide_eq_false hBA]
    simp [I, w1, -Int.natCast_add]
    exact round (i + 1, k) [0] ⟨by dsimp only; omega, by dsimp only; omega, hk, hnext⟩ (by dsimp only; omega) (by simp [I]) (by simp) (by simp) (by simp) (by simp)
 ·have h3' : i = n := by omega
  subst h3'
  have hmF : m = F := by rw [← hr, Nat.sub_self]; rfl
  subst hmF
  simp [I]
  exact fin [] (by decide) rfl rfl (by simp [objsOut, show List.range 1 = [0] from rfl]) ⟨rfl, rfl⟩
def yl7d : UL | _ => [xI 6 16 1 14 15, xL 7 17 16, xO 8 18 (.call 144 [.t 13, .t 17])]
def yl7e : UL | _ => xM 0 10 0 :: xM 1 11 2 :: xI 2 12 1 10 11 :: xL 3 13 12 :: xM 4 14 0 :: xM 5 15 1 :: hid yl7d
def yl7f : UL | _ => [xM 0 19 3, xQ 1 20 (.nilc (.t 19)), xL 2 21 20, xc 3 22 .add 21 1, xQ 4 23 (.nilc (.t 19)), xN 5 (.sto 1 (.t 23) (.t 22))]
def yb7k : UB | _ => .seq (reg0 [xC 0 8 0, xC 1 9 0] 2) (.seq (.seq (reg0 (hid yl7e) 9) (.cond (.t 18) (.seq (reg0 (hid yl7f) 6) (.seq (reg0 [xM 0 24 2, xM 1 25 1, xM 2 8 24, xM 3 9 25] 4) .ret)) .skip)) (.seq (reg0 [xM 0 26 1, xM 1 27 2, xM 2 8 26, xM 3 9 27] 4) .ret))
attribute [simp] yl7d yl7e yl7f yb7k
def c_Ord2I : EB × List QOp × Nat := ((hid yb7k), [(.mov (.t 8)), (.mov (.t 9))], 28)
theorem k_Ord2I : cfun Tryz.prog 218 = some c_Ord2I := by kernel_rfl
def yl7m : UL | _ => [xX 6 17 0 11, xX 7 18 1 11, xM 8 1 17, xM 9 2 18]
def yl7n : UL | _ => xM 0 12 0 :: xM 1 13 1 :: xM 2 14 2 :: xM 3 15 4 :: xO 4 16 (.call 218 [.t 12, .t 13, .t 14, .t 15]) :: xM 5 11 16 :: hid yl7m
def yl7o : UL | _ => [xX 6 25 0 19, xX 7 26 1 19, xM 8 2 25, xM 9 3 26]
def yl7p : UL | _ => xM 0 20 0 :: xM 1 21 2 :: xM 2 22 3 :: xM 3 23 4 :: xO 4 24 (.call 218 [.t 20, .t 21, .t 22, .t 23]) :: xM 5 19 24 :: hid yl7o
def yl7q : UL | _ => [xX 6 33 0 27, xX 7 34 1 27, xM 8 1 33, xM 9 2 34]
def yl7r : UL | _ => xM 0 28 0 :: xM 1 29 1 :: xM 2 30 2 :: xM 3 31 4 :: xO 4 32 (.call 218 [.t 28, .t 29, .t 30, .t 31]) :: xM 5 27 32 :: hid yl7q
def yb7u : UB | _ => .seq (reg0 [xC 0 10 0] 1) (.seq (reg0 (hid yl7n) 10) (.seq (reg0 (hid yl7p) 10) (.seq (reg0 (hid yl7r) 10) (.seq (reg0 [xM 0 35 2, xM 1 10 35] 2) .ret))))
attribute [simp] yl7m yl7n yl7o yl7p yl7q yl7r yb7u
def c_MedI : EB × List QOp × Nat := ((hid yb7u), [(.mov (.t 10))], 36)
theorem k_MedI : cfun Tryz.prog 208 = some c_MedI := by kernel_rfl
def yl7y : UL | _ => [xM 0 16 1, xM 1 17 8, xc 2 18 .quo 17 4, xc 3 19 .mul 18 1, xb 4 20 .add 16 19, xM 5 10 20]
def yl7z : UL | _ => [xM 0 21 1, xM 1 22 8, xc 2 23 .quo 22 4, xc 3 24 .mul 23 2, xb 4 25 .add 21 24, xM 5 11 25]
def yl80 : UL | _ => [xM 0 26 1, xM 1 27 8, xc 2 28 .quo 27 4, xc 3 29 .mul 28 3, xb 4 30 .add 26 29, xM 5 12 30]
def yl83 : UL | _ => [xM 0 35 0, xM 1 36 10, xO 2 37 (.call 207 [.t 35, .t 36, .t 9]), xM 3 10 37]
def yl84 : UL | _ => [xM 0 38 0, xM 1 39 11, xO 2 40 (.call 207 [.t 38, .t 39, .t 9]), xM 3 11 40]
def yl85 : UL | _ => [xM 0 41 0, xM 1 42 12, xO 2 43 (.call 207 [.t 41, .t 42, .t 9]), xM 3 12 43]
def yl87 : UL | _ => [xM 0 44 0, xM 1 45 10, xM 2 46 11, xM 3 47 12, xO 4 48 (.call 208 [.t 44, .t 45, .t 46, .t 47, .t 9]), xM 5 11 48]
def yb8g : UB | _ => .cond (.t 51) (.seq (reg0 [xM 0 53 11, xM 1 6 53, xC 2 7 1] 3) .ret) (.seq (reg0 [xc 0 55 .eql 49 12, xM 1 54 55] 2) (.cond (.t 54) (.seq (reg0 [xM 0 56 11, xM 1 6 56, xC 2 7 2] 3) .ret) (.seq (reg0 [xM 0 50 11, xM 1 6 50, xC 2 7 0] 3) .ret)))
def yb8h : UB | _ => .seq (reg0 [xL 0 49 9] 1) (.block 0 (.seq (reg0 [xc 0 52 .eql 49 0, xM 1 51 52] 2) (hid yb8g)))
def yb8i : UB | _ => .seq (.seq (reg0 [xM 0 31 8, xc 1 32 .geq 31 8] 2) (.cond (.t 32) (.seq (.seq (reg0 [xM 0 33 8, xc 1 34 .geq 33 50] 2) (.cond (.t 34) (.seq (reg0 (hid yl83) 4) (.seq (reg0 (hid yl84) 4) (reg0 (hid yl85) 4))) .skip)) (reg0 (hid yl87) 6)) .skip)) (hid yb8h)
def yb8j : UB | _ => .seq (reg0 (hid yl7z) 6) (.seq (reg0 (hid yl80) 6) (hid yb8i))
def yb8k : UB | _ => .seq (reg0 [xQ 0 9 (.alloc 3 [xZ])] 1) (.seq (reg0 (hid yl7y) 6) (hid yb8j))
def yb8l : UB | _ => .seq (reg0 [xC 0 6 0, xC 1 7 0] 2) (.seq (reg0 [xM 0 13 2, xM 1 14 1, xb 2 15 .sub 13 14, xM 3 8 15] 4) (hid yb8k))
attribute [simp] yl7y yl7z yl80 yl83 yl84 yl85 yl87 yb8g yb8h yb8i yb8j yb8k yb8l
def c_ChpI : EB × List QOp × Nat := ((hid yb8l), [(.mov (.t 6)), (.mov (.t 7))], 57)
theorem k_ChpI : cfun Tryz.prog 183 = some c_ChpI := by kernel_rfl
def yl8q : UL | _ => [yL 12 29 20 true 28, ⟨13, (some 30), (some (20, true)), (.call 144 [.t 24, .t 29]), []⟩, xG 14 31 20 true (.un .not (.t 30)), xR 15 32 20 31]
def yl8r : UL | _ => xG 6 23 20 true (.isl 1 (.t 21) (.t 22)) :: yL 7 24 20 true 23 :: yM 8 25 20 true 0 :: yM 9 26 20 true 7 :: xG 10 27 20 true (.bin .sub (.t 26) (xK 1)) :: xG 11 28 20 true (.isl 1 (.t 25) (.t 27)) :: hid yl8q
def yl8s : UL | _ => xM 0 17 7 :: xM 1 18 2 :: xb 2 19 .lss 17 18 :: xM 3 20 19 :: yM 4 21 20 true 0 :: yM 5 22 20 true 7 :: hid yl8r
def yb90 : UB | _ => .seq (reg0 [xM 0 38 2, xM 1 39 1, xb 2 40 .sub 38 39, xc 3 41 .lss 40 50] 4) (.cond (.t 41) (.seq (reg0 [xQ 0 6 (.mov (.k (.bool false)))] 1) .ret) .skip)
def yl91 : UL | _ => [xI 12 54 1 52 53, xL 13 55 54, xI 14 56 1 42 43, ⟨15, none, none, (.sto 1 (.t 56) (.t 51)), [2, 3, 4]⟩, xI 16 57 1 44 46, xN 17 (.sto 1 (.t 57) (.t 55))]
def yl92 : UL | _ => xM 6 48 7 :: xc 7 49 .sub 48 1 :: xI 8 50 1 47 49 :: xL 9 51 50 :: xM 10 52 0 :: xM 11 53 7 :: hid yl91
def yl93 : UL | _ => xM 0 42 0 :: xM 1 43 7 :: xM 2 44 0 :: xM 3 45 7 :: xc 4 46 .sub 45 1 :: xM 5 47 0 :: hid yl92
def yl97 : UL | _ => [xc 6 74 .sub 73 1, xI 7 75 1 72 74, xL 8 76 75, xO 9 77 (.call 144 [.t 71, .t 76]), xQ 10 78 (.un .not (.t 77))]
def yl98 : UL | _ => xM 0 68 0 :: xM 1 69 9 :: xI 2 70 1 68 69 :: xL 3 71 70 :: xM 4 72 0 :: xM 5 73 9 :: hid yl97
def yl99 : UL | _ => [xI 12 91 1 89 90, xL 13 92 91, xI 14 93 1 79 80, ⟨15, none, none, (.sto 1 (.t 93) (.t 88)), [2, 3, 4]⟩, xI 16 94 1 81 83, xN 17 (.sto 1 (.t 94) (.t 92))]
def yl9a : UL | _ => xM 6 85 9 :: xc 7 86 .sub 85 1 :: xI 8 87 1 84 86 :: xL 9 88 87 :: xM 10 89 0 :: xM 11 90 9 :: hid yl99
def yl9b : UL | _ => xM 0 79 0 :: xM 1 80 9 :: xM 2 81 0 :: xM 3 82 9 :: xc 4 83 .sub 82 1 :: xM 5 84 0 :: hid yl9a
def yb9e : UB | _ => .seq (.seq (reg0 [xM 0 64 9, xc 1 65 .geq 64 1] 2) (.cond (.t 65) .skip (.exit 4))) (.seq (.block 5 (.seq (.seq (reg0 (hid yl98) 11) (.cond (.t 78) (.exit 4) .skip)) (reg1 (hid yl9b) 18))) (reg0 [xM 0 66 9, xc 1 67 .sub 66 1, xM 2 9 67] 3))
def yb9f : UB | _ => .cond (.t 61) (.seq (reg0 [xM 0 62 7, xc 1 63 .sub 62 1, xM 2 9 63] 3) (.block 4 (.loop (hid yb9e)))) .skip
def yl9j : UL | _ => [xc 6 112 .sub 111 1, xI 7 113 1 110 112, xL 8 114 113, xO 9 115 (.call 144 [.t 109, .t 114]), xQ 10 116 (.un .not (.t 115))]
def yl9k : UL | _ => xM 0 106 0 :: xM 1 107 10 :: xI 2 108 1 106 107 :: xL 3 109 108 :: xM 4 110 0 :: xM 5 111 10 :: hid yl9j
def yl9l : UL | _ => [xI 12 129 1 127 128, xL 13 130 129, xI 14 131 1 117 118, ⟨15, none, none, (.sto 1 (.t 131) (.t 126)), [2, 3, 4]⟩, xI 16 132 1 119 121, xN 17 (.sto 1 (.t 132) (.t 130))]
def yl9m : UL | _ => xM 6 123 10 :: xc 7 124 .sub 123 1 :: xI 8 125 1 122 124 :: xL 9 126 125 :: xM 10 127 0 :: xM 11 128 10 :: hid yl9l
def yl9n : UL | _ => xM 0 117 0 :: xM 1 118 10 :: xM 2 119 0 :: xM 3 120 10 :: xc 4 121 .sub 120 1 :: xM 5 122 0 :: hid yl9m
def yb9q : UB | _ => .seq (.seq (reg0 [xM 0 101 10, xM 1 102 2, xb 2 103 .lss 101 102] 3) (.cond (.t 103) .skip (.exit 6))) (.seq (.block 7 (.seq (.seq (reg0 (hid yl9k) 11) (.cond (.t 116) (.exit 6) .skip)) (reg1 (hid yl9n) 18))) (reg0 [xM 0 104 10, xc 1 105 .add 104 1, xM 2 10 105] 3))
def yb9s : UB | _ => .seq (.seq (reg0 [xM 0 58 7, xM 1 59 1, xb 2 60 .sub 58 59, xc 3 61 .geq 60 2] 4) (hid yb9f)) (.seq (reg0 [xM 0 95 2, xM 1 96 7, xb 2 97 .sub 95 96, xc 3 98 .geq 97 2] 4) (.cond (.t 98) (.seq (reg0 [xM 0 99 7, xc 1 100 .add 99 1, xM 2 10 100] 3) (.block 6 (.loop (hid yb9q)))) .skip))
def yb9t : UB | _ => .seq (.seq (reg0 [xM 0 35 7, xM 1 36 2, xb 2 37 .eql 35 36] 3) (.cond (.t 37) (.seq (reg0 [xQ 0 6 (.mov (.k (.bool true)))] 1) .ret) .skip)) (.seq (hid yb90) (.seq (reg1 (hid yl93) 18) (hid yb9s)))
def yb9v : UB | _ => .seq (.block 1 (.seq (.block 2 (.loop (.seq (.seq (reg0 (hid yl8s) 16) (.cond (.t 32) .skip (.exit 2))) (.block 3 (reg0 [xM 0 33 7, xc 1 34 .add 33 1, xM 2 7 34] 3))))) (hid yb9t))) (reg0 [xM 0 15 8, xc 1 16 .add 15 1, xM 2 8 16] 3)
def yb9w : UB | _ => .seq (.seq (reg0 [xM 0 13 8, xc 1 14 .lss 13 5] 2) (.cond (.t 14) .skip (.exit 0))) (hid yb9v)
def yb9y : UB | _ => .seq (.seq (reg0 [xC 0 8 0] 1) (.block 0 (.loop (hid yb9w)))) (.seq (reg0 [xQ 0 6 (.mov (.k (.bool false)))] 1) .ret)
def yb9z : UB | _ => .seq (reg0 [xQ 0 6 (.mov (.k (.bool false)))] 1) (.seq (reg0 [xM 0 11 1, xc 1 12 .add 11 1, xM 2 7 12] 3) (hid yb9y))
attribute [simp] yl8q yl8r yl8s yb90 yl91 yl92 yl93 yl97 yl98 yl99 yl9a yl9b yb9e yb9f yl9j yl9k yl9l yl9m yl9n yb9q yb9s yb9t yb9v yb9w yb9y yb9z
def c_PisI : EB × List QOp × Nat := ((hid yb9z), [(.mov (.t 6))], 133)
theorem k_PisI : cfun Tryz.prog 185 = some c_PisI := by kernel_rfl
theorem LenB64_1 : ECalls Tryz.prog 189 [.lit (.int .u64 1)] [] fun y H' => H' = [] ∧ y = I .i64 1 := by
 refine ecalls k_LenB64 ?_
 have w1 : IntKind.u8.wrap 1 = 1 := by decide +kernel
 have w2 : IntKind.i64.wrap 1 = 1 := by decide +kernel
 have hs : s_LenB64_0.data[1]? = some 1 := by decide +kernel
 simp [c_LenB64, I, w1, hs, w2]
 exact fin0
theorem LenB_1 : ECalls Tryz.prog 143 [.lit (.int .u64 1)] [] fun y H' => H' = [] ∧ y = I .i64 1 := by
 refine ecalls k_LenB ?_
 simp [c_LenB, I]
 refine call0 LenB64_1 (by simp) ?_
 rintro y H' ⟨rfl, rfl⟩
 refine ⟨.inl (by simp [I]), le_ok rfl, ?_⟩
 simp [I]
 exact fin0
theorem LenB64_2 : ECalls Tryz.prog 189 [.lit (.int .u64 2)] [] fun y H' => H' = [] ∧ y = I .i64 2 := by
 refine ecalls k_LenB64 ?_
 have w1 : IntKind.u8.wrap 2 = 2 := by decide +kernel
 have w2 : IntKind.i64.wrap 2 = 2 := by decide +kernel
 have hs : s_LenB64_0.data[2]? = some 2 := by decide +kernel
 simp [c_LenB64, I, w1, hs, w2]
 exact fin0
theorem LenB_2 : ECalls Tryz.prog 143 [.lit (.int .u64 2)] [] fun y H' => H' = [] ∧ y = I .i64 2 := by
 refine ecalls k_LenB ?_
 simp [c_LenB, I]
 refine call0 LenB64_2 (by simp) ?_
 rintro y H' ⟨rfl, rfl⟩
 refine ⟨.inl (by simp [I]), le_ok rfl, ?_⟩
 simp [I]
 exact fin0
theorem LenB64_3 : ECalls Tryz.prog 189 [.lit (.int .u64 3)] [] fun y H' => H' = [] ∧ y = I .i64 2 := by
 refine ecalls k_LenB64 ?_
 have w1 : IntKind.u8.wrap 3 = 3 := by decide +kernel
 have w2 : IntKind.i64.wrap 2 = 2 := by decide +kernel
 have hs : s_LenB64_0.data[3]? = some 2 := by decide +kernel
 simp [c_LenB64, I, w1, hs, w2]
 exact fin0
theorem LenB_3 : ECalls Tryz.prog 143 [.lit (.int .u64 3)] [] fun y H' => H' = [] ∧ y = I .i64 2 := by
 refine ecalls k_LenB ?_
 simp [c_LenB, I]
 refine call0 LenB64_3 (by simp) ?_
 rintro y H' ⟨rfl, rfl⟩
 refine ⟨.inl (by simp [I]), le_ok rfl, ?_⟩
 simp [I]
 exact fin0
theorem LenB64_4 : ECalls Tryz.prog 189 [.lit (.int .u64 4)] [] fun y H' => H' = [] ∧ y = I .i64 3 := by
 refine ecalls k_LenB64 ?_
 have w1 : IntKind.u8.wrap 4 = 4 := by decide +kernel
 have w2 : IntKind.i64.wrap 3 = 3 := by decide +kernel
 have hs : s_LenB64_0.data[4]? = some 3 := by decide +kernel
 simp [c_LenB64, I, w1, hs, w2]
 exact fin0
theorem LenB_4 : ECalls Tryz.prog 143 [.lit (.int .u64 4)] [] fun y H' => H' = [] ∧ y = I .i64 3 := by
 refine ecalls k_LenB ?_
 simp [c_LenB, I]
 refine call0 LenB64_4 (by simp) ?_
 rintro y H' ⟨rfl, rfl⟩
 refine ⟨.inl (by simp [I]), le_ok rfl, ?_⟩
 simp [I]
 exact fin0
theorem LenB64_5 : ECalls Tryz.prog 189 [.lit (.int .u64 5)] [] fun y H' => H' = [] ∧ y = I .i64 3 := by
 refine ecalls k_LenB64 ?_
 have w1 : IntKind.u8.wrap 5 = 5 := by decide +kernel
 have w2 : IntKind.i64.wrap 3 = 3 := by decide +kernel
 have hs : s_LenB64_0.data[5]? = some 3 := by decide +kernel
 simp [c_LenB64, I, w1, hs, w2]
 exact fin0
theorem LenB_5 : ECalls Tryz.prog 143 [.lit (.int .u64 5)] [] fun y H' => H' = [] ∧ y = I .i64 3 := by
 refine ecalls k_LenB ?_
 simp [c_LenB, I]
 refine call0 LenB64_5 (by simp) ?_
 rintro y H' ⟨rfl, rfl⟩
 refine ⟨.inl (by simp [I]), le_ok rfl, ?_⟩
 simp [I]
 exact fin0
theorem LenB64_6 : ECalls Tryz.prog 189 [.lit (.int .u64 6)] [] fun y H' => H' = [] ∧ y = I .i64 3 := by
 refine ecalls k_LenB64 ?_
 have w1 : IntKind.u8.wrap 6 = 6 := by decide +kernel
 have w2 : IntKind.i64.wrap 3 = 3 := by decide +kernel
 have hs : s_LenB64_0.data[6]? = some 3 := by decide +kernel
 simp [c_LenB64, I, w1, hs, w2]
 exact fin0
theorem LenB_6 : ECalls Tryz.prog 143 [.lit (.int .u64 6)] [] fun y H' => H' = [] ∧ y = I .i64 3 := by
 refine ecalls k_LenB ?_
 simp [c_LenB, I]
 refine call0 LenB64_6 (by simp) ?_
 rintro y H' ⟨rfl, rfl⟩
 refine ⟨.inl (by simp [I]), le_ok rfl, ?_⟩
 simp [I]
 exact fin0
theorem LenB64_7 : ECalls Tryz.prog 189 [.lit (.int .u64 7)] [] fun y H' => H' = [] ∧ y = I .i64 3 := by
 refine ecalls k_LenB64 ?_
 have w1 : IntKind.u8.wrap 7 = 7 := by decide +kernel
 have w2 : IntKind.i64.wrap 3 = 3 := by decide +kernel
 have hs : s_LenB64_0.data[7]? = some 3 := by decide +kernel
 simp [c_LenB64, I, w1, hs, w2]
 exact fin0
theorem LenB_7 : ECalls Tryz.prog 143 [.lit (.int .u64 7)] [] fun y H' => H' = [] ∧ y = I .i64 3 := by
 refine ecalls k_LenB ?_
 simp [c_LenB, I]
 refine call0 LenB64_7 (by simp) ?_
 rintro y H' ⟨rfl, rfl⟩
 refine ⟨.inl (by simp [I]), le_ok rfl, ?_⟩
 simp [I]
 exact fin0
theorem LenB64_8 : ECalls Tryz.prog 189 [.lit (.int .u64 8)] [] fun y H' => H' = [] ∧ y = I .i64 4 := by
 refine ecalls k_LenB64 ?_
 have w1 : IntKind.u8.wrap 8 = 8 := by decide +kernel
 have w2 : IntKind.i64.wrap 4 = 4 := by decide +kernel
 have hs : s_LenB64_0.data[8]? = some 4 := by decide +kernel
 simp [c_LenB64, I, w1, hs, w2]
 exact fin0
theorem LenB_8 : ECalls Tryz.prog 143 [.lit (.int .u64 8)] [] fun y H' => H' = [] ∧ y = I .i64 4 := by
 refine ecalls k_LenB ?_
 simp [c_LenB, I]
 refine call0 LenB64_8 (by simp) ?_
 rintro y H' ⟨rfl, rfl⟩
 refine ⟨.inl (by simp [I]), le_ok rfl, ?_⟩
 simp [I]
 exact fin0
theorem LenB64_9 : ECalls Tryz.prog 189 [.lit (.int .u64 9)] [] fun y H' => H' = [] ∧ y = I .i64 4 := by
 refine ecalls k_LenB64 ?_
 have w1 : IntKind.u8.wrap 9 = 9 := by decide +kernel
 have w2 : IntKind.i64.wrap 4 = 4 := by decide +kernel
 have hs : s_LenB64_0.data[9]? = some 4 := by decide +kernel
 simp [c_LenB64, I, w1, hs, w2]
 exact fin0
theorem LenB_9 : ECalls Tryz.prog 143 [.lit (.int .u64 9)] [] fun y H' => H' = [] ∧ y = I .i64 4 := by
 refine ecalls k_LenB ?_
 simp [c_LenB, I]
 refine call0 LenB64_9 (by simp) ?_
 rintro y H' ⟨rfl, rfl⟩
 refine ⟨.inl (by simp [I]), le_ok rfl, ?_⟩
 simp [I]
 exact fin0
theorem LenB64_10 : ECalls Tryz.prog 189 [.lit (.int .u64 10)] [] fun y H' => H' = [] ∧ y = I .i64 4 := by
 refine ecalls k_LenB64 ?_
 have w1 : IntKind.u8.wrap 10 = 10 := by decide +kernel
 have w2 : IntKind.i64.wrap 4 = 4 := by decide +kernel
 have hs : s_LenB64_0.data[10]? = some 4 := by decide +kernel
 simp [c_LenB64, I, w1, hs, w2]
 exact fin0
theorem LenB_10 : ECalls Tryz.prog 143 [.lit (.int .u64 10)] [] fun y H' => H' = [] ∧ y = I .i64 4 := by
 refine ecalls k_LenB ?_
 simp [c_LenB, I]
 refine call0 LenB64_10 (by simp) ?_
 rintro y H' ⟨rfl, rfl⟩
 refine ⟨.inl (by simp [I]), le_ok rfl, ?_⟩
 simp [I]
 exact fin0
theorem LenB64_11 : ECalls Tryz.prog 189 [.lit (.int .u64 11)] [] fun y H' => H' = [] ∧ y = I .i64 4 := by
 refine ecalls k_LenB64 ?_
 have w1 : IntKind.u8.wrap 11 = 11 := by decide +kernel
 have w2 : IntKind.i64.wrap 4 = 4 := by decide +kernel
 have hs : s_LenB64_0.data[11]? = some 4 := by decide +kernel
 simp [c_LenB64, I, w1, hs, w2]
 exact fin0
theorem LenB_11 : ECalls Tryz.prog 143 [.lit (.int .u64 11)] [] fun y H' => H' = [] ∧ y = I .i64 4 := by
 refine ecalls k_LenB ?_
 simp [c_LenB, I]
 refine call0 LenB64_11 (by simp) ?_
 rintro y H' ⟨rfl, rfl⟩
 refine ⟨.inl (by simp [I]), le_ok rfl, ?_⟩
 simp [I]
 exact fin0
theorem LenB64_12 : ECalls Tryz.prog 189 [.lit (.int .u64 12)] [] fun y H' => H' = [] ∧ y = I .i64 4 := by
 refine ecalls k_LenB64 ?_
 have w1 : IntKind.u8.wrap 12 = 12 := by decide +kernel
 have w2 : IntKind.i64.wrap 4 = 4 := by decide +kernel
 have hs : s_LenB64_0.data[12]? = some 4 := by decide +kernel
 simp [c_LenB64, I, w1, hs, w2]
 exact fin0
theorem LenB_12 : ECalls Tryz.prog 143 [.lit (.int .u64 12)] [] fun y H' => H' = [] ∧ y = I .i64 4 := by
 refine ecalls k_LenB ?_
 simp [c_LenB, I]
 refine call0 LenB64_12 (by simp) ?_
 rintro y H' ⟨rfl, rfl⟩
 refine ⟨.inl (by simp [I]), le_ok rfl, ?_⟩
 simp [I]
 exact fin0
theorem LenB64_13 : ECalls Tryz.prog 189 [.lit (.int .u64 13)] [] fun y H' => H' = [] ∧ y = I .i64 4 := by
 refine ecalls k_LenB64 ?_
 have w1 : IntKind.u8.wrap 13 = 13 := by decide +kernel
 have w2 : IntKind.i64.wrap 4 = 4 := by decide +kernel
 have hs : s_LenB64_0.data[13]? = some 4 := by decide +kernel
 simp [c_LenB64, I, w1, hs, w2]
 exact fin0
theorem LenB_13 : ECalls Tryz.prog 143 [.lit (.int .u64 13)] [] fun y H' => H' = [] ∧ y = I .i64 4 := by
 refine ecalls k_LenB ?_
 simp [c_LenB, I]
 refine call0 LenB64_13 (by simp) ?_
 rintro y H' ⟨rfl, rfl⟩
 refine ⟨.inl (by simp [I]), le_ok rfl, ?_⟩
 simp [I]
 exact fin0
theorem LenB64_14 : ECalls Tryz.prog 189 [.lit (.int .u64 14)] [] fun y H' => H' = [] ∧ y = I .i64 4 := by
 refine ecalls k_LenB64 ?_
 have w1 : IntKind.u8.wrap 14 = 14 := by decide +kernel
 have w2 : IntKind.i64.wrap 4 = 4 := by decide +kernel
 have hs : s_LenB64_0.data[14]? = some 4 := by decide +kernel
 simp [c_LenB64, I, w1, hs, w2]
 exact fin0
theorem LenB_14 : ECalls Tryz.prog 143 [.lit (.int .u64 14)] [] fun y H' => H' = [] ∧ y = I .i64 4 := by
 refine ecalls k_LenB ?_
 simp [c_LenB, I]
 refine call0 LenB64_14 (by simp) ?_
 rintro y H' ⟨rfl, rfl⟩
 refine ⟨.inl (by simp [I]), le_ok rfl, ?_⟩
 simp [I]
 exact fin0
theorem LenB64_15 : ECalls Tryz.prog 189 [.lit (.int .u64 15)] [] fun y H' => H' = [] ∧ y = I .i64 4 := by
 refine ecalls k_LenB64 ?_
 have w1 : IntKind.u8.wrap 15 = 15 := by decide +kernel
 have w2 : IntKind.i64.wrap 4 = 4 := by decide +kernel
 have hs : s_LenB64_0.data[15]? = some 4 := by decide +kernel
 simp [c_LenB64, I, w1, hs, w2]
 exact fin0
theorem LenB_15 : ECalls Tryz.prog 143 [.lit (.int .u64 15)] [] fun y H' => H' = [] ∧ y = I .i64 4 := by
 refine ecalls k_LenB ?_
 simp [c_LenB, I]
 refine call0 LenB64_15 (by simp) ?_
 rintro y H' ⟨rfl, rfl⟩
 refine ⟨.inl (by simp [I]), le_ok rfl, ?_⟩
 simp [I]
 exact fin0
theorem LenB64_16 : ECalls Tryz.prog 189 [.lit (.int .u64 16)] [] fun y H' => H' = [] ∧ y = I .i64 5 := by
 refine ecalls k_LenB64 ?_
 have w1 : IntKind.u8.wrap 16 = 16 := by decide +kernel
 have w2 : IntKind.i64.wrap 5 = 5 := by decide +kernel
 have hs : s_LenB64_0.data[16]? = some 5 := by decide +kernel
 simp [c_LenB64, I, w1, hs, w2]
 exact fin0
theorem LenB_16 : ECalls Tryz.prog 143 [.lit (.int .u64 16)] [] fun y H' => H' = [] ∧ y = I .i64 5 := by
 refine ecalls k_LenB ?_
 simp [c_LenB, I]
 refine call0 LenB64_16 (by simp) ?_
 rintro y H' ⟨rfl, rfl⟩
 refine ⟨.inl (by simp [I]), le_ok rfl, ?_⟩
 simp [I]
 exact fin0
theorem LenB_n (n : Nat) (h1 : 1 ≤ n) (h2 : n ≤ 16) : ∃ m : Int, 0 < m ∧ m ≤ 5 ∧ ECalls Tryz.prog 143 [.lit (.int .u64 (n : Int))] [] fun y H' => H' = [] ∧ y = I .i64 m := by
 rcases (by omega : n = 1 ∨ n = 2 ∨ n = 3 ∨ n = 4 ∨ n = 5 ∨ n = 6 ∨ n = 7 ∨ n = 8 ∨ n = 9 ∨ n = 10 ∨ n = 11 ∨ n = 12 ∨ n = 13 ∨ n = 14 ∨ n = 15 ∨ n = 16) with rfl | rfl | rfl | rfl | rfl | rfl | rfl | rfl | rfl | rfl | rfl | rfl | rfl | rfl | rfl | rfl
 ·exact ⟨1, by omega, by omega, LenB_1⟩
 ·exact ⟨2, by omega, by omega, LenB_2⟩
 ·exact ⟨2, by omega, by omega, LenB_3⟩
 ·exact ⟨3, by omega, by omega, LenB_4⟩
 ·exact ⟨3, by omega, by omega, LenB_5⟩
 ·exact ⟨3, by omega, by omega, LenB_6⟩
 ·exact ⟨3, by omega, by omega, LenB_7⟩
 ·exact ⟨4, by omega, by omega, LenB_8⟩
 ·exact ⟨4, by omega, by omega, LenB_9⟩
 ·exact ⟨4, by omega, by omega, LenB_10⟩
 ·exact ⟨4, by omega, by omega, LenB_11⟩
 ·exact ⟨4, by omega, by omega, LenB_12⟩
 ·exact ⟨4, by omega, by omega, LenB_13⟩
 ·exact ⟨4, by omega, by omega, LenB_14⟩
 ·exact ⟨4, by omega, by omega, LenB_15⟩
 ·exact ⟨5, by omega, by omega, LenB_16⟩
theorem ris_lt {l : List Int} (h : RisI l) : ∀ (d i : Nat) (a b : Int), l[i]? = some a → l[i + 1 + d]? = some b → a < b
 | 0, i, a, b, ha, hb => h i a b ha hb
 | d + 1, i, a, b, ha, hb => by
  have hlt : i + 1 + (d + 1) < l.length := lt_of_get hb
  obtain ⟨c, hc⟩ : ∃ c, l[i + 1]? = some c := ⟨l[i + 1], by simp [show i + 1 < l.length by omega]⟩
  have h1 := h i a c ha hc
  have h2 := ris_lt h d (i + 1) c b hc (by rw [← hb]; congr 1; omega)
  omega
def BXn (x : Int) : EO := .box 3 [.fz (.lit (.int .i64 x))]
theorem Ord2I_ok (l : List Int) (h : RisI l) (i j : Nat) (hij : i < j) (hj : j < l.length) (hn : l.length ≤ 1000) : ECalls Tryz.prog 218 [IL l, I .i64 i, I .i64 j, Ptr 0] [BXn 0] fun y H' => H' = [some (BXn 0)] ∧ y = .tup [.c (.fz (.lit (.int .i64 i))), .c (.fz (.lit (.int .i64 j)))] := by
 obtain ⟨a, ha⟩ : ∃ a, l[i]? = some a := ⟨l[i], by simp [show i < l.length by omega]⟩
 obtain ⟨b, hb⟩ : ∃ b, l[j]? = some b := ⟨l[j], by simp [hj]⟩
 have hab : ¬ b < a := by
  have := ris_lt h (j - i - 1) i a b ha (by rw [← hb]; congr 1; omega)
  omega
 have ga : ∀ h2, (intv l)[i]'h2 = [.lit (.int .i64 a)] := fun h2 => by rw [intv_at (by omega), ha]; rfl
 have gb : ∀ h2, (intv l)[j]'h2 = [.lit (.int .i64 b)] := fun h2 => by rw [intv_at (by omega), hb]; rfl
 have hi' : i < l.length := by omega
 refine ecalls k_Ord2I ?_
 simp [c_Ord2I, I, IL, Ptr, BXn, ga, gb, hi', hj]
 refine call0 (LessI_ok b a) (by simp [I]) ?_
 rintro y H' ⟨rfl, rfl⟩
 refine ⟨.inl (by simp), le_ok rfl, ?_⟩
 rw [decide_eq_false hab]
 simp [I, BXn]
 exact fin [] (by decide) rfl rfl (by simp [objsOut, BXn, show List.range 1 = [0] from rfl]) ⟨rfl, rfl⟩
theorem MedI_ok (l : List Int) (h : RisI l) (i j k : Nat) (hij : i < j) (hjk : j < k) (hk : k < l.length) (hn : l.length ≤ 1000) : ECalls Tryz.prog 208 [IL l, I .i64 i, I .i64 j, I .i64 k, Ptr 0] [BXn 0] fun y H' => H' = [some (BXn 0)] ∧ y = I .i64 j := by
 refine ecalls k_MedI ?_
 simp [c_MedI, I, IL, Ptr, BXn]
 refine callH [0] (Ord2I_ok l h i j hij (by omega) hn) (by simp [I, IL, Ptr]) (by simp [BXn]) (by simp) (by simp) (by simp) ?_
 rintro y H' ⟨rfl, rfl⟩
 refine ⟨.inl (by simp [BXn]), by simp, ?_⟩
 simp [I, IL, Ptr, BXn]
 refine callH [0] (Ord2I_ok l h j k hjk hk hn) (by simp [I, IL, Ptr]) (by simp [BXn]) (by simp) (by simp) (by simp) ?_
 rintro y H' ⟨rfl, rfl⟩
 refine ⟨.inl (by simp [BXn]), by simp, ?_⟩
 simp [I, IL, Ptr, BXn]
 refine callH [0] (Ord2I_ok l h i j hij (by omega) hn) (by simp [I, IL, Ptr]) (by simp [BXn]) (by simp) (by simp) (by simp) ?_
 rintro y H' ⟨rfl, rfl⟩
 refine ⟨.inl (by simp [BXn]), by simp, ?_⟩
 simp [I, IL, Ptr, BXn]
 exact fin [] (by decide) rfl rfl (by simp [objsOut, BXn, show List.range 1 = [0] from rfl]) ⟨rfl, rfl⟩
theorem ChpI_ok (l : List Int) (h : RisI l) (n : Nat) (hl : l.length = n) (h1 : 13 ≤ n) (h2 : n ≤ 16) : ∃ p : Int, ECalls Tryz.prog 183 [IL l, I .i64 0, I .i64 n] [] fun y H' => H' = [] ∧ y = .tup [.c (.fz (.lit (.int .i64 p))), .c (.fz (.lit (.int .i64 1)))] := by
 have key : ∀ q : Nat, 1 ≤ q → q ≤ 4 → 4 * q ≤ n → n < 4 * q + 4 → ECalls Tryz.prog 183 [IL l, I .i64 0, I .i64 n] [] fun y H' => H' = [] ∧ y = .tup [.c (.fz (.lit (.int .i64 ((q * 2 : Nat) : Int)))), .c (.fz (.lit (.int .i64 1)))] := by
  intro q q1 q2 q3 q4
  have d0 : IntKind.i64.wrap ((n : Int) - 0) = n := by rw [wrap_i64 (by omega) (by omega)]; omega
  have d0' : IntKind.i64.wrap (n : Int) = n := wrap_i64 (by omega) (by omega)
  have dq : ((n : Int).tdiv 4) = (q : Int) := by rw [Int.tdiv_eq_ediv_of_nonneg (by omega)]; omega
  have d1 : IntKind.i64.wrap ((n : Int).tdiv 4) = (q : Int) := by rw [dq, wrap_i64 (by omega) (by omega)]
  have d1q : IntKind.i64.wrap (q : Int) = (q : Int) := wrap_i64 (by omega) (by omega)
  have d2 : IntKind.i64.wrap ((q : Int) * 2) = ((q * 2 : Nat) : Int) := by rw [wrap_i64 (by omega) (by omega)]; omega
  have d3 : IntKind.i64.wrap ((q : Int) * 3) = ((q * 3 : Nat) : Int) := by rw [wrap_i64 (by omega) (by omega)]; omega
  have d2q : IntKind.i64.wrap ((q * 2 : Nat) : Int) = ((q * 2 : Nat) : Int) := wrap_i64 (by omega) (by omega)
  have d3q : IntKind.i64.wrap ((q * 3 : Nat) : Int) = ((q * 3 : Nat) : Int) := wrap_i64 (by omega) (by omega)
  have g8 : (8 : Int) ≤ n := by omega
  have g50 : ¬ (50 : Int) ≤ n := by omega
  have hM := MedI_ok l h q (q * 2) (q * 3) (by omega) (by omega) (by omega) (by omega)
  generalize hA : q * 2 = A at d2 d2q hM
  generalize hB : q * 3 = B at d3 d3q hM
  refine ecalls k_ChpI ?_
  simp [c_ChpI, I, IL, Ptr, d0, d0', dq, d1, d1q, d2, d3, d2q, d3q, g8, g50]
  refine callH [96] hM (by simp [I, IL, Ptr]) (by simp [BXn]) (by simp) (by simp) (by simp) ?_
  rintro y H' ⟨rfl, rfl⟩
  refine ⟨.inl (by simp [BXn]), by simp, ?_⟩
  simp [I, IL, Ptr, BXn]
  exact fin0
 rcases (by omega : n < 16 ∨ n = 16) with e | e
 ·exact ⟨_, key 3 (by omega) (by omega) (by omega) (by omega)⟩
 ·exact ⟨_, key 4 (by omega) (by omega) (by omega) (by omega)⟩
theorem PisI_ok (l : List Int) (h : RisI l) (n : Nat) (hl : l.length = n) (h1 : 1 ≤ n) (h2 : n ≤ 1000) : ECalls Tryz.prog 185 [IL l, I .i64 0, I .i64 n] [] fun y H' => H' = [] ∧ y = .lit (.bool true) := by
 have w0 : IntKind.i64.wrap 1 = 1 := by decide +kernel
 refine ecalls k_PisI ?_
 simp [c_PisI, I, IL, w0]
 refine eloop (α := Unit) (fun _ => True) (fun _ => 0) (fun _ => [IL l, I .i64 0, I .i64 n, xA, xA, xA, xA, I .i64 1, I .i64 0, xA, xA, xA, xA, xA, xA, xA, xA, xA, xA, xA, xA, xA, xA, xA, xA, xA, xA, xA, xA, xA, xA, xA, xA, xA, xA, xA, xA, xA, xA, xA, xA, xA, xA, xA, xA, xA, xA, xA, xA, xA, xA, xA, xA, xA, xA, xA, xA, xA, xA, xA, xA, xA, xA, xA, xA, xA, xA, xA, xA, xA, xA, xA, xA, xA, xA, xA, xA, xA, xA, xA, xA, xA, xA, xA, xA, xA, xA, xA, xA, xA, xA, xA, xA, xA, xA, xA, xA, xA, xA, xA, xA, xA, xA, xA, xA, xA, xA, xA, xA, xA, xA, xA, xA, xA, xA, xA, xA, xA, xA, xA, xA, xA, xA, xA, xA, xA, xA, xA, xA, xA, xA, xA, .any]) (fun _ => []) () []
  trivial (by simp [I, IL]) (by simp) (by simp) (by simp) (by simp) ?_
 rintro _ _
 simp [I, IL]
 refine eloop (α := Nat) (fun i => 1 ≤ i ∧ i ≤ n) (fun i => n - i) (fun i => [IL l, I .i64 0, I .i64 n, xA, xA, xA, xA, I .i64 i, I .i64 0, xA, xA, xA, xA, xA, xA, xA, xA, xA, xA, xA, xA, xA, xA, xA, xA, xA, xA, xA, xA, xA, xA, xA, xA, xA, xA, xA, xA, xA, xA, xA, xA, xA, xA, xA, xA, xA, xA, xA, xA, xA, xA, xA, xA, xA, xA, xA, xA, xA, xA, xA, xA, xA, xA, xA, xA, xA, xA, xA, xA, xA, xA, xA, xA, xA, xA, xA, xA, xA, xA, xA, xA, xA, xA, xA, xA, xA, xA, xA, xA, xA, xA, xA, xA, xA, xA, xA, xA, xA, xA, xA, xA, xA, xA, xA, xA, xA, xA, xA, xA, xA, xA, xA, xA, xA, xA, xA, xA, xA, xA, xA, xA, xA, xA, xA, xA, xA, xA, xA, xA, xA, xA, xA, .any]) (fun _ => []) 1 []
  ⟨by omega, by omega⟩ (by simp [I, IL]) (by simp) (by simp) (by simp) (by simp) ?_
 rintro i ⟨hi1, hi2⟩
 by_cases hlt : i < n
 ·have hli : (i : Int) < n := by omega
  have hll : i < l.length := by omega
  obtain ⟨p, rfl⟩ : ∃ p, i = p + 1 := ⟨i - 1, by omega⟩
  obtain ⟨a, ha⟩ : ∃ a, l[p]? = some a := ⟨l[p], by simp [show p < l.length by omega]⟩
  obtain ⟨b, hb⟩ : ∃ b, l[p + 1]? = some b := ⟨l[p + 1], by simp [hll]⟩
  have hab : ¬ b < a := by have := h p a b ha hb; omega
  have wj : IntKind.i64.wrap (((p + 1 : Nat) : Int) - 1) = (p : Int) := by rw [wrap_i64 (by omega) (by omega)]; omega
  have w1 : IntKind.i64.wrap (((p + 1 : Nat) : Int) + 1) = ((p + 1 + 1 : Nat) : Int) := wrap_i64 (by omega) (by omega)
  have ga : ∀ h2, (intv l)[p]'h2 = [.lit (.int .i64 a)] := fun h2 => by rw [intv_at (by omega), ha]; rfl
  have gb : ∀ h2, (intv l)[p + 1]'h2 = [.lit (.int .i64 b)] := fun h2 => by rw [intv_at (by omega), hb]; rfl
  have hpl : p < l.length := by omega
  generalize hje : p + 1 = j at *
  have n0 : ¬ ((j : Int) < 0) := by omega
  have n1 : ¬ ((p : Int) < 0) := by omega
  simp [I, IL, hli, hlt, wj, ga, gb, hpl, hll, n0, n1]
  refine call0 (LessI_ok b a) (by simp [I]) ?_
  rintro y H' ⟨rfl, rfl⟩
  refine ⟨.inl (by simp), le_ok rfl, ?_⟩
  rw [decide_eq_false hab]
  simp [I, IL, w1, -Int.natCast_add]
  exact round (j + 1) [] ⟨by omega, by omega⟩ (by omega) (by simp [I, IL]) (by simp) (by simp) (by simp) (by simp)
 ·have h3' : i = n := by omega
  subst h3'
  simp [I, IL]
  exact fin0
theorem PdqN_ok (l : List Int) (n : Nat) (k : Int) (hl : l.length = n) (h1 : 1 ≤ n) (h2 : n ≤ 16) (hk : 0 < k) (hr : n ≤ 12 ∨ RisI l) : ECalls Tryz.prog 142 [.v (.c (.row 0 n)), I .i64 0, I .i64 n, I .i64 k] [.row 3 1 (intv l)] fun y H' => H' = [some (.row 3 1 (intv (insN l)))] ∧ y = .tup [] := by
 have w0 : IntKind.i64.wrap (n : Int) = n := wrap_i64 (by omega) (by omega)
 have w0' : IntKind.i64.wrap ((n : Int) - 0) = n := by rw [wrap_i64 (by omega) (by omega)]; omega
 have hT : List.take n (intv l) = intv l := List.tkL (by simp [intv, hl])
 refine ecalls k_PdqI ?_
 simp [c_PdqI, I]
 refine eloop (α := Nat) (fun i => i = 0) (fun i => i) (fun i => [.v (.c (.row 0 n)), I .i64 0, I .i64 n, I .i64 k, xA, xA, xA, xA, .lit (.bool true), .lit (.bool true), xA, xA, xA, xA, xA, xA, xA, xA, xA, xA, xA, xA, xA, xA, xA, xA, xA, xA, xA, xA, xA, xA, xA, xA, xA, xA, xA, xA, xA, xA, xA, xA, xA, xA, xA, xA, xA, xA, xA, xA, xA, xA, xA, xA, xA, xA, xA, xA, xA, xA, xA, xA, xA, xA, xA, xA, xA, xA, xA, xA, xA, xA, xA, xA, xA, xA, xA, xA, xA, xA, xA, xA, xA, xA, xA, xA, xA, xA, xA, xA, xA, xA, xA, xA, xA, xA, xA, xA, xA, xA, xA, xA, xA, xA, xA, xA, xA, xA, xA, xA, xA, xA, xA, xA, xA, xA, xA, xA, xA, xA, xA, xA, xA, xA, xA, xA, xA, xA, xA, xA, xA, xA, xA, .any]) (fun _ => [some (.row 3 1 (intv l))]) 0 [0]
  rfl (by simp [I]) (by simp) (by simp) (by simp) (by simp) ?_
 rintro i rfl
 by_cases h12 : n ≤ 12
 ·have g12 : (n : Int) ≤ 12 := by omega
  simp [I, w0, w0', h12, g12]
  refine callH [0] (InsN_ok l n hl h1 (by omega)) (by simp [I]) (by simp) (by simp) (by simp) (by simp) ?_
  rintro y H' ⟨rfl, rfl⟩
  refine ⟨.inl (by simp), by simp, ?_⟩
  simp
  exact fin [] (by decide) rfl rfl (by simp [objsOut, show List.range 1 = [0] from rfl]) ⟨rfl, rfl⟩
 ·have hR := hr.resolve_left h12
  have g12 : ¬ (n : Int) ≤ 12 := by omega
  have gk : ¬ k = 0 := by omega
  obtain ⟨p, hP⟩ := ChpI_ok l hR n hl (by omega) h2
  rw [ins_ris hR]
  simp [I, w0, w0', h12, g12, gk]
  refine call0 hP (by simp [I, IL, hT]) ?_
  rintro y H' ⟨rfl, rfl⟩
  refine ⟨.inr ⟨rfl, by simp⟩, le_ok rfl, ?_⟩
  simp [I, w0, w0', h12, g12, gk]
  refine call0 (PisI_ok l hR n hl h1 (by omega)) (by simp [I, IL, hT]) ?_
  rintro y H' ⟨rfl, rfl⟩
  refine ⟨.inr ⟨rfl, by simp⟩, le_ok rfl, ?_⟩
  simp
  exact fin [] (by decide) rfl rfl (by simp [objsOut, show List.range 1 = [0] from rfl]) ⟨rfl, rfl⟩
theorem SortN_ok (l : List Int) (n : Nat) (hl : l.length = n) (h1 : 1 ≤ n) (h2 : n ≤ 16) (hr : n ≤ 12 ∨ RisI l) : ECalls Tryz.prog 77 [.v (.c (.row 0 n))] [.row 3 1 (intv l)] fun y H' => H' = [some (.row 3 1 (intv (insN l)))] ∧ y = .tup [] := by
 have w0 : IntKind.u64.wrap (n : Int) = n := by simp [IntKind.wrap, IntKind.bits, IntKind.signed]; omega
 obtain ⟨m, m1, m2, hm⟩ := LenB_n n h1 h2
 refine ecalls k_SortI ?_
 simp [c_SortI, I, w0]
 refine call0 hm (by simp) ?_
 rintro y H' ⟨rfl, rfl⟩
 refine ⟨.inl (by simp [I]), le_ok rfl, ?_⟩
 simp [I]
 refine callH [0] (PdqN_ok l n m hl h1 h2 m1 hr) (by simp [I]) (by simp) (by simp) (by simp) (by simp) ?_
 rintro y H' ⟨rfl, rfl⟩
 refine ⟨.inl (by simp), by simp, ?_⟩
 simp
 exact fin [] (by decide) rfl rfl (by simp [objsOut, show List.range 1 = [0] from rfl]) ⟨rfl, rfl⟩
def yla3 : UL | _ => [xM 0 12 0, xM 1 13 5, xI 2 14 1 12 13, xL 3 15 14, xM 4 16 1, xb 5 17 .eql 15 16]
def yba7 : UB | _ => .seq (.seq (reg0 [xM 0 6 5, xM 1 7 0, xE 2 8 7, xb 3 9 .lss 6 8] 4) (.cond (.t 9) .skip (.exit 0))) (.seq (.block 1 (.seq (reg0 (hid yla3) 6) (.cond (.t 17) (.seq (reg0 [xQ 0 4 (.mov (.k (.bool true)))] 1) .ret) .skip))) (reg0 [xM 0 10 5, xc 1 11 .add 10 1, xM 2 5 11] 3))
def ybaa : UB | _ => .seq (reg0 [xQ 0 4 (.mov (.k (.bool false)))] 1) (.seq (.seq (reg0 [xC 0 5 0] 1) (.block 0 (.loop (hid yba7)))) (.seq (reg0 [xQ 0 4 (.mov (.k (.bool false)))] 1) .ret))
attribute [simp] yla3 yba7 ybaa
def c_chas : EB × List QOp × Nat := ((hid ybaa), [(.mov (.t 4))], 18)
theorem k_chas : cfun Tryz.prog 119 = some c_chas := by kernel_rfl
def ylaf : UL | _ => [xM 0 13 3, xM 1 14 0, xM 2 15 4, xI 3 16 1 14 15, xL 4 17 16, xO 5 18 (.call 119 [.t 13, .t 17])]
def ylah : UL | _ => [yL 12 31 23 true 30, xG 13 32 23 true (.bin .lss (.t 27) (.t 31)), xR 14 33 23 32]
def ylai : UL | _ => yM 6 25 23 true 5 :: xG 7 26 23 true (.isl 1 (.t 24) (.t 25)) :: yL 8 27 23 true 26 :: yM 9 28 23 true 0 :: yM 10 29 23 true 4 :: xG 11 30 23 true (.isl 1 (.t 28) (.t 29)) :: hid ylah
def ylaj : UL | _ => xM 0 19 5 :: xM 1 20 3 :: xE 2 21 20 :: xb 3 22 .lss 19 21 :: xM 4 23 22 :: yM 5 24 23 true 3 :: hid ylai
def ylan : UL | _ => [⟨4, (some 40), none, (.app 3 1 8 (.t 36) (.t 39)), [5, 6, 7, 8, 9, 11, 12, 13]⟩, ⟨10, (some 46), none, (.app 3 1 8 (.t 40) (.t 45)), [11, 12, 13]⟩, xO 14 50 (.app 3 1 8 (.t 46) (.t 49)), xM 15 3 50]
def ylao : UL | _ => xI 7 43 1 41 42 :: xL 8 44 43 :: xQ 9 45 (.bsl 1 [xZ] 1 [(0, .t 44)]) :: xM 11 47 3 :: xM 12 48 5 :: xQ 13 49 (.ssl 1 (.t 47) (some (.t 48)) none) :: hid ylan
def ylap : UL | _ => xM 0 36 6 :: xM 1 37 3 :: xM 2 38 5 :: xQ 3 39 (.ssl 1 (.t 37) none (some (.t 38))) :: xM 5 41 0 :: xM 6 42 4 :: hid ylao
def ybaq : UB | _ => .seq (.block 2 (.loop (.seq (.seq (reg0 (hid ylaj) 15) (.cond (.t 33) .skip (.exit 2))) (.block 3 (reg0 [xM 0 34 5, xc 1 35 .add 34 1, xM 2 5 35] 3))))) (.seq (reg0 [xQ 0 6 (.mov (.k xS))] 1) (reg1 (hid ylap) 16))
def ybar : UB | _ => .seq (.seq (reg0 (hid ylaf) 6) (.cond (.t 18) (.exit 1) .skip)) (.seq (reg0 [xC 0 5 0] 1) (hid ybaq))
def ybat : UB | _ => .seq (.seq (reg0 [xM 0 7 4, xM 1 8 0, xE 2 9 8, xb 3 10 .lss 7 9] 4) (.cond (.t 10) .skip (.exit 0))) (.seq (.block 1 (hid ybar)) (reg0 [xM 0 11 4, xc 1 12 .add 11 1, xM 2 4 12] 3))
def ylau : UL | _ => [xM 0 51 3, xQ 1 52 (.build (([xS] : List Value) ++ zU8 ++ [xZ, xZ]) [(0, 1, .t 51)]), xO 2 53 (.fz (.q (.bsl 35 (([xS] : List Value) ++ zU8 ++ [xZ, xZ]) 1 [(0, .t 52)]))), xQ 3 54 (.build [xS] [(0, 1, .t 53)]), xN 4 (.fz (.sto 1 (.t 2) (.t 54)))]
def ybav : UB | _ => .seq (.seq (reg0 [xC 0 4 0] 1) (.block 0 (.loop (hid ybat)))) (.seq (reg0 (hid ylau) 5) .ret)
def ybaw : UB | _ => .seq (reg0 [xQ 0 2 (.alloc 152 [xS])] 1) (.seq (reg0 [xQ 0 3 (.mov (.k xS))] 1) (hid ybav))
attribute [simp] ylaf ylah ylai ylaj ylan ylao ylap ybaq ybar ybat ylau ybav ybaw
def c_cAll : EB × List QOp × Nat := ((hid ybaw), [(.lda 1 (.t 2))], 55)
theorem k_cAll : cfun Tryz.prog 58 = some c_cAll := by kernel_rfl
theorem chas_ok (l : List Int) (x : Int) (hx : ∀ y ∈ l, y ≠ x) (hn : l.length ≤ 1000) : ECalls Tryz.prog 119 [IL l, I .i64 x] [] fun y H' => H' = [] ∧ y = .lit (.bool false) := by
 refine ecalls k_chas ?_
 simp [c_chas, I, IL]
 refine eloop (α := Nat) (fun i => i ≤ l.length) (fun i => l.length - i)
  (fun i => [IL l, I .i64 x, xA, xA, EV.lit (.bool false), I .i64 i, xA, xA, xA, xA, xA, xA, xA, xA, xA, xA, xA, .any]) (fun _ => []) 0 []
  (Nat.zero_le _) (by simp [I, IL]) (by simp) (by simp) (by simp) (by simp) ?_
 intro i hi
 simp [I, IL]
 refine alt (fun hlt => ?_) (fun hlt => ?_)
 ·have hln : i < l.length := by omega
  obtain ⟨p, hc⟩ : ∃ p, l[i]? = some p := ⟨l[i], by simp [hln]⟩
  have hge : (intv l)[i]'(by simp [intv, hln]) = [.lit (.int .i64 p)] := gE (intv_get hc)
  have hpo := hx p (List.mgE hc)
  have w4 := wS (i := i) (by omega)
  simp [hln, hge, hpo, w4, -Int.natCast_add]
  exact round (i + 1) [] (by omega) (by omega) (by simp) (by simp) (by simp) (by simp) (by simp)
 ·simp
  exact fin0
def insI (K : List Int) (x : Int) : List Int := K.take (posI K x) ++ x :: K.drop (posI K x)
theorem ins_row {K : List Int} {p : Int} {j : Nat} (h : posI K p = j) : List.take j (intv K) ++ [FV.lit (.int .i64 p)] :: List.drop j (List.take K.length (intv K)) = intv (insI K p) := by
 have e : List.take K.length (intv K) = intv K := List.tkL (by simp [intv])
 rw [e]
 unfold insI
 rw [h]
 simp [intv]
theorem ins_len (K : List Int) (p : Int) : (insI K p).length = K.length + 1 := by
 have h : posI K p ≤ K.length := posI_le K p
 unfold insI
 simp
 omega
theorem ins_mem (K : List Int) (x y : Int) : y ∈ insI K x ↔ y ∈ K ∨ y = x := by
 unfold insI
 rw [List.mem_append, List.mem_cons]
 conv => rhs; rw [← List.take_append_drop (posI K x) K, List.mem_append]
 constructor
 ·rintro (h | h | h)
  ·exact .inl (.inl h)
  ·exact .inr h
  ·exact .inl (.inr h)
 ·rintro ((h | h) | h)
  ·exact .inl h
  ·exact .inr (.inr h)
  ·exact .inr (.inl h)
theorem fold_len : ∀ (l K : List Int), (l.foldl insI K).length = K.length + l.length
 | [], K => by simp
 | a :: r, K => by rw [List.foldl_cons, fold_len r, ins_len]; simp; omega
theorem fold_mem : ∀ (l K : List Int) (y : Int), y ∈ l.foldl insI K ↔ y ∈ K ∨ y ∈ l
 | [], K, y => by simp
 | a :: r, K, y => by rw [List.foldl_cons, fold_mem r, ins_mem]; simp [or_assoc]
theorem cAll_ok (ks : List Int) (hd : ks.Pairwise (· ≠ ·)) (hn : ks.length ≤ 100) : ECalls Tryz.prog 58 [IL ks] [] fun y H' => H' = [] ∧ y = .v (.agg [.fz (.sl 35 [.sl 1 (intv (ks.foldl insI [])) :: (hf hz ++ [.lit (.int .i64 0), .lit (.int .i64 0)])])]) := by
 refine ecalls k_cAll ?_
 simp [c_cAll, I, IL]
 refine loopW _ (weak_nilF 3 1 rfl) ?_
 simp
 refine eloop (α := Nat) (fun i => i ≤ ks.length) (fun i => ks.length - i)
  (fun i => [IL ks, xA, Ptr 0, IL ((ks.take i).foldl insI []), I .i64 i, xA, xA, xA, xA, xA, xA, xA, xA, xA, xA, xA, xA, xA, xA, xA, xA, xA, xA, xA, xA, xA, xA, xA, xA, xA, xA, xA, xA, xA, xA, xA, xA, xA, xA, xA, xA, xA, xA, xA, xA, xA, xA, xA, xA, xA, xA, xA, xA, xA, .any]) (fun _ => [some (.box 152 [.fz (.lit (.slice none 0 0))])]) 0 [0]
  (Nat.zero_le _) (by simp [I, IL, Ptr, intv]) (by simp) (by simp) (by simp) (by simp) ?_
 intro i hi
 obtain ⟨K, hK⟩ : ∃ K, (ks.take i).foldl insI [] = K := ⟨_, rfl⟩
 have hKl : K.length = i := by rw [← hK, fold_len]; simp; omega
 have hKm : ∀ y, y ∈ K → y ∈ ks.take i := fun y hy => by rw [← hK, fold_mem] at hy; simpa using hy
 simp [I, IL, Ptr, hK]
 refine alt (fun hlt => ?_) (fun hlt => ?_)
 ·have hln : i < ks.length := by omega
  obtain ⟨p, hc⟩ : ∃ p, ks[i]? = some p := ⟨ks[i], by simp [hln]⟩
  have hge : (intv ks)[i]'(by simp [intv, hln]) = [.lit (.int .i64 p)] := gE (intv_get hc)
  have hno : ∀ y ∈ K, y ≠ p := fun y hy => by
   have hp : (ks.take (i + 1)).Pairwise (· ≠ ·) := hd.sublist (List.take_sublist _ _)
   rw [List.take_add_one, hc] at hp
   exact (List.pairwise_append.1 hp).2.2 y (hKm y hy) p (by simp)
  have w4 := wS (i := i) (by omega)
  have ht1 : (ks.take (i + 1)).foldl insI [] = insI K p := by rw [List.take_add_one, hc]; simp [hK]
  simp [hln, hge]
  refine call0 (chas_ok K p hno (by omega)) (by simp [IL, I]) ?_
  rintro y H' ⟨rfl, rfl⟩
  refine ⟨.inl (by simp), le_ok rfl, ?_⟩
  simp
  refine eloop (α := Nat) (fun j => j ≤ K.length ∧ ∀ (k : Nat) (y : Int), k < j → K[k]? = some y → y < p) (fun j => K.length - j)
   (fun j => [IL ks, xA, Ptr 0, IL K, I .i64 i, I .i64 j, xA, xA, xA, xA, xA, xA, xA, xA, xA, xA, xA, xA, xA, xA, xA, xA, xA, xA, xA, xA, xA, xA, xA, xA, xA, xA, xA, xA, xA, xA, xA, xA, xA, xA, xA, xA, xA, xA, xA, xA, xA, xA, xA, xA, xA, xA, xA, xA, .any]) (fun _ => [some (.box 152 [.fz (.lit (.slice none 0 0))])]) 0 [0]
   ⟨Nat.zero_le _, fun k y hk => absurd hk (Nat.not_lt_zero k)⟩ (by simp [I, IL, Ptr]) (by simp) (by simp) (by simp) (by simp) ?_
  rintro j ⟨hj, hlo⟩
  simp [I, IL, Ptr]
  refine alt (fun hjl => ?_) (fun hjl => ?_)
  ·have hjn : j < K.length := by omega
   obtain ⟨q, hq⟩ : ∃ q, K[j]? = some q := ⟨K[j], by simp [hjn]⟩
   have hqe : (intv K)[j]'(by simp [intv, hjn]) = [.lit (.int .i64 q)] := gE (intv_get hq)
   have w5 : IntKind.i64.wrap ((j : Int) + 1) = ((j + 1 : Nat) : Int) := wrap_i64 (by omega) (by omega)
   simp [hjn, hqe, hln, hge]
   by_cases hqp : q < p
   ·simp [hqp, w5, -Int.natCast_add]
    refine round (j + 1) [0] ⟨by omega, ?_⟩ (by omega) (by simp) (by simp) (by simp) (by simp) (by simp)
    intro k y hk hy
    rcases Nat.lt_or_ge k j with h1 | h1
    ·exact hlo k y h1 hy
    ·obtain rfl : k = j := by omega
     rw [hq] at hy
     have := Option.some.inj hy
     omega
   ·have hqn := hno q (List.mgE hq)
    have hpo : posI K p = j := posI_eq hj hlo (fun y hy => by rw [hq] at hy; have := Option.some.inj hy; omega)
    have hge' := intv_get hc
    simp [hj, hge', hln, hge, hqp, w4, -Int.natCast_add]
    refine ⟨by omega, by omega, by omega, ?_⟩
    rw [ins_row hpo, show j + 1 + (K.length - j) = K.length + 1 by omega]
    refine ⟨i + 1, by omega, by show ks.length - (i + 1) < ks.length - i; omega, (weak_frz (o := 481) (ty := 3) (es := 1) (xs := intv (insI K p)) rfl).trans (weak_norm [0] _ _ ?_ ?_ (by simp) (by simp) (by simp))⟩
    ·simp [fzEV, ht1]
     exact List.tkL (by simp [intv, ins_len])
    ·simp
  ·have hjl' : ¬ j < K.length := by omega
   have hjl2 : K.length ≤ j := by omega
   simp [hjl', hjl2]
   have hpo : posI K p = j := posI_eq hj hlo (fun y hy => by have := lt_len hy; omega)
   have hge' := intv_get hc
   simp [hj, hjl', hge', hln, hge, w4, -Int.natCast_add]
   refine ⟨by omega, by omega, by omega, ?_⟩
   rw [ins_row hpo, show j + 1 + (K.length - j) = K.length + 1 by omega]
   refine ⟨i + 1, by omega, by show ks.length - (i + 1) < ks.length - i; omega, (weak_frz (o := 481) (ty := 3) (es := 1) (xs := intv (insI K p)) rfl).trans (weak_norm [0] _ _ ?_ ?_ (by simp) (by simp) (by simp))⟩
   ·simp [fzEV, ht1]
    exact List.tkL (by simp [intv, ins_len])
   ·simp
 ·obtain rfl : i = ks.length := by omega
  rw [List.take_length] at hK
  have hr0 : (hc hz).flatMap rowsE = [] := rfl
  have hfz : frzAll (hc hz ++ [.fz (.lit (.int .i64 0)), .fz (.lit (.int .i64 0))]) = some (hf hz ++ [.lit (.int .i64 0), .lit (.int .i64 0)]) := rfl
  have hfl : (hf hz).length = 32 := rfl
  simp [hr0, hK, hfz, hfl]
  exact fin0
end Go.Proofs.YtejjhgdnmknejaaGreatDoor
