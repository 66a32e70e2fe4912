import Derived.Test.YtddcceahaigodaaGreatDoorAll6
import Derived.Test.YtddcceahaigodaaGreatDoorAll9
import Derived.Test.YtddcceahaigodaaGreatDoorAll17
import Derived.Test.YtddcceahaigodaaGreatDoorAll10
import Derived.Test.YtddcceahaigodaaGreatDoorAll14
import Derived.Test.YtddcceahaigodaaGreatDoorAll12
import Derived.Test.YtddcceahaigodaaGreatDoorAll11
set_option maxHeartbeats 64000000
namespace Go.Proofs.YtddcceahaigodaaGreatDoor
open Go Go.EW
set_option linter.unusedSimpArgs false
set_option linter.unusedVariables false
theorem opn_twoV : Opn BB Tryz.prog 26 (fun p : Int × Int => [FV.lit (.int .i64 p.1), .lit (.int .i64 p.2)]) (fun p => i64 p.1 ∧ i64 p.2) (fun _ => 1) :=
 (opn_array bok (e := 3) (es := 1) (n := 2) (by kernel_rfl) (by kernel_rfl) (by kernel_rfl) opn_i64).map (fun l => (l[0]?.getD 0, l[1]?.getD 0)) (by
  rintro l ⟨_, h⟩
  match l, h with
  | [a, b], _ => simp) (by
  rintro l ⟨h1, h⟩
  match l, h, h1 with
  | [a, b], _, h1 => exact ⟨h1 a (by simp), h1 b (by simp)⟩) (fun _ _ => by omega)
theorem opn_outV : Opn BB Tryz.prog 25 (fun p : List UInt8 × Int => hf p.1 ++ [FV.lit (.int .i64 p.2)]) (fun p => p.1.length = 32 ∧ i64 p.2) (fun _ => 1) :=
 (opn_struct (tot := 33) bok Tryz.underlying25 (by kernel_rfl)
  (opnFs_cons bok (n := 32) (tot := 1) opn_hash rfl (by kernel_rfl) (opnFs_cons bok (n := 1) (tot := 0) opn_i64 rfl (by kernel_rfl) opnFs_nil))).map
  (fun p => (p.1, p.2.1)) (by rintro ⟨a, b, u⟩ _; simp) (by rintro ⟨a, b, u⟩ h; exact ⟨h.1, h.2.1⟩) (by rintro ⟨a, b, u⟩ _; simp)
theorem opn_prm : Opn BB Tryz.prog 28 prmF Prm.ok (fun _ => 1) :=
 (opn_struct (tot := 38) bok Tryz.underlying28 (by kernel_rfl)
  (opnFs_cons bok (n := 33) (tot := 5) opn_outV rfl (by kernel_rfl) (opnFs_cons bok (n := 1) (tot := 4) opn_i64 rfl (by kernel_rfl)
   (opnFs_cons bok (n := 2) (tot := 2) opn_twoV rfl (by kernel_rfl) (opnFs_cons bok (n := 1) (tot := 1) opn_i64 rfl (by kernel_rfl)
   (opnFs_cons bok (n := 1) (tot := 0) opn_i64 rfl (by kernel_rfl) opnFs_nil)))))).map
  (fun p => (⟨p.1.1, p.1.2, p.2.1, p.2.2.1.1, p.2.2.1.2, p.2.2.2.1, p.2.2.2.2.1⟩ : Prm)) (by rintro ⟨⟨a, a'⟩, b, ⟨c, c'⟩, d, e, u⟩ _; simp [prmF, iF]) (by rintro ⟨⟨a, a'⟩, b, ⟨c, c'⟩, d, e, u⟩ h; exact ⟨h.1.1, h.1.2, h.2.1, h.2.2.1.1, h.2.2.1.2, h.2.2.2.1, h.2.2.2.2.1⟩) (by rintro ⟨⟨a, a'⟩, b, ⟨c, c'⟩, d, e, u⟩ _; simp)
def zPrmV : Value := .agg (Array.replicate 32 (.int .u8 0) ++ #[.int .i64 0, .int .i64 0, .int .i64 0, .int .i64 0, .int .i64 0, .int .i64 0])
def zPrmD {H : Type} : DataW H := .agg [.agg [.agg (List.replicate 32 (.lit (.int .u8 0))), .lit (.int .i64 0)], .lit (.int .i64 0), .agg [.lit (.int .i64 0), .lit (.int .i64 0)], .lit (.int .i64 0), .lit (.int .i64 0)]
def Bra.ok0 (b : Bra) : Prop := (∀ k ∈ b.keys, i64 k) ∧ b.lock.length = 32 ∧ i64 b.af ∧ i64 b.ol
def braW (b : Bra) : Nat := b.keys.length + 1
def Outp.ok0 (o : Outp) : Prop := i64 o.am ∧ ∀ b ∈ o.cs, b.ok0
def outW (o : Outp) : Nat := sumB braW o.cs + 1
def Inp.ok0 (x : Inp) : Prop := x.tx.length = 32 ∧ i64 x.n ∧ i64 x.br
def inpW (x : Inp) : Nat := x.sec.length + 1
def Txn.ok0 (t : Txn) : Prop := i64 t.lk ∧ (∀ x ∈ t.ins, x.ok0) ∧ ∀ o ∈ t.outs, o.ok0
def txW (t : Txn) : Nat := sumB inpW t.ins + sumB outW t.outs
def txF (t : Txn) : List FV := [iF t.lk, .sl 35 (inpv t.ins), .sl 2 (outv t.outs)]
theorem txF_fz (t : Txn) : (txF t).map EC.fz = txC t := by simp [txF, txC, iF, iC]
theorem opn_bra : Opn BB Tryz.prog 137 braF Bra.ok0 braW :=
 (opn_struct (tot := 35) bok Tryz.underlying137 (by kernel_rfl)
  (opnFs_cons bok (n := 1) (tot := 34) opn_ints rfl (by kernel_rfl) (opnFs_cons bok (n := 32) (tot := 2) opn_hash rfl (by kernel_rfl)
   (opnFs_cons bok (n := 1) (tot := 1) opn_i64 rfl (by kernel_rfl) (opnFs_cons bok (n := 1) (tot := 0) opn_i64 rfl (by kernel_rfl) opnFs_nil))))).map
  (fun p => (⟨p.1, p.2.1, p.2.2.1, p.2.2.2.1⟩ : Bra)) (by rintro ⟨a, b, c, d, u⟩ _; simp [braF, intv, intF, iF]) (by rintro ⟨a, b, c, d, u⟩ h; exact ⟨h.1.1, h.2.1, h.2.2.1, h.2.2.2.1⟩) (by rintro ⟨a, b, c, d, u⟩ _; simp [braW]; try omega)
theorem opn_bras : Opn BB Tryz.prog 131 (fun l : List Bra => [FV.sl 35 (brav l)]) (fun l => ∀ b ∈ l, b.ok0) (fun l => sumB braW l) :=
 (opn_slice bok (by kernel_rfl) (by kernel_rfl) (by omega) opn_bra).map id (fun _ _ => rfl) (fun _ h => h.1) (fun l _ => by simp)
theorem opn_cnd : Opn BB Tryz.prog 133 (fun l : List Bra => [FV.sl 35 (brav l)]) (fun l => ∀ b ∈ l, b.ok0) (fun l => sumB braW l) :=
 (opn_struct (tot := 1) bok Tryz.underlying133 (by kernel_rfl) (opnFs_cons bok (n := 1) (tot := 0) opn_bras rfl (by kernel_rfl) opnFs_nil)).map
  (fun p => p.1) (by rintro ⟨a, u⟩ _; simp) (by rintro ⟨a, u⟩ h; exact h.1) (by rintro ⟨a, u⟩ _; simp)
theorem opn_oup : Opn BB Tryz.prog 135 outF Outp.ok0 outW :=
 (opn_struct (tot := 2) bok Tryz.underlying135 (by kernel_rfl)
  (opnFs_cons bok (n := 1) (tot := 1) opn_i64 rfl (by kernel_rfl) (opnFs_cons bok (n := 1) (tot := 0) opn_cnd rfl (by kernel_rfl) opnFs_nil))).map
  (fun p => (⟨p.1, p.2.1⟩ : Outp)) (by rintro ⟨a, b, u⟩ _; simp [outF, iF]) (by rintro ⟨a, b, u⟩ h; exact ⟨h.1, h.2.1⟩) (by rintro ⟨a, b, u⟩ _; simp [outW]; try omega)
theorem opn_inp : Opn BB Tryz.prog 130 inpF Inp.ok0 inpW :=
 (opn_struct (tot := 35) bok Tryz.underlying130 (by kernel_rfl)
  (opnFs_cons bok (n := 33) (tot := 2) opn_outV rfl (by kernel_rfl) (opnFs_cons bok (n := 1) (tot := 1) opn_i64 rfl (by kernel_rfl)
   (opnFs_cons bok (n := 1) (tot := 0) opn_bytes rfl (by kernel_rfl) opnFs_nil)))).map
  (fun p => (⟨p.1.1, p.1.2, p.2.1, p.2.2.1⟩ : Inp)) (by rintro ⟨⟨a, a'⟩, b, c, u⟩ _; simp [inpF, iF]) (by rintro ⟨⟨a, a'⟩, b, c, u⟩ h; exact ⟨h.1.1, h.1.2, h.2.1⟩) (by rintro ⟨⟨a, a'⟩, b, c, u⟩ _; simp [inpW]; try omega)
theorem opn_inps : Opn BB Tryz.prog 69 (fun l : List Inp => [FV.sl 35 (inpv l)]) (fun l => ∀ b ∈ l, b.ok0) (fun l => sumB inpW l) :=
 (opn_slice bok (by kernel_rfl) (by kernel_rfl) (by omega) opn_inp).map id (fun _ _ => rfl) (fun _ h => h.1) (fun l _ => by simp)
theorem opn_oups : Opn BB Tryz.prog 58 (fun l : List Outp => [FV.sl 2 (outv l)]) (fun l => ∀ b ∈ l, b.ok0) (fun l => sumB outW l) :=
 (opn_slice bok (by kernel_rfl) (by kernel_rfl) (by omega) opn_oup).map id (fun _ _ => rfl) (fun _ h => h.1) (fun l _ => by simp)
theorem opn_txn : Opn BB Tryz.prog 71 txF Txn.ok0 txW :=
 (opn_struct (tot := 3) bok Tryz.underlying71 (by kernel_rfl)
  (opnFs_cons bok (n := 1) (tot := 2) opn_i64 rfl (by kernel_rfl) (opnFs_cons bok (n := 1) (tot := 1) opn_inps rfl (by kernel_rfl)
   (opnFs_cons bok (n := 1) (tot := 0) opn_oups rfl (by kernel_rfl) opnFs_nil)))).map
  (fun p => (⟨p.1, p.2.1, p.2.2.1⟩ : Txn)) (by rintro ⟨a, b, c, u⟩ _; simp [txF, iF]) (by rintro ⟨a, b, c, u⟩ h; exact ⟨h.1, h.2.1, h.2.2.1⟩) (by rintro ⟨a, b, c, u⟩ _; simp [txW]; try omega)
theorem sumB_ge {α : Type} {w : α → Nat} (hw : ∀ a, 1 ≤ w a) : ∀ l : List α, l.length ≤ sumB w l ∧ ∀ x ∈ l, w x ≤ sumB w l
 | [] => by simp
 | y :: r => by
  obtain ⟨h1, h2⟩ := sumB_ge hw r
  have := hw y
  simp only [sumB, List.length_cons]
  refine ⟨by omega, ?_⟩
  intro x hx
  rcases List.mem_cons.1 hx with rfl | hx
  ·omega
  ·have := h2 x hx; omega
def Txn.bk (t : Txn) : Prop := t.ok ∧ t.ins.length ≤ 1048576 ∧ t.outs.length ≤ 1048576 ∧ (∀ x ∈ t.ins, x.sec.length ≤ 1048576) ∧ ∀ o ∈ t.outs, o.cs.length ≤ 1048576 ∧ ∀ b ∈ o.cs, b.keys.length ≤ 1048576
theorem txn_bk {t : Txn} (h : t.ok0) (hb : txW t ≤ 1048576) : t.bk := by
 obtain ⟨h1, h2, h3⟩ := h
 obtain ⟨a1, a2⟩ := sumB_ge (w := inpW) (fun _ => by unfold inpW; omega) t.ins
 obtain ⟨b1, b2⟩ := sumB_ge (w := outW) (fun _ => by unfold outW; omega) t.outs
 unfold txW at hb
 have hi : ∀ x ∈ t.ins, x.sec.length ≤ 1048576 := fun x hx => by have := a2 x hx; have e : inpW x = x.sec.length + 1 := rfl; omega
 have ho : ∀ o ∈ t.outs, o.cs.length ≤ 1048576 ∧ ∀ b ∈ o.cs, b.keys.length ≤ 1048576 := fun o ho => by
  have q := b2 o ho
  obtain ⟨c1, c2⟩ := sumB_ge (w := braW) (fun _ => by unfold braW; omega) o.cs
  have e : outW o = sumB braW o.cs + 1 := rfl
  exact ⟨by omega, fun b hb => by have := c2 b hb; have e : braW b = b.keys.length + 1 := rfl; omega⟩
 refine ⟨⟨h1, ?_, ?_, by omega, by omega⟩, by omega, by omega, hi, ho⟩
 ·intro x hx
  obtain ⟨q1, q2, q3⟩ := h2 x hx
  have := hi x hx
  exact ⟨q1, q2, q3, by omega⟩
 ·intro o hm
  obtain ⟨q1, q2⟩ := h3 o hm
  obtain ⟨r1, r2⟩ := ho o hm
  refine ⟨q1, ?_, by omega⟩
  intro b hb
  obtain ⟨s1, s2, s3, s4⟩ := q2 b hb
  have := r2 b hb
  exact ⟨s1, s2, s3, s4, by omega⟩
def yltf : UL | _ => [xb 6 13 .add 9 12, xM 7 3 13]
def yltg : UL | _ => xF 0 7 1 1 :: xL 1 8 7 :: xE 2 9 8 :: xF 3 10 2 1 :: xL 4 11 10 :: xE 5 12 11 :: hid yltf
def yltl : UL | _ => [xM 0 16 4, xF 1 17 1 1, xL 2 18 17, xE 3 19 18, xb 4 20 .lss 16 19]
def yltm : UL | _ => [xL 6 29 28, xE 7 30 29, xc 8 31 .quo 30 16, xb 9 32 .add 23 31, xM 10 3 32]
def yltn : UL | _ => xM 0 23 3 :: xF 1 24 1 1 :: xL 2 25 24 :: xM 3 26 4 :: xI 4 27 35 25 26 :: xF 5 28 34 27 :: hid yltm
def yltr : UL | _ => [xM 0 33 5, xF 1 34 2 1, xL 2 35 34, xE 3 36 35, xb 4 37 .lss 33 36]
def ylts : UL | _ => [xF 6 46 0 45, xL 7 47 46, xE 8 48 47, xb 9 49 .add 40 48, xM 10 3 49]
def yltt : UL | _ => xM 0 40 3 :: xF 1 41 2 1 :: xL 2 42 41 :: xM 3 43 5 :: xI 4 44 2 42 43 :: xF 5 45 1 44 :: hid ylts
def yltv : UL | _ => [xG 12 62 60 true (.bin .lss (.t 61) (xK 400)), xR 13 63 60 62]
def yltw : UL | _ => xF 6 56 0 55 :: xL 7 57 56 :: xE 8 58 57 :: xb 9 59 .lss 50 58 :: xM 10 60 59 :: yM 11 61 60 true 3 :: hid yltv
def yltx : UL | _ => xM 0 50 6 :: xF 1 51 2 1 :: xL 2 52 51 :: xM 3 53 5 :: xI 4 54 2 52 53 :: xF 5 55 1 54 :: hid yltw
def ylty : UL | _ => [xE 12 78 77, xb 13 79 .add 66 78, xM 14 3 79]
def yltz : UL | _ => xF 6 72 0 71 :: xL 7 73 72 :: xM 8 74 6 :: xI 9 75 35 73 74 :: xF 10 76 0 75 :: xL 11 77 76 :: hid ylty
def ylu0 : UL | _ => xM 0 66 3 :: xF 1 67 2 1 :: xL 2 68 67 :: xM 3 69 5 :: xI 4 70 2 68 69 :: xF 5 71 1 70 :: hid yltz
def ybu3 : UB | _ => .seq (reg0 (hid yltt) 11) (.seq (reg0 [xC 0 6 0] 1) (.block 4 (.loop (.seq (.seq (reg0 (hid yltx) 14) (.cond (.t 63) .skip (.exit 4))) (.seq (.block 5 (reg0 (hid ylu0) 15)) (reg0 [xM 0 64 6, xc 1 65 .add 64 1, xM 2 6 65] 3))))))
def ybu5 : UB | _ => .seq (.seq (reg0 (hid yltr) 5) (.cond (.t 37) .skip (.exit 2))) (.seq (.block 3 (hid ybu3)) (reg0 [xM 0 38 5, xc 1 39 .add 38 1, xM 2 5 39] 3))
def ybu7 : UB | _ => .seq (.seq (reg0 [xC 0 5 0] 1) (.block 2 (.loop (hid ybu5)))) (.seq (reg0 [xM 0 80 3, xc 1 81 .gtr 80 400, xM 2 2 81] 3) .ret)
def ybu8 : UB | _ => .seq (.seq (reg0 [xC 0 4 0] 1) (.block 0 (.loop (.seq (.seq (reg0 (hid yltl) 5) (.cond (.t 20) .skip (.exit 0))) (.seq (.block 1 (reg0 (hid yltn) 11)) (reg0 [xM 0 21 4, xc 1 22 .add 21 1, xM 2 4 22] 3)))))) (hid ybu7)
def ybu9 : UB | _ => .seq (reg0 (hid yltg) 8) (.seq (.seq (reg0 [xM 0 14 3, xc 1 15 .gtr 14 300] 2) (.cond (.t 15) (.seq (reg0 [xQ 0 2 (.mov (.k (.bool true)))] 1) .ret) .skip)) (hid ybu8))
def ybua : UB | _ => .seq (reg0 [xW 0 1 71 0, xQ 1 2 (.mov (.k (.bool false)))] 2) (hid ybu9)
attribute [simp] yltf yltg yltl yltm yltn yltr ylts yltt yltv yltw yltx ylty yltz ylu0 ybu3 ybu5 ybu7 ybu8 ybu9 ybua
def c_longTx : EB × List QOp × Nat := ((hid ybua), [(.mov (.t 2))], 82)
theorem k_longTx : cfun Tryz.prog 14 = some c_longTx := by kernel_rfl
def yluf : UL | _ => [xN 6 (.fz (.sto 35 (.t 5) (.t 18)))]
def ylug : UL | _ => xF 0 14 0 1 :: xL 1 15 14 :: xM 2 16 4 :: xI 3 17 35 15 16 :: xD 4 18 35 17 :: xQ 5 5 (.alloc 169 (([xS] : List Value) ++ zU8 ++ [xZ, xZ])) :: hid yluf
def ylui : UL | _ => [xL 6 25 24, xO 7 26 (.app 3 1 8 (.t 19) (.t 25)), xF 8 27 0 5, xN 9 (.fz (.sto 1 (.t 27) (.t 26)))]
def yluj : UL | _ => xM 0 19 6 :: xF 1 20 0 1 :: xL 2 21 20 :: xM 3 22 4 :: xI 4 23 35 21 22 :: xF 5 24 0 23 :: hid ylui
def yluk : UL | _ => [xM 0 28 3, xD 1 29 35 5, xO 2 30 (.fz (.q (.bsl 35 (([xS] : List Value) ++ zU8 ++ [xZ, xZ]) 1 [(0, .t 29)]))), xO 3 31 (.app 169 35 72 (.t 28) (.t 30)), xM 4 3 31]
def ybuo : UB | _ => .seq (.seq (reg0 [xM 0 7 4, xF 1 8 0 1, xL 2 9 8, xE 3 10 9, xb 4 11 .lss 7 10] 5) (.cond (.t 11) .skip (.exit 0))) (.seq (.block 1 (.seq (reg0 (hid ylug) 7) (.seq (reg0 [xQ 0 6 (.mov (.k xS))] 1) (.seq (reg0 (hid yluj) 10) (reg0 (hid yluk) 5))))) (reg0 [xM 0 12 4, xc 1 13 .add 12 1, xM 2 4 13] 3))
def yluq : UL | _ => [xM 0 32 3, xQ 1 33 (.build [xS] [(0, 1, .t 32)]), xN 2 (.fz (.sto 1 (.t 2) (.t 33)))]
def ybus : UB | _ => .seq (reg0 [xW 0 1 133 0, xQ 1 2 (.alloc 97 [xS])] 2) (.seq (reg0 [xQ 0 3 (.mov (.k xS))] 1) (.seq (.seq (reg0 [xC 0 4 0] 1) (.block 0 (.loop (hid ybuo)))) (.seq (reg0 (hid yluq) 3) .ret)))
attribute [simp] yluf ylug ylui yluj yluk ybuo yluq ybus
def c_giveCond : EB × List QOp × Nat := ((hid ybus), [(.lda 1 (.t 2))], 34)
theorem k_giveCond : cfun Tryz.prog 91 = some c_giveCond := by kernel_rfl
def yluu : UL | _ => [xF 0 7 0 1, xL 1 8 7, xQ 2 9 (.build [xZ, xS, xS] [(0, 1, .t 8)]), xQ 3 3 (.alloc 85 [xZ, xS, xS]), xN 4 (.fz (.sto 3 (.t 3) (.t 9)))]
def yluw : UL | _ => [xM 0 10 4, xF 1 11 1 1, xL 2 12 11, xE 3 13 12, xb 4 14 .lss 10 13]
def yluy : UL | _ => [xO 24 41 (.app 151 35 72 (.t 18) (.t 40)), xF 25 42 1 3, xN 26 (.fz (.sto 1 (.t 42) (.t 41)))]
def yluz : UL | _ => xI 18 35 35 33 34 :: xF 19 36 34 35 :: xL 20 37 36 :: ⟨21, (some 38), none, (.app 5 1 1 (.t 31) (.t 37)), [0, 1, 2, 3, 4, 5, 6, 7, 8, 9, 10, 11, 12, 13]⟩ :: xQ 22 39 (.build (zU8 ++ [xZ, xZ, xS]) [(0, 33, .t 24), (33, 1, .t 30), (34, 1, .t 38)]) :: ⟨23, (some 40), none, (.fz (.q (.bsl 35 (zU8 ++ [xZ, xZ, xS]) 1 [(0, .t 39)]))), [0, 1]⟩ :: hid yluy
def ylv0 : UL | _ => xF 12 29 33 28 :: xL 13 30 29 :: xM 14 31 5 :: xF 15 32 1 1 :: xL 16 33 32 :: xM 17 34 4 :: hid yluz
def ylv1 : UL | _ => xF 6 23 0 22 :: xD 7 24 33 23 :: xF 8 25 1 1 :: xL 9 26 25 :: xM 10 27 4 :: xI 11 28 35 26 27 :: hid ylv0
def ylv2 : UL | _ => xF 0 17 1 3 :: xL 1 18 17 :: xF 2 19 1 1 :: xL 3 20 19 :: xM 4 21 4 :: xI 5 22 35 20 21 :: hid ylv1
def ylv7 : UL | _ => [xM 0 43 6, xF 1 44 2 1, xL 2 45 44, xE 3 46 45, xb 4 47 .lss 43 46]
def ylv8 : UL | _ => [xF 18 68 2 3, xN 19 (.fz (.sto 1 (.t 68) (.t 67)))]
def ylv9 : UL | _ => xF 12 62 1 61 :: xD 13 63 1 62 :: ⟨14, (some 64), none, (.call 91 [.t 63]), [0, 1, 2, 3, 4, 5, 6, 7]⟩ :: xQ 15 65 (.build [xZ, xS] [(0, 1, .t 57), (1, 1, .t 64)]) :: ⟨16, (some 66), none, (.fz (.q (.bsl 2 [xZ, xS] 1 [(0, .t 65)]))), [0, 1]⟩ :: xO 17 67 (.app 100 2 32 (.t 51) (.t 66)) :: hid ylv8
def ylva : UL | _ => xF 6 56 0 55 :: xL 7 57 56 :: xF 8 58 2 1 :: xL 9 59 58 :: xM 10 60 6 :: xI 11 61 2 59 60 :: hid ylv9
def ylvb : UL | _ => xF 0 50 2 3 :: xL 1 51 50 :: xF 2 52 2 1 :: xL 3 53 52 :: xM 4 54 6 :: xI 5 55 2 53 54 :: hid ylva
def ybvf : UB | _ => .seq (.seq (reg0 [xC 0 6 0] 1) (.block 2 (.loop (.seq (.seq (reg0 (hid ylv7) 5) (.cond (.t 47) .skip (.exit 2))) (.seq (.block 3 (reg1 (hid ylvb) 20)) (reg0 [xM 0 48 6, xc 1 49 .add 48 1, xM 2 6 49] 3)))))) (.seq (reg0 [xD 0 69 3 3, xN 1 (.fz (.sto 3 (.t 2) (.t 69)))] 2) .ret)
def ybvg : UB | _ => .seq (.seq (reg0 [xC 0 4 0] 1) (.block 0 (.loop (.seq (.seq (reg0 (hid yluw) 5) (.cond (.t 14) .skip (.exit 0))) (.seq (.block 1 (.seq (reg0 [xQ 0 5 (.mov (.k xS))] 1) (reg1 (hid ylv2) 27))) (reg0 [xM 0 15 4, xc 1 16 .add 15 1, xM 2 4 16] 3)))))) (hid ybvf)
def ybvh : UB | _ => .seq (reg0 [xW 0 1 71 0, xQ 1 2 (.alloc 85 [xZ, xS, xS])] 2) (.seq (reg0 (hid yluu) 5) (hid ybvg))
attribute [simp] yluu yluw yluy yluz ylv0 ylv1 ylv2 ylv7 ylv8 ylv9 ylva ylvb ybvf ybvg ybvh
def c_giveTx : EB × List QOp × Nat := ((hid ybvh), [(.lda 3 (.t 2))], 70)
theorem k_giveTx : cfun Tryz.prog 41 = some c_giveTx := by kernel_rfl
def AnyB (y : EV) : Prop := ∃ b, y = .lit (.bool b)
theorem longTx_ok (t : Txn) (ht : t.bk) : ECalls Tryz.prog 14 [TXv t] [] fun y H' => H' = [] ∧ AnyB y := by
 obtain ⟨⟨h1, h2, h3, h4, h5⟩, b1, b2, b3, b4⟩ := ht
 obtain ⟨N, hN⟩ : ∃ N : Nat, t.ins.length + t.outs.length = N := ⟨_, rfl⟩
 have w0 : IntKind.i64.wrap ((t.ins.length : Int) + (t.outs.length : Int)) = (N : Int) := by rw [wrap_i64 (by omega) (by omega)]; omega
 refine ecalls k_longTx ?_
 simp [c_longTx, TXv, txC, I, iC, w0, -Int.natCast_add]
 refine alt (fun c => ?_) (fun c => ?_)
 ·exact fin [] (by decide) rfl rfl rfl ⟨rfl, _, rfl⟩
 have n1 : t.ins.length ≤ 300 := by omega
 have n2 : t.outs.length ≤ 300 := by omega
 simp
 refine eloop (α := Nat × Nat) (fun a => a.1 ≤ t.ins.length ∧ a.2 ≤ 300 + a.1 * 1048576) (fun a => t.ins.length - a.1)
  (fun a => [xA, Ptr 0, xA, I .i64 a.2, I .i64 a.1, xA, xA, xA, xA, xA, xA, xA, xA, xA, xA, xA, xA, xA, xA, xA, xA, xA, xA, xA, xA, xA, xA, xA, xA, xA, xA, xA, xA, xA, xA, xA, xA, xA, xA, xA, xA, xA, xA, xA, xA, xA, xA, xA, xA, xA, xA, xA, xA, xA, xA, xA, xA, xA, xA, xA, xA, xA, xA, xA, xA, xA, xA, xA, xA, xA, xA, xA, xA, xA, xA, xA, xA, xA, xA, xA, xA, .any]) (fun _ => [some (.box 71 (txC t))]) (0, N) [0]
  ⟨by simp, by dsimp only; omega⟩ (by simp [I, Ptr]) (by simp [txC, iC]) (by simp) (by simp) (by simp) ?_
 rintro ⟨i, n⟩ ⟨hi1, hi2⟩
 dsimp only at hi1 hi2
 simp [I, Ptr, txC, iC, -Int.natCast_add]
 refine alt (fun hlt => ?_) (fun hlt => ?_)
 ·have hln : i < t.ins.length := by omega
  obtain ⟨p, hc⟩ : ∃ p, t.ins[i]? = some p := ⟨t.ins[i], by simp [hln]⟩
  have hge : (inpv t.ins)[i]'(by simp [hln]) = inpF p := gE (inpv_get hc)
  have hpo := h2 p (List.mgE hc)
  have hb := b3 p (List.mgE hc)
  have l0 := ic_len hpo.1
  have l1 := if_len hpo.1
  have e34 := idx_of (ic_34 hpo.1) (by omega)
  have w1 := wS (i := i) (by omega)
  simp [hln, hge, inpF_fz, l0, l1, e34, -Int.natCast_add]
  obtain ⟨q, hq⟩ : ∃ q : Nat, p.sec.length / 16 = q := ⟨_, rfl⟩
  have w2 : IntKind.i64.wrap ((p.sec.length : Int) / 16) = (q : Int) := by rw [wrap_i64 (by omega) (by omega)]; omega
  have w3 : IntKind.i64.wrap ((n : Int) + (q : Int)) = ((n + q : Nat) : Int) := by rw [wrap_i64 (by omega) (by omega)]; omega
  simp [w1, w2, w3, -Int.natCast_add]
  exact round (i + 1, n + q) [0] ⟨by dsimp only; omega, by dsimp only; omega⟩ (by dsimp only; omega) (by simp [I, Ptr, -Int.natCast_add]) (by simp) (by simp) (by simp) (by simp)
 simp
 refine eloop (α := Nat × Nat) (fun a => a.1 ≤ t.outs.length ∧ a.2 ≤ 400000000 + a.1 * 2097152) (fun a => t.outs.length - a.1)
  (fun a => [xA, Ptr 0, xA, I .i64 a.2, xA, I .i64 a.1, xA, xA, xA, xA, xA, xA, xA, xA, xA, xA, xA, xA, xA, xA, xA, xA, xA, xA, xA, xA, xA, xA, xA, xA, xA, xA, xA, xA, xA, xA, xA, xA, xA, xA, xA, xA, xA, xA, xA, xA, xA, xA, xA, xA, xA, xA, xA, xA, xA, xA, xA, xA, xA, xA, xA, xA, xA, xA, xA, xA, xA, xA, xA, xA, xA, xA, xA, xA, xA, xA, xA, xA, xA, xA, xA, .any]) (fun _ => [some (.box 71 (txC t))]) (0, n) [0]
  ⟨by simp, by dsimp only; omega⟩ (by simp [I, Ptr]) (by simp [txC, iC]) (by simp) (by simp) (by simp) ?_
 clear hi2
 rintro ⟨i, n⟩ ⟨hi1, hi2⟩
 dsimp only at hi1 hi2
 simp [I, Ptr, txC, iC, -Int.natCast_add]
 refine alt (fun hlt => ?_) (fun hlt => ?_)
 rotate_left
 ·simp
  exact fin [] (by decide) rfl rfl rfl ⟨rfl, _, rfl⟩
 have hln : i < t.outs.length := by omega
 obtain ⟨p, hc⟩ : ∃ p, t.outs[i]? = some p := ⟨t.outs[i], by simp [hln]⟩
 have hge : (outv t.outs)[i]'(by simp [hln]) = outF p := gE (outv_get hc)
 have hpo := h3 p (List.mgE hc)
 obtain ⟨hb1, hb2⟩ := b4 p (List.mgE hc)
 have w1 := wS (i := i) (by omega)
 have w3 : IntKind.i64.wrap ((n : Int) + (p.cs.length : Int)) = ((n + p.cs.length : Nat) : Int) := by rw [wrap_i64 (by omega) (by omega)]; omega
 obtain ⟨M, hM⟩ : ∃ M : Nat, n + p.cs.length = M := ⟨_, rfl⟩
 rw [hM] at w3
 simp [hln, hge, outF, iF, w3, -Int.natCast_add]
 refine eloop (α := Nat × Nat) (fun a => a.1 ≤ p.cs.length ∧ a.2 ≤ 400000000 + (i + 1) * 2097152) (fun a => p.cs.length - a.1)
  (fun a => [xA, Ptr 0, xA, I .i64 a.2, xA, I .i64 i, I .i64 a.1, xA, xA, xA, xA, xA, xA, xA, xA, xA, xA, xA, xA, xA, xA, xA, xA, xA, xA, xA, xA, xA, xA, xA, xA, xA, xA, xA, xA, xA, xA, xA, xA, xA, xA, xA, xA, xA, xA, xA, xA, xA, xA, xA, xA, xA, xA, xA, xA, xA, xA, xA, xA, xA, xA, xA, xA, xA, xA, xA, xA, xA, xA, xA, xA, xA, xA, xA, xA, xA, xA, xA, xA, xA, xA, .any]) (fun _ => [some (.box 71 (txC t))]) (0, M) [0]
  ⟨by simp, by dsimp only; omega⟩ (by simp [I, Ptr]) (by simp [txC, iC]) (by simp) (by simp) (by simp) ?_
 rintro ⟨k, m⟩ ⟨hk1, hk2⟩
 dsimp only at hk1 hk2
 simp [I, Ptr, txC, iC, hln, hge, outF, iF, -Int.natCast_add]
 by_cases ck : k < p.cs.length
 rotate_left
 ·have ck' : ¬ (k : Int) < p.cs.length := by omega
  simp [ck, ck', w1, -Int.natCast_add]
  exact round (i + 1, m) [0] ⟨by dsimp only; omega, by dsimp only; omega⟩ (by dsimp only; omega) (by simp [I, Ptr, -Int.natCast_add]) (by simp) (by simp) (by simp) (by simp)
 have ck' : (k : Int) < p.cs.length := by omega
 by_cases cm : m < 400
 rotate_left
 ·have cm' : ¬ (m : Int) < 400 := by omega
  simp [ck, ck', cm, cm', w1, -Int.natCast_add]
  exact round (i + 1, m) [0] ⟨by dsimp only; omega, by dsimp only; omega⟩ (by dsimp only; omega) (by simp [I, Ptr, -Int.natCast_add]) (by simp) (by simp) (by simp) (by simp)
 have cm' : (m : Int) < 400 := by omega
 obtain ⟨b, hcb⟩ : ∃ b, p.cs[k]? = some b := ⟨p.cs[k], by simp [ck]⟩
 have hgb : (brav p.cs)[k]'(by simp [ck]) = braF b := gE (brav_get hcb)
 have hbo := hpo.2.1 b (List.mgE hcb)
 have hbk := hb2 b (List.mgE hcb)
 have l0 := bc_len hbo.2.1
 have e0 := idx_of (bc_0 b) (by omega)
 have l1 := bf_len hbo.2.1
 have w4 : IntKind.i64.wrap ((k : Int) + 1) = ((k + 1 : Nat) : Int) := wrap_i64 (by omega) (by omega)
 have w5 : IntKind.i64.wrap ((m : Int) + (b.keys.length : Int)) = ((m + b.keys.length : Nat) : Int) := by rw [wrap_i64 (by omega) (by omega)]; omega
 simp [ck, ck', cm, cm', hln, hge, hgb, braF_fz, l0, l1, e0, outF, iF, w4, w5, -Int.natCast_add]
 exact round (k + 1, m + b.keys.length) [0] ⟨by dsimp only; omega, by dsimp only; omega⟩ (by dsimp only; omega) (by simp [I, Ptr, -Int.natCast_add]) (by simp) (by simp) (by simp) (by simp)
theorem braC_tl (b : Bra) : (braC b).tail = hc b.lock ++ [EC.fz (.lit (.int .i64 b.af)), EC.fz (.lit (.int .i64 b.ol))] := rfl
theorem braF_tl (b : Bra) : FV.sl 1 (intv b.keys) :: (hf b.lock ++ [FV.lit (.int .i64 b.af), FV.lit (.int .i64 b.ol)]) = braF b := rfl
theorem giveCond_ok (l : List Bra) (hl : ∀ b ∈ l, b.ok) (hn : l.length ≤ 1048576) : ECalls Tryz.prog 91 [CNv l] [] fun y H' => H' = [] ∧ y = CNv l := by
 refine ecalls k_giveCond ?_
 simp [c_giveCond, CNv, I]
 refine loopW _ (weak_nilR 3 169 35 rfl (by omega)) ?_
 refine eloop (α := Nat) (fun i => i ≤ l.length) (fun i => l.length - i)
  (fun i => [xA, Ptr 0, Ptr 1, .v (.c (.row 2 i)), I .i64 i, xA, xA, xA, xA, xA, xA, xA, xA, xA, xA, xA, xA, xA, xA, xA, xA, xA, xA, xA, xA, xA, xA, xA, xA, xA, xA, xA, xA, .any]) (fun i => [some (.box 133 [.fz (.sl 35 (brav l))]), some (.box 97 [.fz (.lit (.slice none 0 0))]), some (.row 169 35 (brav (l.take i)))]) 0 [0, 16, 64]
  (Nat.zero_le _) (by simp [I, Ptr]) (by simp [brav]) (by simp) (by simp) (by simp) ?_
 intro i hi
 simp [I, Ptr, -Int.natCast_add]
 refine alt (fun hlt => ?_) (fun hlt => ?_)
 ·have hln : i < l.length := by omega
  obtain ⟨b, hcb⟩ : ∃ b, l[i]? = some b := ⟨l[i], by simp [hln]⟩
  have hgb : (brav l)[i]'(by simp [hln]) = braF b := gE (brav_get hcb)
  have hbo := hl b (List.mgE hcb)
  have hbk := hbo.2.2.2.2
  have l0 := bc_len hbo.2.1
  have e0 := idx_of (bc_0 b) (by omega)
  have l1 := bf_len hbo.2.1
  have tk := bc_take hbo.2.1
  have tkk : List.take b.keys.length (intv b.keys) = intv b.keys := List.tkL (by simp)
  have w1 := wS (i := i) (by omega)
  have hT : brav (l.take (i + 1)) = brav (l.take i) ++ [braF b] := by rw [List.take_add_one, hcb]; simp [brav]
  have hTl : (l.take i).length = i := by simp; omega
  simp [hln, hgb, braF_fz, l0, l1, e0, tk, tkk, hTl, w1, drop34h, braC_tl, take34l hbo.2.1, frzAll_hc, hbo.2.1, braF_tl, -Int.natCast_add]
  refine ⟨⟨by omega, by omega⟩, ⟨by omega, by omega⟩, ?_⟩
  exact round (i + 1) [0, 1, 419] (by omega) (by omega) (by simp [I, Ptr, -Int.natCast_add]) (by simp [hT]) (by simp) (by simp) (by simp)
 ·have hil : i = l.length := by omega
  subst hil
  simp
  refine finW _ (weak_frz (o := 2) (ty := 169) (es := 35) (xs := brav l) rfl) ?_
  exact fin [] (by decide) rfl rfl rfl ⟨rfl, by simp [List.tkL]⟩
theorem giveTx_ok (t : Txn) (ht : t.bk) : ECalls Tryz.prog 41 [TXv t] [] fun y H' => H' = [] ∧ y = TXv t := by
 obtain ⟨⟨h1, h2, h3, h4, h5⟩, b1, b2, b3, b4⟩ := ht
 refine ecalls k_giveTx ?_
 simp [c_giveTx, TXv, txC, I, iC]
 refine loopW _ (weak_nil (o := 80) (k := 1) (ty := 151) (es := 35) rfl rfl (by omega)) (loopW _ (weak_nil (o := 80) (k := 2) (ty := 100) (es := 2) rfl rfl (by omega)) ?_)
 refine eloop (α := Nat) (fun i => i ≤ t.ins.length) (fun i => t.ins.length - i)
  (fun i => [xA, Ptr 0, Ptr 1, Ptr 2, I .i64 i, xA, xA, xA, xA, xA, xA, xA, xA, xA, xA, xA, xA, xA, xA, xA, xA, xA, xA, xA, xA, xA, xA, xA, xA, xA, xA, xA, xA, xA, xA, xA, xA, xA, xA, xA, xA, xA, xA, xA, xA, xA, xA, xA, xA, xA, xA, xA, xA, xA, xA, xA, xA, xA, xA, xA, xA, xA, xA, xA, xA, xA, xA, xA, xA, .any]) (fun i => [some (.box 71 (txC t)), some (.box 85 [iC 0, .fz (.lit (.slice none 0 0)), .fz (.lit (.slice none 0 0))]), some (.box 85 [iC t.lk, .row 3 i, .row 4 0]), some (.row 151 35 (inpv (t.ins.take i))), some (.row 100 2 [])]) 0 [0, 16, 80, 128, 129]
  (Nat.zero_le _) (by simp [I, Ptr]) (by simp [txC, iC, inpv]) (by simp) (by simp) (by simp) ?_
 intro i hi
 simp [I, Ptr, txC, iC, -Int.natCast_add]
 refine alt (fun hlt => ?_) (fun hlt => ?_)
 ·have hln : i < t.ins.length := by omega
  obtain ⟨p, hcp⟩ : ∃ p, t.ins[i]? = some p := ⟨t.ins[i], by simp [hln]⟩
  have hge : (inpv t.ins)[i]'(by simp [hln]) = inpF p := gE (inpv_get hcp)
  have hpo := h2 p (List.mgE hcp)
  have hb := b3 p (List.mgE hcp)
  have l0 := ic_len hpo.1
  have l1 := if_len hpo.1
  have tk := ic_take hpo.1
  have tp := ic_pt hpo.1
  have e33 := idx_of (ic_33 hpo.1) (by omega)
  have e34 := idx_of (ic_34 hpo.1) (by omega)
  have w1 := wS (i := i) (by omega)
  have hT : inpv (t.ins.take (i + 1)) = inpv (t.ins.take i) ++ [inpF p] := by rw [List.take_add_one, hcp]; simp [inpv]
  have hTl : (t.ins.take i).length = i := by simp; omega
  have tks : List.take p.sec.length (bsv p.sec) = bsv p.sec := List.tkL (by simp)
  simp [hln, hge, inpF_fz, l0, l1, tk, tp, e33, e34, hTl, tks, w1, frzAll_hc, iC, drop33i, hpo.1, tk33x hpo.1, tk34x hpo.1, dr34x hpo.1, dr35x hpo.1, -Int.natCast_add]
  refine ⟨⟨by omega, by omega⟩, ⟨by omega, by omega⟩, ?_⟩
  exact round (i + 1) [0, 1, 2, 485, 4] (by omega) (by omega) (by simp [I, Ptr, -Int.natCast_add]) (by simp [hT, inpF, iF, txC, iC]) (by simp) (by simp) (by simp)
 have hil : i = t.ins.length := by omega
 subst hil
 simp
 refine eloop (α := Nat) (fun i => i ≤ t.outs.length) (fun i => t.outs.length - i)
  (fun i => [xA, Ptr 0, Ptr 1, Ptr 2, xA, xA, I .i64 i, xA, xA, xA, xA, xA, xA, xA, xA, xA, xA, xA, xA, xA, xA, xA, xA, xA, xA, xA, xA, xA, xA, xA, xA, xA, xA, xA, xA, xA, xA, xA, xA, xA, xA, xA, xA, xA, xA, xA, xA, xA, xA, xA, xA, xA, xA, xA, xA, xA, xA, xA, xA, xA, xA, xA, xA, xA, xA, xA, xA, xA, xA, .any]) (fun i => [some (.box 71 (txC t)), some (.box 85 [iC 0, .fz (.lit (.slice none 0 0)), .fz (.lit (.slice none 0 0))]), some (.box 85 [iC t.lk, .row 3 t.ins.length, .row 4 i]), some (.row 151 35 (inpv t.ins)), some (.row 100 2 (outv (t.outs.take i)))]) 0 [0, 1, 2, 3, 4]
  (Nat.zero_le _) (by simp [I, Ptr]) (by simp [txC, iC, outv]) (by simp) (by simp) (by simp) ?_
 clear hlt hi
 intro i hi
 simp [I, Ptr, txC, iC, -Int.natCast_add]
 refine alt (fun hlt => ?_) (fun hlt => ?_)
 ·have hln : i < t.outs.length := by omega
  obtain ⟨p, hcp⟩ : ∃ p, t.outs[i]? = some p := ⟨t.outs[i], by simp [hln]⟩
  have hge : (outv t.outs)[i]'(by simp [hln]) = outF p := gE (outv_get hcp)
  have hpo := h3 p (List.mgE hcp)
  have hb := (b4 p (List.mgE hcp)).1
  have w1 := wS (i := i) (by omega)
  have hT : outv (t.outs.take (i + 1)) = outv (t.outs.take i) ++ [outF p] := by rw [List.take_add_one, hcp]; simp [outv]
  have hTl : (t.outs.take i).length = i := by simp; omega
  simp [hln, hge, outF, iF, -Int.natCast_add]
  refine call0 (giveCond_ok p.cs hpo.2.1 hb) (by simp [CNv]) ?_
  rintro y H' ⟨rfl, rfl⟩
  refine ⟨.inl (by simp [CNv]), le_ok rfl, ?_⟩
  simp [hln, hge, outF, iF, CNv, hTl, w1, -Int.natCast_add]
  refine ⟨⟨by omega, by omega⟩, ?_⟩
  exact round (i + 1) [0, 1, 2, 3, 357] (by omega) (by omega) (by simp [I, Ptr, -Int.natCast_add]) (by simp [hT, outF, iF, txC, iC]) (by simp) (by simp) (by simp)
 ·have hil : i = t.outs.length := by omega
  subst hil
  simp
  refine finW _ (weak_frz (o := 3) (ty := 151) (es := 35) (xs := inpv t.ins) rfl) ?_
  refine finW _ (weak_frz (o := 4) (ty := 100) (es := 2) (xs := outv t.outs) rfl) ?_
  exact fin [] (by decide) rfl rfl rfl ⟨rfl, by simp [List.tkL]⟩
def ylvj : UL | _ => [⟨16, (some 23), (some (20, false)), (.call 37 [.t 22]), [18, 19]⟩, xG 17 24 20 false (.b2s (.t 23)), ⟨20, (some 27), (some (20, false)), (.call 38 [.t 26]), [17]⟩, xG 21 28 20 false (.b2s (.t 27)), xG 22 29 20 false (.bin .neq (.t 24) (.t 28)), xP 23 30 20 29]
def ylvk : UL | _ => xP 12 19 13 18 :: xM 13 20 19 :: yF 14 21 20 false 38 2 :: xG 15 22 20 false (.lda 5 (.t 21)) :: yF 18 25 20 false 38 3 :: xG 19 26 20 false (.lda 5 (.t 25)) :: hid ylvj
def ylvl : UL | _ => xM 6 13 12 :: yF 7 14 13 false 47 2 :: xG 8 15 13 false (.lda 2 (.t 14)) :: yF 9 16 13 false 47 3 :: xG 10 17 13 false (.lda 2 (.t 16)) :: xG 11 18 13 false (.eqz true 2 (.t 15) (.t 17)) :: hid ylvk
def ylvm : UL | _ => xF 0 7 0 2 :: xD 1 8 38 7 :: xF 2 9 0 3 :: xD 3 10 38 9 :: ⟨4, (some 11), none, (.call 9 [.t 10]), [0, 1]⟩ :: xQ 5 12 (.eqw true [(32, .u8), (6, .i64)] (.t 8) (.t 11)) :: hid ylvl
def ylvr : UL | _ => [⟨24, (some 59), (some (46, false)), (.call 40 [.t 58]), [18]⟩, xG 25 60 46 false (.b2s (.t 59)), xG 26 61 46 false (.bin .neq (.t 53) (.t 60)), xP 27 62 46 61]
def ylvs : UL | _ => yF 20 55 46 false 45 3 :: xG 21 56 46 false (.iad 2 1 (.t 55) (.t 54)) :: yL 22 57 46 false 56 :: xG 23 58 46 false (.build [xZ, xS, xS] [(2, 1, .t 57)]) :: ⟨17, (some 52), (some (46, false)), (.call 39 [.t 51]), [19, 20, 21, 22, 23]⟩ :: xG 18 53 46 false (.b2s (.t 52)) :: hid ylvr
def ylvt : UL | _ => yM 12 47 46 false 5 :: yF 13 48 46 false 45 2 :: xG 14 49 46 false (.iad 2 1 (.t 48) (.t 47)) :: yL 15 50 46 false 49 :: xG 16 51 46 false (.build [xZ, xS, xS] [(2, 1, .t 50)]) :: yM 19 54 46 false 5 :: hid ylvs
def ylvu : UL | _ => xF 6 41 43 3 :: xQ 7 42 (.iad 2 1 (.t 41) (.t 40)) :: xL 8 43 42 :: xE 9 44 43 :: xb 10 45 .neq 39 44 :: xM 11 46 45 :: hid ylvt
def ylvv : UL | _ => xM 0 35 5 :: xF 1 36 43 2 :: xQ 2 37 (.iad 2 1 (.t 36) (.t 35)) :: xL 3 38 37 :: xE 4 39 38 :: xM 5 40 5 :: hid ylvu
def ylvz : UL | _ => [xb 6 69 .lss 63 68]
def ylw0 : UL | _ => xM 0 63 6 :: xM 1 64 5 :: xF 2 65 43 2 :: xQ 3 66 (.iad 2 1 (.t 65) (.t 64)) :: xL 4 67 66 :: xE 5 68 67 :: hid ylvz
def ylw1 : UL | _ => [yM 30 102 89 false 6, xG 31 103 89 false (.isl 34 (.t 101) (.t 102)), yF 32 104 89 false 33 103, yL 33 105 89 false 104, xG 34 106 89 false (.bin .neq (.t 97) (.t 105)), xP 35 107 89 106]
def ylw2 : UL | _ => yF 24 96 89 false 33 95 :: yL 25 97 89 false 96 :: yM 26 98 89 false 5 :: yF 27 99 89 false 43 3 :: xG 28 100 89 false (.iad 2 1 (.t 99) (.t 98)) :: yL 29 101 89 false 100 :: hid ylw1
def ylw3 : UL | _ => yM 18 90 89 false 5 :: yF 19 91 89 false 43 2 :: xG 20 92 89 false (.iad 2 1 (.t 91) (.t 90)) :: yL 21 93 89 false 92 :: yM 22 94 89 false 6 :: xG 23 95 89 false (.isl 34 (.t 93) (.t 94)) :: hid ylw2
def ylw4 : UL | _ => xM 12 84 6 :: xI 13 85 34 83 84 :: xF 14 86 0 85 :: xD 15 87 33 86 :: xQ 16 88 (.eqw true [(32, .u8), (1, .i64)] (.t 79) (.t 87)) :: xM 17 89 88 :: hid ylw3
def ylw5 : UL | _ => xF 6 78 0 77 :: xD 7 79 33 78 :: xM 8 80 5 :: xF 9 81 43 3 :: xQ 10 82 (.iad 2 1 (.t 81) (.t 80)) :: xL 11 83 82 :: hid ylw4
def ylw6 : UL | _ => xM 0 72 5 :: xF 1 73 43 2 :: xQ 2 74 (.iad 2 1 (.t 73) (.t 72)) :: xL 3 75 74 :: xM 4 76 6 :: xI 5 77 34 75 76 :: hid ylw5
def ybwa : UB | _ => .seq (.seq (reg0 (hid ylw0) 7) (.cond (.t 69) .skip (.exit 2))) (.seq (.block 3 (.seq (reg0 (hid ylw6) 36) (.cond (.t 107) (.seq (reg0 [xQ 0 4 (.mov (.k (.bool false)))] 1) .ret) .skip))) (reg0 [xM 0 70 6, xc 1 71 .add 70 1, xM 2 6 71] 3))
def ybwb : UB | _ => .seq (.seq (reg1 (hid ylvv) 28) (.cond (.t 62) (.seq (reg0 [xQ 0 4 (.mov (.k (.bool false)))] 1) .ret) .skip)) (.seq (reg0 [xC 0 6 0] 1) (.block 2 (.loop (hid ybwa))))
def ybwd : UB | _ => .seq (.seq (reg0 [xM 0 31 5, xc 1 32 .lss 31 2] 2) (.cond (.t 32) .skip (.exit 0))) (.seq (.block 1 (hid ybwb)) (reg0 [xM 0 33 5, xc 1 34 .add 33 1, xM 2 5 34] 3))
def ybwf : UB | _ => .seq (.seq (reg0 [xC 0 5 0] 1) (.block 0 (.loop (hid ybwd)))) (.seq (reg0 [xQ 0 4 (.mov (.k (.bool true)))] 1) .ret)
def ybwg : UB | _ => .seq (reg0 [xW 0 2 49 0, xW 1 3 61 1, xQ 2 4 (.mov (.k (.bool false)))] 3) (.seq (.seq (reg1 (hid ylvm) 24) (.cond (.t 30) (.seq (reg0 [xQ 0 4 (.mov (.k (.bool false)))] 1) .ret) .skip)) (hid ybwf))
attribute [simp] ylvj ylvk ylvl ylvm ylvr ylvs ylvt ylvu ylvv ylvz ylw0 ylw1 ylw2 ylw3 ylw4 ylw5 ylw6 ybwa ybwb ybwd ybwf ybwg
def c_Ssame : EB × List QOp × Nat := ((hid ybwg), [(.mov (.t 4))], 108)
theorem k_Ssame : cfun Tryz.prog 13 = some c_Ssame := by kernel_rfl
def Dea.gd (d : Dea) : Prop := d.ok ∧ d.s.small ∧ (∀ o ∈ d.o0, o.sm) ∧ (∀ o ∈ d.o1, o.sm) ∧ d.i0.length ≤ 30 ∧ d.i1.length ≤ 30 ∧ d.o0.length ≤ 30 ∧ d.o1.length ≤ 30
theorem litK_prm {p : Prm} (h : p.ok) : ∃ ns, litK (unrle [(32, .u8), (6, .i64)]) (prmC p) = some ns := by
 have e : unrle [(32, .u8), (6, .i64)] = List.replicate p.tx.length .u8 ++ [.i64, .i64, .i64, .i64, .i64, .i64] := by rw [h.1]; rfl
 obtain ⟨_, h1, h2, h3, h4, h5, h6⟩ := h
 refine ⟨p.tx.map (fun b => (b.toNat : Int)) ++ [p.n, p.am, p.k0, p.k1, p.dl, p.fe], ?_⟩
 rw [e]
 unfold prmC
 exact litK_app (litK_u8 p.tx) (by simp [litK, iC, wf_i64 h1, wf_i64 h2, wf_i64 h3, wf_i64 h4, wf_i64 h5, wf_i64 h6])
theorem outs_enc {l : List Outp} (h : ∀ o ∈ l, o.ok) (hs : ∀ o ∈ l, o.sm) (hn : l.length ≤ 30) : (Txn.mk 0 [] l).ok ∧ (Txn.mk 0 [] l).sm :=
 ⟨outs_ok h (by omega), by simp, hs, by simp, by simp; omega⟩
theorem TEncO_ok (l : List Outp) (h : ∀ o ∈ l, o.ok) (hs : ∀ o ∈ l, o.sm) (hn : l.length ≤ 30) : ECalls Tryz.prog 39 [.v (.agg [iC 0, .fz (.lit (.slice none 0 0)), .fz (.sl 2 (outv l))])] [] fun y H' => H' = [] ∧ y = Bs (encT (Txn.mk 0 [] l)) := by
 obtain ⟨h1, h2⟩ := outs_enc h hs hn
 exact ecalls_nlR (cs := txC (Txn.mk 0 [] l)) ⟨.inl rfl, .inr ⟨rfl, _, rfl⟩, .inl rfl, trivial⟩ (TEncode_ok _ h1 (sm_sec h2) (encT_le h2))
theorem RTEncO_ok (l : List Outp) (h : ∀ o ∈ l, o.ok) (hs : ∀ o ∈ l, o.sm) (hn : l.length ≤ 30) : ECalls Tryz.prog 40 [.v (.agg [iC 0, .fz (.lit (.slice none 0 0)), .fz (.sl 2 (outv l))])] [] fun y H' => H' = [] ∧ y = Bs (encT (Txn.mk 0 [] l)) := by
 obtain ⟨h1, h2⟩ := outs_enc h hs hn
 exact ecalls_nlR (cs := txC (Txn.mk 0 [] l)) ⟨.inl rfl, .inr ⟨rfl, _, rfl⟩, .inl rfl, trivial⟩ (RTEncode_ok _ h1 (sm_sec h2) (encT_le h2))
set_option maxRecDepth 8000 in
theorem Ssame_ok (d : Dea) (hg : d.gd) : ECalls Tryz.prog 13 [DV d, DV d] [] fun y H' => H' = [] ∧ y = .lit (.bool true) := by
 obtain ⟨hd, hsm, so0, so1, u0, u1, v0, v1⟩ := hg
 obtain ⟨hp, hs, hi0, hi1, ho0, ho1, n0, n1, m0, m1, k0, k1⟩ := id hd
 obtain ⟨ns, hns⟩ := litK_prm hp
 have lp := prmC_len hp.1
 have pT := pmT lp
 have pD := pmD lp
 have pG := pmG lp
 have q38 := p38 hp.1
 have ld := deaC_len hp.1
 have t38 : List.take 38 (deaC d) = prmC d.p := p38 hp.1 _
 have d38 : List.drop 38 (deaC d) = staC d.s ++ deaT d := pD _ 0
 have d47 : List.drop 47 (deaC d) = [bC d.r0, bC d.r1] := pD _ 9
 have e43 := idx_of (show (deaC d)[43]? = some (.fz (.sl 34 (coiv d.i0))) from pG _ 5) (by omega)
 have e44 := idx_of (show (deaC d)[44]? = some (.fz (.sl 34 (coiv d.i1))) from pG _ 6) (by omega)
 have e45 := idx_of (show (deaC d)[45]? = some (.fz (.sl 2 (outv d.o0))) from pG _ 7) (by omega)
 have e46 := idx_of (show (deaC d)[46]? = some (.fz (.sl 2 (outv d.o1))) from pG _ 8) (by omega)
 refine ecalls k_Ssame ?_
 simp [c_Ssame, DV, ld, t38]
 refine call0 (giveP_ok d.p hp.1) (by simp [PVv]) ?_
 rintro y H' ⟨rfl, rfl⟩
 refine ⟨.inl (by simp), le_ok rfl, ?_⟩
 simp [PVv, ld, t38, hns, d47, d38, bC, staC, deaT]
 refine call0 (Encode_ok d.s hs hsm) (by simp [SV, staC]) ?_
 rintro y H' ⟨rfl, rfl⟩
 refine ⟨.inl (by simp [Bs]), le_ok rfl, ?_⟩
 simp [PVv, Bs, ld, t38, hns, d47, d38, bC, staC, deaT]
 refine call0 (REncode_ok d.s hs hsm) (by simp [SV, staC]) ?_
 rintro y H' ⟨rfl, rfl⟩
 refine ⟨.inl (by simp [Bs]), le_ok rfl, ?_⟩
 simp [PVv, Bs, ld, t38, hns, d47, d38, bC, staC, deaT]
 refine eloop (α := Nat) (fun i => i ≤ 2) (fun i => 2 - i)
  (fun i => [xA, xA, Ptr 0, Ptr 1, xA, I .i64 i, xA, xA, xA, xA, xA, xA, xA, xA, xA, xA, xA, xA, xA, xA, xA, xA, xA, xA, xA, xA, xA, xA, xA, xA, xA, xA, xA, xA, xA, xA, xA, xA, xA, xA, xA, xA, xA, xA, xA, xA, xA, xA, xA, xA, xA, xA, xA, xA, xA, xA, xA, xA, xA, xA, xA, xA, xA, xA, xA, xA, xA, xA, xA, xA, xA, xA, xA, xA, xA, xA, xA, xA, xA, xA, xA, xA, xA, xA, xA, xA, xA, xA, xA, xA, xA, xA, xA, xA, xA, xA, xA, xA, xA, xA, xA, xA, xA, xA, xA, xA, xA, .any]) (fun _ => [some (.box 49 (deaC d)), some (.box 61 (deaC d))]) 0 [0, 16]
  (by omega) (by simp [Ptr, I]) (by simp) (by simp) (by simp) (by simp) ?_
 intro i hi
 match i, hi with
 | 0, _ =>
  simp [Ptr, I, ld, e43, e45]
  refine call0 (TEncO_ok d.o0 ho0 so0 v0) (by simp [iC]) ?_
  rintro y H' ⟨rfl, rfl⟩
  refine ⟨.inl (by simp [Bs]), le_ok rfl, ?_⟩
  simp [Bs, ld, e43, e45]
  refine call0 (RTEncO_ok d.o0 ho0 so0 v0) (by simp [iC]) ?_
  rintro y H' ⟨rfl, rfl⟩
  refine ⟨.inl (by simp [Bs]), le_ok rfl, ?_⟩
  simp [Bs, ld, e43, e45]
  refine eloop (α := Nat) (fun k => k ≤ d.i0.length) (fun k => d.i0.length - k)
   (fun k => [xA, xA, Ptr 0, Ptr 1, xA, I .i64 0, I .i64 k, xA, xA, xA, xA, xA, xA, xA, xA, xA, xA, xA, xA, xA, xA, xA, xA, xA, xA, xA, xA, xA, xA, xA, xA, xA, xA, xA, xA, xA, xA, xA, xA, xA, xA, xA, xA, xA, xA, xA, xA, xA, xA, xA, xA, xA, xA, xA, xA, xA, xA, xA, xA, xA, xA, xA, xA, xA, xA, xA, xA, xA, xA, xA, xA, xA, xA, xA, xA, xA, xA, xA, xA, xA, xA, xA, xA, xA, xA, xA, xA, xA, xA, xA, xA, xA, xA, xA, xA, xA, xA, xA, xA, xA, xA, xA, xA, xA, xA, xA, xA, .any]) (fun _ => [some (.box 49 (deaC d)), some (.box 61 (deaC d))]) 0 [0, 1]
   (Nat.zero_le _) (by simp [Ptr, I]) (by simp) (by simp) (by simp) (by simp) ?_
  intro k hk
  simp [Ptr, I, ld, e43, e45]
  refine alt (fun hlt => ?_) (fun hlt => ?_)
  ·have hln : k < d.i0.length := by omega
   obtain ⟨c, hcc⟩ : ∃ c, d.i0[k]? = some c := ⟨d.i0[k], by simp [hln]⟩
   have hge : (coiv d.i0)[k]'(by simp [hln]) = coiF c := gE (coiv_get hcc)
   have hco := hi0 c (List.mgE hcc)
   have hfl := coiF_len hco.1
   have hcl := coiC_len hco.1
   have t33 := coi_33 hco.1
   have kk : litK (unrle [(32, .u8), (1, .i64)]) (hc c.tx ++ [.fz (.lit (.int .i64 c.n))]) = some (ptL c.tx c.n) := litK_ptL hco.1 hco.2.1
   have cam := idx_of (coi_am hco.1) (by omega)
   have cam' : (coiF c)[33]'(by omega) = iF c.am := by
    have e := coi_am hco.1
    rw [← coiF_fz, List.getElem?_map, List.getElem?_eq_getElem (by omega)] at e
    simpa [iC, iF] using e
   have w4 : IntKind.i64.wrap ((k : Int) + 1) = ((k + 1 : Nat) : Int) := wrap_i64 (by omega) (by omega)
   simp [ld, e43, e45, hln, hge, hfl, hcl, coiF_fz, t33, kk, cam, cam', iC, iF, w4, -Int.natCast_add]
   exact round (k + 1) [0, 1] (by omega) (by omega) (by simp [I, Ptr, -Int.natCast_add]) (by simp) (by simp) (by simp) (by simp)
  ·have hil : k = d.i0.length := by omega
   subst hil
   simp
   exact round 1 [0, 1] (by omega) (by omega) (by simp [Ptr, I, show IntKind.i64.wrap 1 = 1 from rfl]) (by simp) (by simp) (by simp) (by simp)
 | 1, _ =>
  simp [Ptr, I, ld, e44, e46]
  refine call0 (TEncO_ok d.o1 ho1 so1 v1) (by simp [iC]) ?_
  rintro y H' ⟨rfl, rfl⟩
  refine ⟨.inl (by simp [Bs]), le_ok rfl, ?_⟩
  simp [Bs, ld, e44, e46]
  refine call0 (RTEncO_ok d.o1 ho1 so1 v1) (by simp [iC]) ?_
  rintro y H' ⟨rfl, rfl⟩
  refine ⟨.inl (by simp [Bs]), le_ok rfl, ?_⟩
  simp [Bs, ld, e44, e46]
  refine eloop (α := Nat) (fun k => k ≤ d.i1.length) (fun k => d.i1.length - k)
   (fun k => [xA, xA, Ptr 0, Ptr 1, xA, I .i64 1, I .i64 k, xA, xA, xA, xA, xA, xA, xA, xA, xA, xA, xA, xA, xA, xA, xA, xA, xA, xA, xA, xA, xA, xA, xA, xA, xA, xA, xA, xA, xA, xA, xA, xA, xA, xA, xA, xA, xA, xA, xA, xA, xA, xA, xA, xA, xA, xA, xA, xA, xA, xA, xA, xA, xA, xA, xA, xA, xA, xA, xA, xA, xA, xA, xA, xA, xA, xA, xA, xA, xA, xA, xA, xA, xA, xA, xA, xA, xA, xA, xA, xA, xA, xA, xA, xA, xA, xA, xA, xA, xA, xA, xA, xA, xA, xA, xA, xA, xA, xA, xA, xA, .any]) (fun _ => [some (.box 49 (deaC d)), some (.box 61 (deaC d))]) 0 [0, 1]
   (Nat.zero_le _) (by simp [Ptr, I]) (by simp) (by simp) (by simp) (by simp) ?_
  intro k hk
  simp [Ptr, I, ld, e44, e46]
  refine alt (fun hlt => ?_) (fun hlt => ?_)
  ·have hln : k < d.i1.length := by omega
   obtain ⟨c, hcc⟩ : ∃ c, d.i1[k]? = some c := ⟨d.i1[k], by simp [hln]⟩
   have hge : (coiv d.i1)[k]'(by simp [hln]) = coiF c := gE (coiv_get hcc)
   have hco := hi1 c (List.mgE hcc)
   have hfl := coiF_len hco.1
   have hcl := coiC_len hco.1
   have t33 := coi_33 hco.1
   have kk : litK (unrle [(32, .u8), (1, .i64)]) (hc c.tx ++ [.fz (.lit (.int .i64 c.n))]) = some (ptL c.tx c.n) := litK_ptL hco.1 hco.2.1
   have cam := idx_of (coi_am hco.1) (by omega)
   have cam' : (coiF c)[33]'(by omega) = iF c.am := by
    have e := coi_am hco.1
    rw [← coiF_fz, List.getElem?_map, List.getElem?_eq_getElem (by omega)] at e
    simpa [iC, iF] using e
   have w4 : IntKind.i64.wrap ((k : Int) + 1) = ((k + 1 : Nat) : Int) := wrap_i64 (by omega) (by omega)
   simp [ld, e44, e46, hln, hge, hfl, hcl, coiF_fz, t33, kk, cam, cam', iC, iF, w4, -Int.natCast_add]
   exact round (k + 1) [0, 1] (by omega) (by omega) (by simp [I, Ptr, -Int.natCast_add]) (by simp) (by simp) (by simp) (by simp)
  ·have hil : k = d.i1.length := by omega
   subst hil
   simp
   exact round 2 [0, 1] (by omega) (by omega) (by simp [Ptr, I, show IntKind.i64.wrap 2 = 2 from rfl]) (by simp) (by simp) (by simp) (by simp)
 | 2, _ =>
  simp [Ptr, I]
  exact fin0
def ylwh : UL | _ => [xW 0 1 61 0, xQ 1 2 (.alloc 49 (zU8 ++ [xZ, xZ, xZ, xZ, xZ, xZ, xZ, xZ, xZ, xS, xS, xS, xS, xS, xS, (.bool false), (.bool false)]))]
def ylwi : UL | _ => [xQ 9 3 (.alloc 49 (zU8 ++ [xZ, xZ, xZ, xZ, xZ, xZ, xZ, xZ, xZ, xS, xS, xS, xS, xS, xS, (.bool false), (.bool false)])), ⟨2, (some 8), none, (.call 9 [.t 7]), [3, 4, 6, 7, 9]⟩, ⟨5, (some 11), none, (.call 10 [.t 10]), [6, 7, 9]⟩, xQ 8 14 (.build (zU8 ++ [xZ, xZ, xZ, xZ, xZ, xZ, xZ, xZ, xZ, xS, xS, xS, xS, xS, xS, (.bool false), (.bool false)]) [(0, 38, .t 8), (38, 5, .t 11), (47, 2, .t 13)]), xN 10 (.fz (.sto 49 (.t 3) (.t 14)))]
def ylwj : UL | _ => xF 0 6 0 1 :: xD 1 7 38 6 :: xF 3 9 38 1 :: xD 4 10 5 9 :: xF 6 12 47 1 :: xD 7 13 2 12 :: hid ylwi
def ylwn : UL | _ => [xb 6 25 .lss 19 24]
def ylwo : UL | _ => xM 0 19 5 :: xM 1 20 4 :: xF 2 21 43 1 :: xQ 3 22 (.iad 2 1 (.t 21) (.t 20)) :: xL 4 23 22 :: xE 5 24 23 :: hid ylwn
def ylwp : UL | _ => [⟨23, (some 51), none, (.app 102 34 48 (.t 32) (.t 50)), [0, 24]⟩, xQ 25 53 (.iad 2 1 (.t 52) (.t 28)), xN 26 (.fz (.sto 1 (.t 53) (.t 51)))]
def ylwq : UL | _ => xI 18 46 34 44 45 :: xF 19 47 33 46 :: xL 20 48 47 :: xQ 21 49 (.build (zU8 ++ [xZ, xZ]) [(0, 33, .t 40), (33, 1, .t 48)]) :: xQ 22 50 (.bsl 34 (zU8 ++ [xZ, xZ]) 1 [(0, .t 49)]) :: xF 24 52 43 3 :: hid ylwp
def ylwr : UL | _ => xD 12 40 33 39 :: xM 13 41 4 :: xF 14 42 43 1 :: xQ 15 43 (.iad 2 1 (.t 42) (.t 41)) :: xL 16 44 43 :: xM 17 45 5 :: hid ylwq
def ylws : UL | _ => xF 6 34 43 1 :: xQ 7 35 (.iad 2 1 (.t 34) (.t 33)) :: xL 8 36 35 :: xM 9 37 5 :: xI 10 38 34 36 37 :: xF 11 39 0 38 :: hid ylwr
def ylwt : UL | _ => xM 0 28 4 :: xM 1 29 4 :: xF 2 30 43 3 :: xQ 3 31 (.iad 2 1 (.t 30) (.t 29)) :: xL 4 32 31 :: xM 5 33 4 :: hid ylws
def ylww : UL | _ => [xO 6 60 (.call 41 [.t 59]), xQ 7 61 (.fgc 2 (.t 60)), xF 8 62 45 3, xQ 9 63 (.iad 2 1 (.t 62) (.t 54)), xN 10 (.fz (.sto 1 (.t 63) (.t 61)))]
def ylwx : UL | _ => xM 0 54 4 :: xM 1 55 4 :: xF 2 56 45 1 :: xQ 3 57 (.iad 2 1 (.t 56) (.t 55)) :: xL 4 58 57 :: xQ 5 59 (.build [xZ, xS, xS] [(2, 1, .t 58)]) :: hid ylww
def ybwy : UB | _ => .seq (.seq (reg0 [xC 0 5 0] 1) (.block 2 (.loop (.seq (.seq (reg0 (hid ylwo) 7) (.cond (.t 25) .skip (.exit 2))) (.seq (.block 3 (reg1 (hid ylwt) 27)) (reg0 [xM 0 26 5, xc 1 27 .add 26 1, xM 2 5 27] 3)))))) (reg0 (hid ylwx) 11)
def ybx0 : UB | _ => .seq (.seq (reg0 [xM 0 15 4, xc 1 16 .lss 15 2] 2) (.cond (.t 16) .skip (.exit 0))) (.seq (.block 1 (hid ybwy)) (reg0 [xM 0 17 4, xc 1 18 .add 17 1, xM 2 4 18] 3))
def ybx2 : UB | _ => .seq (.seq (reg0 [xC 0 4 0] 1) (.block 0 (.loop (hid ybx0)))) (.seq (reg0 [xD 0 64 49 3, xN 1 (.fz (.sto 49 (.t 2) (.t 64)))] 2) .ret)
def ybx3 : UB | _ => .seq (reg0 (hid ylwh) 2) (.seq (reg1 (hid ylwj) 11) (hid ybx2))
attribute [simp] ylwh ylwi ylwj ylwn ylwo ylwp ylwq ylwr ylws ylwt ylww ylwx ybwy ybx0 ybx2 ybx3
def c_SgiveD : EB × List QOp × Nat := ((hid ybx3), [(.lda 49 (.t 2))], 65)
theorem k_SgiveD : cfun Tryz.prog 15 = some c_SgiveD := by kernel_rfl
theorem outs_bk {l : List Outp} (h : ∀ o ∈ l, o.ok) (hs : ∀ o ∈ l, o.sm) (hn : l.length ≤ 30) : (Txn.mk 0 [] l).bk := by
 refine ⟨outs_ok h (by omega), by simp, by simp; omega, by simp, ?_⟩
 intro o ho
 obtain ⟨h1, h2⟩ := hs o ho
 exact ⟨by omega, fun b hb => by have := (h1 b hb).2; omega⟩
theorem giveO_ok (l : List Outp) (h : ∀ o ∈ l, o.ok) (hs : ∀ o ∈ l, o.sm) (hn : l.length ≤ 30) : ECalls Tryz.prog 41 [.v (.agg [iC 0, .fz (.lit (.slice none 0 0)), .fz (.sl 2 (outv l))])] [] fun y H' => H' = [] ∧ y = TXv (Txn.mk 0 [] l) :=
 ecalls_nlR (cs := txC (Txn.mk 0 [] l)) ⟨.inl rfl, .inr ⟨rfl, _, rfl⟩, .inl rfl, trivial⟩ (giveTx_ok _ (outs_bk h hs hn))
def zD1 : List EC := hc hz ++ [iC 0, iC 0, iC 0, iC 0, iC 0, iC 0, iC 0, iC 0, iC 0, .fz (.lit (.slice none 0 0)), .fz (.lit (.slice none 0 0)), .fz (.lit (.slice none 0 0)), .fz (.lit (.slice none 0 0)), .fz (.lit (.slice none 0 0)), .fz (.lit (.slice none 0 0)), .fz (.lit (.bool false)), .fz (.lit (.bool false))]
theorem z43 : List.take 4 (List.drop 43 (hc hz ++ [.fz (.lit (.int .i64 0)), .fz (.lit (.int .i64 0)), .fz (.lit (.int .i64 0)), .fz (.lit (.int .i64 0)), .fz (.lit (.int .i64 0)), .fz (.lit (.int .i64 0)), .fz (.lit (.int .i64 0)), .fz (.lit (.int .i64 0)), .fz (.lit (.int .i64 0)), .fz (.lit (.slice none 0 0)), .fz (.lit (.slice none 0 0)), .fz (.lit (.slice none 0 0)), .fz (.lit (.slice none 0 0)), .fz (.lit (.slice none 0 0)), .fz (.lit (.slice none 0 0)), .fz (.lit (.bool false)), .fz (.lit (.bool false))])) = [.fz (.lit (.slice none 0 0)), .fz (.lit (.slice none 0 0)), .fz (.lit (.slice none 0 0)), .fz (.lit (.slice none 0 0))] := rfl
theorem z33c : List.drop 33 (hc hz ++ [.fz (.lit (.int .i64 0)), .fz (.lit (.int .i64 0))]) = [.fz (.lit (.int .i64 0))] := rfl
def gdC (d : Dea) (a b c e : EC) : List EC := prmC d.p ++ [iC d.s.num, iC d.s.h0, iC d.s.h1, .fz (.sl 36 (payv d.s.pays)), .fz (.sl 3 (holv d.s.holds)), a, b, c, e, .fz (.lit (.bool d.r0)), .fz (.lit (.bool d.r1))]
def gdL (d : Dea) : Nat → List (Option EO)
 | 0 => [some (.box 61 (deaC d)), some (.box 49 zD1), some (.box 49 (gdC d (.row 3 0) (.row 4 0) (.fz (.lit (.slice none 0 0))) (.fz (.lit (.slice none 0 0))))), some (.row 102 34 []), some (.row 102 34 [])]
 | 1 => [some (.box 61 (deaC d)), some (.box 49 zD1), some (.box 49 (gdC d (.row 3 d.i0.length) (.row 4 0) (.fz (.sl 2 (outv d.o0))) (.fz (.lit (.slice none 0 0))))), some (.row 102 34 (coiv d.i0)), some (.row 102 34 [])]
 | _ => [some (.box 61 (deaC d)), some (.box 49 zD1), some (.box 49 (gdC d (.row 3 d.i0.length) (.row 4 d.i1.length) (.fz (.sl 2 (outv d.o0))) (.fz (.sl 2 (outv d.o1))))), some (.row 102 34 (coiv d.i0)), some (.row 102 34 (coiv d.i1))]
set_option maxRecDepth 8000 in
theorem SgiveD_ok (d : Dea) (hg : d.gd) : ECalls Tryz.prog 15 [DV d] [] fun y H' => H' = [] ∧ y = DV d := by
 obtain ⟨hd, hsm, so0, so1, u0, u1, v0, v1⟩ := hg
 obtain ⟨hp, hs, hi0, hi1, ho0, ho1, n0, n1, m0, m1, k0, k1⟩ := id hd
 have lp := prmC_len hp.1
 have pT := pmT lp
 have pD := pmD lp
 have pG := pmG lp
 have q38 := p38 hp.1
 have ld := deaC_len hp.1
 have t38 : List.take 38 (deaC d) = prmC d.p := p38 hp.1 _
 have d38 : List.drop 38 (deaC d) = staC d.s ++ deaT d := pD _ 0
 have d47 : List.drop 47 (deaC d) = [bC d.r0, bC d.r1] := pD _ 9
 have e43 := idx_of (show (deaC d)[43]? = some (.fz (.sl 34 (coiv d.i0))) from pG _ 5) (by omega)
 have e44 := idx_of (show (deaC d)[44]? = some (.fz (.sl 34 (coiv d.i1))) from pG _ 6) (by omega)
 have e45 := idx_of (show (deaC d)[45]? = some (.fz (.sl 2 (outv d.o0))) from pG _ 7) (by omega)
 have e46 := idx_of (show (deaC d)[46]? = some (.fz (.sl 2 (outv d.o1))) from pG _ 8) (by omega)
 refine ecalls k_SgiveD ?_
 simp [c_SgiveD, DV, ld, t38]
 refine call0 (giveP_ok d.p hp.1) (by simp [PVv]) ?_
 rintro y H' ⟨rfl, rfl⟩
 refine ⟨.inl (by simp), le_ok rfl, ?_⟩
 simp [PVv, ld, t38, d38, staC, deaT]
 refine call0 (giveState_ok d.s hs hsm) (by simp [SV, staC]) ?_
 rintro y H' ⟨rfl, rfl⟩
 refine ⟨.inl (by simp), le_ok rfl, ?_⟩
 simp [SV, PVv, ld, t38, d38, d47, staC, deaT, lp, pT, pD, pG, bC]
 simp only [z43, z49]
 refine loopW _ (weak_nil (o := 176) (k := 43) (ty := 102) (es := 34) rfl (by simp [pG]) (by omega)) (loopW _ (weak_nil (o := 176) (k := 44) (ty := 102) (es := 34) rfl (by simp [pG, List.set_append, lp]) (by omega)) ?_)
 refine eloop (α := Nat) (fun i => i ≤ 2) (fun i => 2 - i)
  (fun i => [xA, Ptr 0, Ptr 1, Ptr 2, I .i64 i, xA, xA, xA, xA, xA, xA, xA, xA, xA, xA, xA, xA, xA, xA, xA, xA, xA, xA, xA, xA, xA, xA, xA, xA, xA, xA, xA, xA, xA, xA, xA, xA, xA, xA, xA, xA, xA, xA, xA, xA, xA, xA, xA, xA, xA, xA, xA, xA, xA, xA, xA, xA, xA, xA, xA, xA, xA, xA, xA, .any]) (gdL d) 0 [0, 16, 176, 224, 225]
  (by omega) (by simp [Ptr, I, gdL]) (by simp [gdL, gdC, zD1, iC, List.set_append, lp]) (by simp [gdL]) (by simp) (by simp [gdL]) ?_
 intro i hi
 match i, hi with
 | 0, _ =>
  simp [Ptr, I, ld, gdL, gdC]
  refine eloop (α := Nat) (fun k => k ≤ d.i0.length) (fun k => d.i0.length - k)
   (fun k => [xA, Ptr 0, Ptr 1, Ptr 2, I .i64 0, I .i64 k, xA, xA, xA, xA, xA, xA, xA, xA, xA, xA, xA, xA, xA, xA, xA, xA, xA, xA, xA, xA, xA, xA, xA, xA, xA, xA, xA, xA, xA, xA, xA, xA, xA, xA, xA, xA, xA, xA, xA, xA, xA, xA, xA, xA, xA, xA, xA, xA, xA, xA, xA, xA, xA, xA, xA, xA, xA, xA, .any]) (fun k => [some (.box 61 (deaC d)), some (.box 49 zD1), some (.box 49 (gdC d (.row 3 k) (.row 4 0) (.fz (.lit (.slice none 0 0))) (.fz (.lit (.slice none 0 0))))), some (.row 102 34 (coiv (d.i0.take k))), some (.row 102 34 [])]) 0 [0, 1, 2, 3, 4]
   (Nat.zero_le _) (by simp [Ptr, I, gdL]) (by simp [gdC, zD1, iC, coiv, lp]) (by simp) (by simp) (by simp) ?_
  intro k hk
  simp [Ptr, I, ld, e43, e45, gdC, lp, pT, pD, pG]
  refine alt (fun hlt => ?_) (fun hlt => ?_)
  ·have hln : k < d.i0.length := by omega
   obtain ⟨c, hcc⟩ : ∃ c, d.i0[k]? = some c := ⟨d.i0[k], by simp [hln]⟩
   have hge : (coiv d.i0)[k]'(by simp [hln]) = coiF c := gE (coiv_get hcc)
   have hco := hi0 c (List.mgE hcc)
   have hfl := coiF_len hco.1
   have hcl := coiC_len hco.1
   have t33 := coi_33 hco.1
   have cam := idx_of (coi_am hco.1) (by omega)
   have cam' : (coiF c)[33]'(by omega) = iF c.am := by
    have e := coi_am hco.1
    rw [← coiF_fz, List.getElem?_map, List.getElem?_eq_getElem (by omega)] at e
    simpa [iC, iF] using e
   have w4 : IntKind.i64.wrap ((k : Int) + 1) = ((k + 1 : Nat) : Int) := wrap_i64 (by omega) (by omega)
   have hT : coiv (d.i0.take (k + 1)) = coiv (d.i0.take k) ++ [coiF c] := by rw [List.take_add_one, hcc]; simp [coiv]
   have hTl : (d.i0.take k).length = k := by simp; omega
   simp [ld, e43, e45, hln, hge, hfl, hcl, coiF_fz, t33, cam, cam', iC, iF, w4, hTl, lp, pT, pD, pG, hco.1, tk33x hco.1, z33c, dr34x hco.1, frzAll_hc, -Int.natCast_add]
   refine ⟨⟨by omega, by omega⟩, ?_⟩
   exact round (k + 1) [0, 1, 2, 485, 4] (by omega) (by omega) (by simp [I, Ptr, -Int.natCast_add]) (by simp [hT, gdC, zD1, iC, coiF, iF]) (by simp) (by simp) (by simp)
  ·have hil : k = d.i0.length := by omega
   subst hil
   simp [ld, e43, e45, gdC, lp, pT, pD, pG]
   refine call0 (giveO_ok d.o0 ho0 so0 v0) (by simp [iC]) ?_
   rintro y H' ⟨rfl, rfl⟩
   refine ⟨.inl (by simp [TXv, txC, iC]), le_ok rfl, ?_⟩
   simp [TXv, txC, iC, ld, e43, e45, gdC, lp, pT, pD, pG]
   exact round 1 [0, 1, 2, 3, 4] (by omega) (by omega) (by simp [Ptr, I, gdL, show IntKind.i64.wrap 1 = 1 from rfl]) (by simp [gdL, gdC, zD1, iC]) (by simp [gdL]) (by simp) (by simp [gdL])
 | 1, _ =>
  simp [Ptr, I, ld, gdL, gdC]
  refine eloop (α := Nat) (fun k => k ≤ d.i1.length) (fun k => d.i1.length - k)
   (fun k => [xA, Ptr 0, Ptr 1, Ptr 2, I .i64 1, I .i64 k, xA, xA, xA, xA, xA, xA, xA, xA, xA, xA, xA, xA, xA, xA, xA, xA, xA, xA, xA, xA, xA, xA, xA, xA, xA, xA, xA, xA, xA, xA, xA, xA, xA, xA, xA, xA, xA, xA, xA, xA, xA, xA, xA, xA, xA, xA, xA, xA, xA, xA, xA, xA, xA, xA, xA, xA, xA, xA, .any]) (fun k => [some (.box 61 (deaC d)), some (.box 49 zD1), some (.box 49 (gdC d (.row 3 d.i0.length) (.row 4 k) (.fz (.sl 2 (outv d.o0))) (.fz (.lit (.slice none 0 0))))), some (.row 102 34 (coiv d.i0)), some (.row 102 34 (coiv (d.i1.take k)))]) 0 [0, 1, 2, 3, 4]
   (Nat.zero_le _) (by simp [Ptr, I, gdL]) (by simp [gdC, zD1, iC, coiv, lp]) (by simp) (by simp) (by simp) ?_
  intro k hk
  simp [Ptr, I, ld, e44, e46, gdC, lp, pT, pD, pG]
  refine alt (fun hlt => ?_) (fun hlt => ?_)
  ·have hln : k < d.i1.length := by omega
   obtain ⟨c, hcc⟩ : ∃ c, d.i1[k]? = some c := ⟨d.i1[k], by simp [hln]⟩
   have hge : (coiv d.i1)[k]'(by simp [hln]) = coiF c := gE (coiv_get hcc)
   have hco := hi1 c (List.mgE hcc)
   have hfl := coiF_len hco.1
   have hcl := coiC_len hco.1
   have t33 := coi_33 hco.1
   have cam := idx_of (coi_am hco.1) (by omega)
   have cam' : (coiF c)[33]'(by omega) = iF c.am := by
    have e := coi_am hco.1
    rw [← coiF_fz, List.getElem?_map, List.getElem?_eq_getElem (by omega)] at e
    simpa [iC, iF] using e
   have w4 : IntKind.i64.wrap ((k : Int) + 1) = ((k + 1 : Nat) : Int) := wrap_i64 (by omega) (by omega)
   have hT : coiv (d.i1.take (k + 1)) = coiv (d.i1.take k) ++ [coiF c] := by rw [List.take_add_one, hcc]; simp [coiv]
   have hTl : (d.i1.take k).length = k := by simp; omega
   simp [ld, e44, e46, hln, hge, hfl, hcl, coiF_fz, t33, cam, cam', iC, iF, w4, hTl, lp, pT, pD, pG, hco.1, tk33x hco.1, z33c, dr34x hco.1, frzAll_hc, -Int.natCast_add]
   refine ⟨⟨by omega, by omega⟩, ?_⟩
   exact round (k + 1) [0, 1, 2, 3, 485] (by omega) (by omega) (by simp [I, Ptr, -Int.natCast_add]) (by simp [hT, gdC, zD1, iC, coiF, iF]) (by simp) (by simp) (by simp)
  ·have hil : k = d.i1.length := by omega
   subst hil
   simp [ld, e44, e46, gdC, lp, pT, pD, pG, List.tkL]
   refine call0 (giveO_ok d.o1 ho1 so1 v1) (by simp [iC]) ?_
   rintro y H' ⟨rfl, rfl⟩
   refine ⟨.inl (by simp [TXv, txC, iC]), le_ok rfl, ?_⟩
   simp [TXv, txC, iC, ld, e44, e46, gdC, lp, pT, pD, pG]
   exact round 2 [0, 1, 2, 3, 4] (by omega) (by omega) (by simp [Ptr, I, gdL, show IntKind.i64.wrap 2 = 2 from rfl]) (by simp [gdL, gdC, zD1, iC]) (by simp [gdL]) (by simp) (by simp [gdL])
 | 2, _ =>
  have gl : ∀ a b c e, (gdC d a b c e).length = 49 := by intro a b c e; simp [gdC, lp]
  have gt : ∀ a b c e, List.take 49 (gdC d a b c e) = gdC d a b c e := fun a b c e => List.tkL (by rw [gl]; omega)
  have z1 : zD1.length = 49 := rfl
  have z2 : List.drop 49 zD1 = [] := rfl
  simp [Ptr, I, gdL, gl, gt, z1, z2]
  refine finW _ (weak_frz (o := 3) (ty := 102) (es := 34) (xs := coiv d.i0) rfl) ?_
  refine finW _ (weak_frz (o := 4) (ty := 102) (es := 34) (xs := coiv d.i1) rfl) ?_
  have f2 := (fzL_prm d.p).all.fz
  refine fin [] (v := DV d) (y := DV d) (by decide) ?_ ?_ rfl ⟨rfl, rfl⟩
  ·simp [resV, evT, DV, gdC, deaC, staC, deaT, bC, iC, lp, pT, pD, pG, f2, List.tkL]
  ·simp [conR, conT, DV]
end Go.Proofs.YtddcceahaigodaaGreatDoor
