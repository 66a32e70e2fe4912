import Derived.Test.YtpohjnhlhfbnaaaDoorEnc1
namespace Go.Proofs.YtpohjnhlhfbnaaaDoor
open Go Go.EW
set_option linter.unusedSimpArgs false

@[simp] def l_New_1 (_ : Unit) : List EOp := [⟨0, (some 0), none, (.q (.mov (.k (.pointer none)))), []⟩]
@[simp] def b_New_2 (_ : Unit) : EB := reg0 (hid l_New_1) 1
@[simp] def l_New_3 (_ : Unit) : List EOp := [⟨0, (some 1), none, (.q (.alloc 139 [(.slice none 0 0)])), []⟩, ⟨1, (some 0), none, (.q (.mov (.t 1))), []⟩]
@[simp] def b_New_4 (_ : Unit) : EB := reg0 (hid l_New_3) 2
@[simp] def b_New_5 (_ : Unit) : EB := .seq (hid b_New_4) .ret
@[simp] def b_New_6 (_ : Unit) : EB := .seq (hid b_New_2) (hid b_New_5)
def c_New : EB × List QOp × Nat := ((hid b_New_6), [(.mov (.t 0))], 2)
theorem k_New : cfun Tryd.prog 55 = some c_New := by kernel_rfl

@[simp] def l_WUint_1 (_ : Unit) : List EOp := [⟨0, (some 4), none, (.q (.mov (.k (.pointer none)))), []⟩]
@[simp] def b_WUint_2 (_ : Unit) : EB := reg0 (hid l_WUint_1) 1
@[simp] def l_WUint_3 (_ : Unit) : List EOp := [⟨0, (some 5), none, (.q (.mov (.t 0))), []⟩, ⟨1, (some 6), none, (.q (.eqp true (.t 5))), []⟩]
@[simp] def b_WUint_4 (_ : Unit) : EB := reg0 (hid l_WUint_3) 2
@[simp] def l_WUint_7 (_ : Unit) : List EOp := [⟨12, (some 19), none, (.q (.nilc (.t 7))), []⟩, ⟨13, (some 20), none, (.q (.fad 0 (.t 19))), []⟩, ⟨14, none, none, (.fz (.sto 1 (.t 20) (.t 18))), []⟩]
@[simp] def l_WUint_6 (_ : Unit) : List EOp := ⟨10, (some 17), none, (.q (.mov (.t 1))), []⟩ :: ⟨6, (some 13), none, (.call 93 [(.t 12)]), [0, 1, 2, 3, 4, 10]⟩ :: ⟨7, (some 14), none, (.q (.cnv .u8 (.t 13))), []⟩ :: ⟨8, (some 15), none, (.q (.bsl 1 [(.int .u8 0)] 1 [(0, (.t 14))])), []⟩ :: ⟨9, (some 16), none, (.app 5 1 1 (.t 11) (.t 15)), [0, 10]⟩ :: ⟨11, (some 18), none, (.call 92 [(.t 16), (.t 17), (.k (.int .u8 0))]), [0]⟩ :: hid l_WUint_7
@[simp] def l_WUint_5 (_ : Unit) : List EOp := ⟨0, (some 7), none, (.q (.mov (.t 0))), []⟩ :: ⟨1, (some 8), none, (.q (.mov (.t 0))), []⟩ :: ⟨2, (some 9), none, (.q (.nilc (.t 8))), []⟩ :: ⟨3, (some 10), none, (.q (.fad 0 (.t 9))), []⟩ :: ⟨4, (some 11), none, (.q (.ldc (.t 10))), []⟩ :: ⟨5, (some 12), none, (.q (.mov (.t 1))), []⟩ :: hid l_WUint_6
@[simp] def b_WUint_8 (_ : Unit) : EB := reg1 (hid l_WUint_5) 15
@[simp] def b_WUint_9 (_ : Unit) : EB := .cond (.t 6) (hid b_WUint_8) .skip
@[simp] def b_WUint_10 (_ : Unit) : EB := .seq (hid b_WUint_4) (hid b_WUint_9)
@[simp] def l_WUint_11 (_ : Unit) : List EOp := [⟨0, (some 21), none, (.q (.mov (.t 0))), []⟩, ⟨1, (some 4), none, (.q (.mov (.t 21))), []⟩]
@[simp] def b_WUint_12 (_ : Unit) : EB := reg0 (hid l_WUint_11) 2
@[simp] def b_WUint_13 (_ : Unit) : EB := .seq (hid b_WUint_12) .ret
@[simp] def b_WUint_14 (_ : Unit) : EB := .seq (hid b_WUint_10) (hid b_WUint_13)
@[simp] def b_WUint_15 (_ : Unit) : EB := .seq (hid b_WUint_2) (hid b_WUint_14)
def c_WUint : EB × List QOp × Nat := ((hid b_WUint_15), [(.mov (.t 4))], 22)
theorem k_WUint : cfun Tryd.prog 57 = some c_WUint := by kernel_rfl

@[simp] def l_WHash_1 (_ : Unit) : List EOp := [⟨0, (some 3), none, (.q (.box 52 (.t 1))), []⟩, ⟨1, (some 4), none, (.q (.mov (.k (.pointer none)))), []⟩]
@[simp] def b_WHash_2 (_ : Unit) : EB := reg0 (hid l_WHash_1) 2
@[simp] def l_WHash_3 (_ : Unit) : List EOp := [⟨0, (some 5), none, (.q (.mov (.t 0))), []⟩, ⟨1, (some 6), none, (.q (.eqp true (.t 5))), []⟩]
@[simp] def b_WHash_4 (_ : Unit) : EB := reg0 (hid l_WHash_3) 2
@[simp] def l_WHash_6 (_ : Unit) : List EOp := [⟨6, (some 13), none, (.app 5 1 1 (.t 11) (.t 12)), [0]⟩, ⟨7, (some 14), none, (.q (.nilc (.t 7))), []⟩, ⟨8, (some 15), none, (.q (.fad 0 (.t 14))), []⟩, ⟨9, none, none, (.fz (.sto 1 (.t 15) (.t 13))), []⟩]
@[simp] def l_WHash_5 (_ : Unit) : List EOp := ⟨0, (some 7), none, (.q (.mov (.t 0))), []⟩ :: ⟨1, (some 8), none, (.q (.mov (.t 0))), []⟩ :: ⟨2, (some 9), none, (.q (.nilc (.t 8))), []⟩ :: ⟨3, (some 10), none, (.q (.fad 0 (.t 9))), []⟩ :: ⟨4, (some 11), none, (.q (.ldc (.t 10))), []⟩ :: ⟨5, (some 12), none, (.q (.sar 32 (.t 3) none none)), []⟩ :: hid l_WHash_6
@[simp] def b_WHash_7 (_ : Unit) : EB := reg1 (hid l_WHash_5) 10
@[simp] def b_WHash_8 (_ : Unit) : EB := .cond (.t 6) (hid b_WHash_7) .skip
@[simp] def b_WHash_9 (_ : Unit) : EB := .seq (hid b_WHash_4) (hid b_WHash_8)
@[simp] def l_WHash_10 (_ : Unit) : List EOp := [⟨0, (some 16), none, (.q (.mov (.t 0))), []⟩, ⟨1, (some 4), none, (.q (.mov (.t 16))), []⟩]
@[simp] def b_WHash_11 (_ : Unit) : EB := reg0 (hid l_WHash_10) 2
@[simp] def b_WHash_12 (_ : Unit) : EB := .seq (hid b_WHash_11) .ret
@[simp] def b_WHash_13 (_ : Unit) : EB := .seq (hid b_WHash_9) (hid b_WHash_12)
@[simp] def b_WHash_14 (_ : Unit) : EB := .seq (hid b_WHash_2) (hid b_WHash_13)
def c_WHash : EB × List QOp × Nat := ((hid b_WHash_14), [(.mov (.t 4))], 17)
theorem k_WHash : cfun Tryd.prog 58 = some c_WHash := by kernel_rfl

@[simp] def l_WDone_1 (_ : Unit) : List EOp := [⟨0, (some 2), none, (.q (.mov (.k (.slice none 0 0)))), []⟩]
@[simp] def b_WDone_2 (_ : Unit) : EB := reg0 (hid l_WDone_1) 1
@[simp] def l_WDone_3 (_ : Unit) : List EOp := [⟨0, (some 3), none, (.q (.mov (.t 0))), []⟩, ⟨1, (some 4), none, (.q (.eqp false (.t 3))), []⟩]
@[simp] def b_WDone_4 (_ : Unit) : EB := reg0 (hid l_WDone_3) 2
@[simp] def l_WDone_5 (_ : Unit) : List EOp := [⟨0, (some 2), none, (.q (.mov (.k (.slice none 0 0)))), []⟩]
@[simp] def b_WDone_6 (_ : Unit) : EB := reg0 (hid l_WDone_5) 1
@[simp] def b_WDone_7 (_ : Unit) : EB := .seq (hid b_WDone_6) .ret
@[simp] def b_WDone_8 (_ : Unit) : EB := .cond (.t 4) (hid b_WDone_7) .skip
@[simp] def b_WDone_9 (_ : Unit) : EB := .seq (hid b_WDone_4) (hid b_WDone_8)
@[simp] def l_WDone_10 (_ : Unit) : List EOp := [⟨0, (some 5), none, (.q (.mov (.t 0))), []⟩, ⟨1, (some 6), none, (.q (.nilc (.t 5))), []⟩, ⟨2, (some 7), none, (.q (.fad 0 (.t 6))), []⟩, ⟨3, (some 8), none, (.q (.ldc (.t 7))), []⟩, ⟨4, (some 9), none, (.call 94 [(.t 8)]), []⟩, ⟨5, (some 2), none, (.q (.mov (.t 9))), []⟩]
@[simp] def b_WDone_11 (_ : Unit) : EB := reg0 (hid l_WDone_10) 6
@[simp] def b_WDone_12 (_ : Unit) : EB := .seq (hid b_WDone_11) .ret
@[simp] def b_WDone_13 (_ : Unit) : EB := .seq (hid b_WDone_9) (hid b_WDone_12)
@[simp] def b_WDone_14 (_ : Unit) : EB := .seq (hid b_WDone_2) (hid b_WDone_13)
def c_WDone : EB × List QOp × Nat := ((hid b_WDone_14), [(.mov (.t 2))], 10)
theorem k_WDone : cfun Tryd.prog 59 = some c_WDone := by kernel_rfl

@[simp] def l_CloneB_1 (_ : Unit) : List EOp := [⟨0, (some 2), none, (.q (.mov (.k (.slice none 0 0)))), []⟩]
@[simp] def b_CloneB_2 (_ : Unit) : EB := reg0 (hid l_CloneB_1) 1
@[simp] def l_CloneB_3 (_ : Unit) : List EOp := [⟨0, (some 3), none, (.q (.mov (.t 0))), []⟩, ⟨1, (some 4), none, (.nild false (.t 3)), []⟩]
@[simp] def b_CloneB_4 (_ : Unit) : EB := reg0 (hid l_CloneB_3) 2
@[simp] def l_CloneB_5 (_ : Unit) : List EOp := [⟨0, (some 2), none, (.q (.mov (.k (.slice none 0 0)))), []⟩]
@[simp] def b_CloneB_6 (_ : Unit) : EB := reg0 (hid l_CloneB_5) 1
@[simp] def b_CloneB_7 (_ : Unit) : EB := .seq (hid b_CloneB_6) .ret
@[simp] def b_CloneB_8 (_ : Unit) : EB := .cond (.t 4) (hid b_CloneB_7) .skip
@[simp] def b_CloneB_9 (_ : Unit) : EB := .seq (hid b_CloneB_4) (hid b_CloneB_8)
@[simp] def l_CloneB_10 (_ : Unit) : List EOp := [⟨0, (some 5), none, (.q (.bsr 5 1 [(.int .u8 0)] 0 [])), []⟩, ⟨1, (some 6), none, (.q (.mov (.t 0))), []⟩, ⟨2, (some 7), none, (.app 5 1 1 (.t 5) (.t 6)), []⟩, ⟨3, (some 2), none, (.q (.mov (.t 7))), []⟩]
@[simp] def b_CloneB_11 (_ : Unit) : EB := reg0 (hid l_CloneB_10) 4
@[simp] def b_CloneB_12 (_ : Unit) : EB := .seq (hid b_CloneB_11) .ret
@[simp] def b_CloneB_13 (_ : Unit) : EB := .seq (hid b_CloneB_9) (hid b_CloneB_12)
@[simp] def b_CloneB_14 (_ : Unit) : EB := .seq (hid b_CloneB_2) (hid b_CloneB_13)
def c_CloneB : EB × List QOp × Nat := ((hid b_CloneB_14), [(.mov (.t 2))], 8)
theorem k_CloneB : cfun Tryd.prog 94 = some c_CloneB := by kernel_rfl


def Ptr (o : Nat) : EV := .v (.c (.ptr o 0))
def NP : EV := .v (.c (.fz (.lit (.pointer none))))
/-- A writer, and its line. -/
def WO (r : Nat) (l : List UInt8) : EO := .box 139 [.row r l.length]
def uintB (n : Nat) : List UInt8 := b8 (nb n) :: dg n

theorem xor0 (l : List UInt8) : l.map (· ^^^ 0) = l := by
  induction l with
  | nil => rfl
  | cons x r ih => rw [List.map_cons, ih]; simp

theorem New_ok : ECalls Tryd.prog 55 [] [] fun y H' => H' = [some (WO 1 []), some (RO [])] ∧ y = Ptr 0 := by
  refine ecalls k_New ?_
  simp [c_New]
  refine finW _ (weak_nil (o := 16) (k := 0) (ty := 5) (es := 1) rfl rfl (by omega)) ?_
  exact fin [16, 48] (by simp) rfl rfl rfl ⟨rfl, rfl⟩

theorem clone_ok (l : List UInt8) (hl : l.length ≤ 1000000000) : ECalls Tryd.prog 94 [Bs l] [] fun y H' => H' = [some (RO l)] ∧ y = R 0 l := by
  refine ecalls k_CloneB ?_
  simp [c_CloneB, Bs]
  refine both (fun h => ?_) (fun _ => ?_)
  · simp
    refine finW _ (weak_nilR 2 5 1 rfl (by omega)) ?_
    exact fin [64] (by decide) rfl rfl rfl ⟨by rw [h]; rfl, by rw [h]; rfl⟩
  · simp
    exact ⟨by omega, fin [80] (by decide) rfl rfl rfl ⟨rfl, rfl⟩⟩

set_option maxHeartbeats 1000000 in
theorem WUint_ok (bs : List UInt8) (n : Nat) (h : n < 18446744073709551616) (hb : bs.length ≤ 900000000) :
    ECalls Tryd.prog 57 [Ptr 0, I .u64 n] [WO 1 bs, RO bs] fun y H' => H' = [some (WO 2 (bs ++ uintB n)), none, some (RO (bs ++ uintB n))] ∧ y = Ptr 0 := by
  have h8 := nb_8 h
  refine ecalls k_WUint ?_
  simp [c_WUint, I, Ptr, WO, RO]
  refine call0 (width_ok n h) rfl ?_
  rintro y H' ⟨rfl, rfl⟩
  simp (disch := omega) [I, wrap_u8_nat, Wok]
  refine ⟨by omega, callH [194] (high_ok (bs ++ [b8 (nb n)]) n 0 h (by simp; omega)) (by simp [R, I]) (by simp [RO, bsv, cb]) (by simp) (by simp) (by simp [Wok]) ?_⟩
  rintro y H' ⟨rfl, rfl⟩
  refine ⟨.inl rfl, le_ok rfl, ?_⟩
  simp [R, xor0]
  exact fin [226] (by decide) rfl rfl rfl ⟨by simp [RO, uintB], rfl⟩

theorem WUint_nil (n : Nat) : ECalls Tryd.prog 57 [NP, I .u64 n] [] fun y H' => H' = [] ∧ y = NP := by
  refine ecalls k_WUint ?_
  simp [c_WUint, I, NP]
  exact fin [] (by simp) rfl rfl rfl ⟨rfl, rfl⟩

def intB (n : Int) : List UInt8 := if n < 0 then b8 (127 - nb (-n - 1).toNat) :: (dg (-n - 1).toNat).map (· ^^^ 255) else b8 (128 + nb n.toNat) :: dg n.toNat

def stuffB (l : List UInt8) : List UInt8 := l.flatMap fun c => if c = 0 then [0, 255] else [c]
def bytesB (l : List UInt8) : List UInt8 := stuffB l ++ [0, 0]
theorem stuff_len (l : List UInt8) : (stuffB l).length ≤ 2 * l.length := by
  induction l with
  | nil => simp [stuffB]
  | cons x r ih =>
    have : (stuffB (x :: r)).length = (if x = 0 then [0, 255] else [x] : List UInt8).length + (stuffB r).length := by simp [stuffB]
    rw [this]
    split <;> simp <;> omega
theorem stuff_snoc (l : List UInt8) (c : UInt8) : stuffB (l ++ [c]) = stuffB l ++ (if c = 0 then [0, 255] else [c]) := by simp [stuffB]
theorem take_snoc {l : List UInt8} {i : Nat} {c : UInt8} (h : l[i]? = some c) : l.take (i + 1) = l.take i ++ [c] := by
  rw [List.take_add_one, h]; rfl

theorem WHash_nil (h : List UInt8) : ECalls Tryd.prog 58 [NP, Ag h] [] fun y H' => H' = [] ∧ y = NP := by
  refine ecalls k_WHash ?_
  simp [c_WHash, NP, Ag]
  exact fin [] (by simp) rfl rfl rfl ⟨rfl, rfl⟩

set_option maxHeartbeats 1000000 in
theorem WHash_ok (bs h : List UInt8) (hb : bs.length ≤ 900000000) (hl : h.length = 32) :
    ECalls Tryd.prog 58 [Ptr 0, Ag h] [WO 1 bs, RO bs] fun y H' => H' = [some (WO 2 (bs ++ h)), none, some (RO (bs ++ h))] ∧ y = Ptr 0 := by
  refine ecalls k_WHash ?_
  have ht : h.take 32 = h := List.take_of_length_le (by omega)
  simp [c_WHash, Ptr, WO, RO, Ag, ht]
  exact ⟨by omega, by omega, fin [162] (by decide) rfl rfl rfl ⟨by simp, rfl⟩⟩

theorem WDone_ok (bs : List UInt8) (hb : bs.length ≤ 1000000000) : ECalls Tryd.prog 59 [Ptr 0] [WO 1 bs, RO bs] fun y H' => H' = [some (WO 1 bs), some (RO bs), some (RO bs)] ∧ y = R 2 bs := by
  refine ecalls k_WDone ?_
  simp [c_WDone, Ptr, WO, RO]
  refine call0 (clone_ok bs hb) (by simp [Bs]) ?_
  rintro y H' ⟨rfl, rfl⟩
  refine ⟨.inr ⟨rfl, by simp [RO, noSlO, bsv, cb]⟩, le_ok rfl, ?_⟩
  simp [R, RO]
  exact fin [114] (by decide) rfl rfl rfl ⟨rfl, rfl⟩

theorem WDone_nil : ECalls Tryd.prog 59 [NP] [] fun y H' => H' = [] ∧ y = .v (.c (.fz (.lit (.slice none 0 0)))) := by
  refine ecalls k_WDone ?_
  simp [c_WDone, NP]
  exact fin [] (by simp) rfl rfl rfl ⟨rfl, rfl⟩

end Go.Proofs.YtpohjnhlhfbnaaaDoor
