import Derived.Test.YtddcceahaigodaaGreatDoorAll20
import Derived.Test.YtddcceahaigodaaGreatDoorAll12
import Derived.Test.YtddcceahaigodaaGreatDoorAll19
set_option maxHeartbeats 64000000
namespace Go.Proofs.YtddcceahaigodaaGreatDoor
open Go Go.EW
set_option linter.unusedSimpArgs false
set_option linter.unusedVariables false
def zU64 : List Value := List.replicate 64 (.int .u8 0)
def Z64 : List UInt8 := List.replicate 64 0
@[simp] theorem zU64_litc : zU64.map litc = hc Z64 := rfl
@[simp] theorem zU64_litc' : List.map (fun v => EC.fz (FV.lit v)) zU64 = hc Z64 := rfl
@[simp] theorem Z64_len : Z64.length = 64 := rfl
def yl14b : UL | _ => [xb 6 13 .add 10 12, xQ 7 14 (.nilc (.t 7)), xF 8 15 10 14, xN 9 (.sto 1 (.t 15) (.t 13))]
def yl14c : UL | _ => xM 0 7 0 :: xQ 1 8 (.nilc (.t 7)) :: xF 2 9 10 8 :: xL 3 10 9 :: xM 4 11 1 :: xE 5 12 11 :: hid yl14b
def yl14e : UL | _ => [xM 0 19 0, xQ 1 20 (.nilc (.t 19)), xF 2 21 8 20, xL 3 22 21, xE 4 23 22, xc 5 24 .eql 23 64]
def yl14f : UL | _ => [xF 6 31 9 30, xN 7 (.sto 1 (.t 31) (.t 29))]
def yl14g : UL | _ => xM 0 25 0 :: xQ 1 26 (.nilc (.t 25)) :: xF 2 27 9 26 :: xL 3 28 27 :: xQ 4 29 (.bin .add (.t 28) (.k (.int .u64 64))) :: xQ 5 30 (.nilc (.t 25)) :: hid yl14f
def yl14h : UL | _ => [xL 12 44 43, xO 13 45 (.call 157 [.t 34, .t 40, .t 44, (.k (.bool false))])]
def yl14i : UL | _ => xL 6 38 37 :: xQ 7 39 (.s2a 64 1 (.t 38)) :: xD 8 40 64 39 :: xM 9 41 0 :: xQ 10 42 (.nilc (.t 41)) :: xF 11 43 9 42 :: hid yl14h
def yl14j : UL | _ => xM 0 32 0 :: xQ 1 33 (.nilc (.t 32)) :: xF 2 34 0 33 :: xM 3 35 0 :: xQ 4 36 (.nilc (.t 35)) :: xF 5 37 8 36 :: hid yl14i
def yl14k : UL | _ => [xQ 6 52 (.nilc (.t 46)), xF 7 53 8 52, xN 8 (.fz (.sto 1 (.t 53) (.t 51)))]
def yl14l : UL | _ => xM 0 46 0 :: xM 1 47 0 :: xQ 2 48 (.nilc (.t 47)) :: xF 3 49 8 48 :: xL 4 50 49 :: xQ 5 51 (.ssl 1 (.t 50) none (some (xK 0))) :: hid yl14k
def yl14o : UL | _ => [xE 6 60 59, xQ 7 61 (.bin .sub (xK 64) (.t 60)), xQ 8 62 (.minmax false [.t 55, .t 61]), xM 9 4 62]
def yl14p : UL | _ => xM 0 54 1 :: xE 1 55 54 :: xM 2 56 0 :: xQ 3 57 (.nilc (.t 56)) :: xF 4 58 8 57 :: xL 5 59 58 :: hid yl14o
def yl14q : UL | _ => [xM 6 69 4, xQ 7 70 (.ssl 1 (.t 68) none (some (.t 69))), ⟨8, (some 71), none, (.app 5 1 1 (.t 67) (.t 70)), [0]⟩, xQ 9 72 (.nilc (.t 63)), xF 10 73 8 72, xN 11 (.fz (.sto 1 (.t 73) (.t 71)))]
def yl14r : UL | _ => xM 0 63 0 :: xM 1 64 0 :: xQ 2 65 (.nilc (.t 64)) :: xF 3 66 8 65 :: xL 4 67 66 :: xM 5 68 1 :: hid yl14q
def yl14s : UL | _ => [xM 0 74 1, xM 1 75 4, xQ 2 76 (.ssl 1 (.t 74) (some (.t 75)) none), xM 3 1 76]
def yb14t : UB | _ => .seq (reg0 (hid yl14p) 10) (.seq (reg1 (hid yl14r) 12) (reg0 (hid yl14s) 4))
def yb14u : UB | _ => .seq (.seq (reg0 [xM 0 16 1, xE 1 17 16, xc 2 18 .gtr 17 0] 3) (.cond (.t 18) .skip (.exit 0))) (.block 1 (.seq (.seq (reg0 (hid yl14e) 6) (.cond (.t 24) (.seq (reg0 (hid yl14g) 8) (.seq (reg0 (hid yl14j) 14) (reg0 (hid yl14l) 9))) .skip)) (hid yb14t)))
def yb14v : UB | _ => .seq (.seq (reg0 [xM 0 5 0, xQ 1 6 (.eqp false (.t 5))] 2) (.cond (.t 6) .ret .skip)) (.seq (reg0 (hid yl14c) 10) (.block 0 (.loop (hid yb14u))))
attribute [simp] yl14b yl14c yl14e yl14f yl14g yl14h yl14i yl14j yl14k yl14l yl14o yl14p yl14q yl14r yl14s yb14t yb14u yb14v
def c_BWrite : EB × List QOp × Nat := ((hid yb14v), [], 77)
theorem k_BWrite : cfun Tryz.prog 109 = some c_BWrite := by kernel_rfl
def yl152 : UL | _ => [xQ 0 10 (.sar 64 (.t 4) none none), xM 1 11 0, xQ 2 12 (.nilc (.t 11)), xF 3 13 8 12, xL 4 14 13, xO 5 15 (.cpy 1 (.t 10) (.t 14))]
def yl153 : UL | _ => [xM 0 16 0, xQ 1 17 (.nilc (.t 16)), xF 2 18 0 17, xD 3 19 8 18, xQ 4 5 (.alloc 228 [(.int .u32 0), (.int .u32 0), (.int .u32 0), (.int .u32 0), (.int .u32 0), (.int .u32 0), (.int .u32 0), (.int .u32 0)]), xN 5 (.sto 8 (.t 5) (.t 19))]
def yl154 : UL | _ => [xO 12 32 (.call 157 [.t 5, .t 20, .t 31, (.k (.bool true))])]
def yl155 : UL | _ => xQ 6 26 (.nilc (.t 25)) :: xF 7 27 8 26 :: xL 8 28 27 :: xE 9 29 28 :: xQ 10 30 (.cnv .u64 (.t 29)) :: xb 11 31 .add 24 30 :: hid yl154
def yl156 : UL | _ => xD 0 20 64 4 :: xM 1 21 0 :: xQ 2 22 (.nilc (.t 21)) :: xF 3 23 9 22 :: xL 4 24 23 :: xM 5 25 0 :: hid yl155
def yl15a : UL | _ => [xc 6 42 .rem 41 4, xQ 7 43 (.bin .mul (xK 8) (.t 42)), xb 8 44 .shr 40 43, xQ 9 45 (.cnv .u8 (.t 44)), xQ 10 46 (.iad 32 1 (.t 3) (.t 36)), xN 11 (.sto 1 (.t 46) (.t 45))]
def yl15b : UL | _ => xM 0 36 6 :: xM 1 37 6 :: xc 2 38 .quo 37 4 :: xQ 3 39 (.iad 8 1 (.t 5) (.t 38)) :: xL 4 40 39 :: xM 5 41 6 :: hid yl15a
def yb15e : UB | _ => .seq (reg0 [xc 0 34 .lss 33 32] 1) (.seq (.cond (.t 34) .skip (.exit 0)) (.seq (.block 1 (.seq (reg0 [xM 0 35 33, xM 1 6 35] 2) (reg0 (hid yl15b) 12))) (reg0 [xc 0 47 .add 33 1, xM 1 33 47] 2)))
def yb15g : UB | _ => .seq (.seq (reg0 [xC 0 33 0] 1) (.block 0 (.loop (hid yb15e)))) (.seq (reg0 [xD 0 48 32 3, xN 1 (.sto 32 (.t 2) (.t 48))] 2) .ret)
def yb15h : UB | _ => .seq (reg0 (hid yl153) 6) (.seq (reg0 (hid yl156) 13) (hid yb15g))
def yb15i : UB | _ => .seq (reg0 [xQ 0 4 (.alloc 285 zU64)] 1) (.seq (reg0 (hid yl152) 6) (hid yb15h))
def yb15j : UB | _ => .seq (reg0 [xQ 0 2 (.alloc 23 zU8)] 1) (.seq (reg0 [xQ 0 3 (.alloc 23 zU8)] 1) (.seq (.seq (reg0 [xM 0 7 0, xQ 1 8 (.eqp false (.t 7))] 2) (.cond (.t 8) (.seq (reg0 [xD 0 9 32 3, xN 1 (.sto 32 (.t 2) (.t 9))] 2) .ret) .skip)) (hid yb15i)))
attribute [simp] yl152 yl153 yl154 yl155 yl156 yl15a yl15b yb15e yb15g yb15h yb15i yb15j
def c_BSumM : EB × List QOp × Nat := ((hid yb15j), [(.lda 32 (.t 2))], 49)
theorem k_BSumM : cfun Tryz.prog 110 = some c_BSumM := by kernel_rfl
def yl15l : UL | _ => [xO 0 4 (.call 108 []), xQ 1 5 (.build [(.int .u32 0), (.int .u32 0), (.int .u32 0), (.int .u32 0), (.int .u32 0), (.int .u32 0), (.int .u32 0), (.int .u32 0), xS, (.int .u64 0), xZ] [(0, 8, .t 4)]), xW 2 6 231 5, xM 3 3 6]
def yl15m : UL | _ => [xQ 6 13 (.nilc (.t 7)), xF 7 14 0 13, xQ 8 15 (.iad 8 1 (.t 14) (xK 0)), xN 9 (.sto 1 (.t 15) (.t 12))]
def yl15n : UL | _ => xM 0 7 3 :: xQ 1 8 (.nilc (.t 7)) :: xF 2 9 0 8 :: xQ 3 10 (.iad 8 1 (.t 9) (xK 0)) :: xL 4 11 10 :: xQ 5 12 (.bin .xor (.t 11) (.k (.int .u32 16842784))) :: hid yl15m
def yl15p : UL | _ => [xM 0 19 3, xO 1 20 (.call 110 [.t 19]), xN 2 (.sto 32 (.t 2) (.t 20))]
def yb15r : UB | _ => .seq (reg0 [xQ 0 2 (.alloc 23 zU8)] 1) (.seq (reg0 (hid yl15l) 4) (.seq (reg0 (hid yl15n) 10) (.seq (reg0 [xM 0 16 3, xM 1 17 0, xO 2 18 (.call 109 [.t 16, .t 17])] 3) (.seq (reg0 (hid yl15p) 3) .ret))))
attribute [simp] yl15l yl15m yl15n yl15p yb15r
def c_BSum : EB × List QOp × Nat := ((hid yb15r), [(.lda 32 (.t 2))], 21)
theorem k_BSum : cfun Tryz.prog 61 = some c_BSum := by kernel_rfl
abbrev Wst := List UInt32 × List UInt8 × Nat × List UInt8
def wst1 (s : Wst) : Wst := if s.2.1.length = 64 then (takeS s.1 s.2.1 (s.2.2.1 + 64) false, [], s.2.2.1 + 64, s.2.2.2) else s
def wst2 (s : Wst) : Wst := (s.1, s.2.1 ++ s.2.2.2.take (min s.2.2.2.length (64 - s.2.1.length)), s.2.2.1, s.2.2.2.drop (min s.2.2.2.length (64 - s.2.1.length)))
def wstep (s : Wst) : Wst := wst2 (wst1 s)
def wrun : Nat → Wst → Wst
 | 0, s => s
 | k + 1, s => if s.2.2.2 = [] then s else wrun k (wstep s)
def wall (s : Wst) : Wst := wrun s.2.2.2.length s
theorem takeS_len (h : List UInt32) (b : List UInt8) (t : Nat) (last : Bool) : (takeS h b t last).length = h.length := xorS_len _ _ _
structure Wok' (N : Nat) (s : Wst) : Prop where
 h : s.1.length = 8
 w : s.2.1.length ≤ 64
 n : s.2.1.length + s.2.2.1 + s.2.2.2.length = N
theorem wst1_ok {N : Nat} {s : Wst} (k : Wok' N s) : Wok' N (wst1 s) := by
 obtain ⟨h, w, t, r⟩ := s
 obtain ⟨k1, k2, k3⟩ := k
 unfold wst1
 dsimp only at *
 split
 ·refine ⟨?_, ?_, ?_⟩
  ·dsimp only; rw [takeS_len]; exact k1
  ·simp
  ·simp; omega
 ·exact ⟨k1, k2, k3⟩
theorem wst1_lt {N : Nat} {s : Wst} (k : Wok' N s) : (wst1 s).2.1.length < 64 ∧ (wst1 s).2.2.2 = s.2.2.2 := by
 obtain ⟨h, w, t, r⟩ := s
 obtain ⟨k1, k2, k3⟩ := k
 unfold wst1
 dsimp only at *
 split
 ·simp
 ·exact ⟨by simp only; omega, rfl⟩
theorem wst2_ok {N : Nat} {s : Wst} (k : Wok' N s) : Wok' N (wst2 s) := by
 obtain ⟨h, w, t, r⟩ := s
 obtain ⟨k1, k2, k3⟩ := k
 unfold wst2
 dsimp only at *
 refine ⟨k1, ?_, ?_⟩
 ·simp; omega
 ·simp; omega
theorem wstep_ok {N : Nat} {s : Wst} (k : Wok' N s) : Wok' N (wstep s) := wst2_ok (wst1_ok k)
theorem wstep_lt {N : Nat} {s : Wst} (k : Wok' N s) (hr : s.2.2.2 ≠ []) : (wstep s).2.2.2.length < s.2.2.2.length := by
 have h1 := wst1_lt k
 have hp := List.length_pos_iff.2 hr
 unfold wstep wst2
 dsimp only
 rw [List.length_drop, h1.2]
 omega
theorem wrun_fuel {N : Nat} : ∀ (k j : Nat) {s : Wst}, Wok' N s → s.2.2.2.length ≤ k → s.2.2.2.length ≤ j → wrun k s = wrun j s
 | 0, 0, _, _, _, _ => rfl
 | 0, j + 1, s, _, h, _ => by
  have : s.2.2.2 = [] := List.eq_nil_of_length_eq_zero (by omega)
  simp [wrun, this]
 | k + 1, 0, s, _, _, h => by
  have : s.2.2.2 = [] := List.eq_nil_of_length_eq_zero (by omega)
  simp [wrun, this]
 | k + 1, j + 1, s, o, h1, h2 => by
  unfold wrun
  by_cases e : s.2.2.2 = []
  ·simp [e]
  ·rw [if_neg e, if_neg e]
   have := wstep_lt o e
   exact wrun_fuel k j (wstep_ok o) (by omega) (by omega)
theorem wall_nil {s : Wst} (h : s.2.2.2 = []) : wall s = s := by
 unfold wall
 rw [h]
 rfl
theorem wall_step {N : Nat} {s : Wst} (o : Wok' N s) (h : s.2.2.2 ≠ []) : wall s = wall (wstep s) := by
 have hp := List.length_pos_iff.2 h
 have hl := wstep_lt o h
 unfold wall
 obtain ⟨k, hk⟩ : ∃ k, s.2.2.2.length = k + 1 := ⟨_, (Nat.succ_pred_eq_of_pos hp).symm⟩
 rw [hk]
 conv => lhs; unfold wrun
 rw [if_neg h]
 exact wrun_fuel k _ (wstep_ok o) (by omega) (Nat.le_refl _)
theorem wall_ok {N : Nat} : ∀ (k : Nat) {s : Wst}, Wok' N s → s.2.2.2.length ≤ k → Wok' N (wall s) ∧ (wall s).2.2.2 = []
 | 0, s, o, h => by
  have : s.2.2.2 = [] := List.eq_nil_of_length_eq_zero (by omega)
  rw [wall_nil this]
  exact ⟨o, this⟩
 | k + 1, s, o, h => by
  by_cases e : s.2.2.2 = []
  ·rw [wall_nil e]; exact ⟨o, e⟩
  ·rw [wall_step o e]
   have := wstep_lt o e
   exact wall_ok k (wstep_ok o) (by omega)
theorem hc_tk {l : List UInt8} {n : Nat} (h : l.length ≤ n) : (hc l).take n = hc l := List.tkL (by rw [hc_len]; exact h)
theorem u64_nat {n : Nat} (h : n < 18446744073709551616) : IntKind.u64.wrap (n : Int) = (n : Int) := by rw [wrap_u64 (by omega) (by omega)]
theorem put10 {v : List UInt32} (h : v.length = 8) (x y z u : EC) : List.take 10 (wl v ++ [x, y, z]) ++ u :: List.drop 11 (wl v ++ [x, y, z]) = wl v ++ [x, y, u] := by
 have e : (wl v).length = 8 := by simpa using h
 rw [List.take_append, List.drop_append, e, List.tkL (by omega), List.drop_of_length_le (by omega)]
 simp
theorem put9 {v : List UInt32} (h : v.length = 8) (x y z u : EC) : List.take 9 (wl v ++ [x, y, z]) ++ u :: List.drop 10 (wl v ++ [x, y, z]) = wl v ++ [x, u, z] := by
 have e : (wl v).length = 8 := by simpa using h
 rw [List.take_append, List.drop_append, e, List.tkL (by omega), List.drop_of_length_le (by omega)]
 simp
theorem put8 {v : List UInt32} (h : v.length = 8) (x y z u : EC) : List.take 8 (wl v ++ [x, y, z]) ++ u :: List.drop 9 (wl v ++ [x, y, z]) = wl v ++ [u, y, z] := by
 have e : (wl v).length = 8 := by simpa using h
 rw [List.take_append, List.drop_append, e, List.tkL (by omega), List.drop_of_length_le (by omega)]
 simp
theorem drop9 {v : List UInt32} (h : v.length = 8) (x y z : EC) : List.drop 9 (wl v ++ [x, y, z]) = [y, z] := by
 have e : (wl v).length = 8 := by simpa using h
 rw [List.drop_append, e, List.drop_of_length_le (by omega)]
 rfl
theorem bsv_0 {w : List UInt8} (h : w.length = 64) : ∃ c, ∀ h', (bsv w)[0]'h' = cb c := by
 cases w with
 | nil => simp at h
 | cons c r => exact ⟨c, fun _ => rfl⟩
theorem i64_min (a b : Nat) : (if a < b then (a : Int) else (b : Int)) = ((min b a : Nat) : Int) := by split <;> omega
set_option maxRecDepth 8000 in
theorem Write_ok (h : List UInt32) (w : List UInt8) (t n : Nat) (b : List UInt8) (o : Wok' (w.length + t + b.length) (h, w, t, b)) (hb : w.length + t + b.length ≤ 1000000000) (hn : n ≤ 1000000000) :
  ECalls Tryz.prog 109 [.v (.c (.ptr 0 0)), Bs b] [SO 1 h w.length t n, RB w] fun y H' => H' = [some (SO 2 (wall (h, w, t, b)).1 (wall (h, w, t, b)).2.1.length (wall (h, w, t, b)).2.2.1 (n + b.length)), none, some (RB (wall (h, w, t, b)).2.1)] ∧ y = .tup [] := by
 obtain ⟨A, hA⟩ : ∃ A, wall (h, w, t, b) = A := ⟨_, rfl⟩
 obtain ⟨N, hN⟩ : ∃ N, n + b.length = N := ⟨_, rfl⟩
 obtain ⟨M, hM⟩ : ∃ M, w.length + t + b.length = M := ⟨_, rfl⟩
 rw [hA, hN]
 rw [hM] at o hb
 have h8 : h.length = 8 := o.h
 have wn : IntKind.i64.wrap ((n : Int) + (b.length : Int)) = (N : Int) := by rw [wrap_i64 (by omega) (by omega)]; omega
 refine ecalls k_BWrite ?_
 simp [c_BWrite, SO, RB, Bs, NV, h8, wn]
 refine eloop (α := Wst) (fun a => Wok' M a ∧ wall a = A) (fun a => a.2.2.2.length)
  (fun a => [.v (.c (.ptr 0 0)), Bs a.2.2.2, xA, xA, xA, xA, xA, xA, xA, xA, xA, xA, xA, xA, xA, xA, xA, xA, xA, xA, xA, xA, xA, xA, xA, xA, xA, xA, xA, xA, xA, xA, xA, xA, xA, xA, xA, xA, xA, xA, xA, xA, xA, xA, xA, xA, xA, xA, xA, xA, xA, xA, xA, xA, xA, xA, xA, xA, xA, xA, xA, xA, xA, xA, xA, xA, xA, xA, xA, xA, xA, xA, xA, xA, xA, xA, .any]) (fun a => [some (SO 2 a.1 a.2.1.length a.2.2.1 N), none, some (RB a.2.1)]) (h, w, t, b) [0, 1, 1]
  ⟨o, hA⟩ (by simp [Bs]) (by simp [SO, RB, put10 h8]) (by simp) (by decide) (by simp) ?_
 clear o hA wn hn hN h8 hM
 clear h w t b n
 rintro ⟨h, w, t, b⟩ ⟨o, hA⟩
 obtain ⟨h8, hw, hs⟩ := id o
 dsimp only at h8 hw hs
 simp [SO, RB, Bs, NV, h8]
 refine alt (fun hp => ?_) (fun hp => ?_)
 ·have hne : (h, w, t, b).2.2.2 ≠ [] := by rintro e; simp at e; subst e; simp at hp
  have o2 := wstep_ok o
  have hlt := wstep_lt o hne
  have hA2 := (wall_step o hne).symm.trans hA
  simp [h8]
  refine alt (fun hl => ?_) (fun hl => ?_)
  ·have hl' : w.length = 64 := by omega
   obtain ⟨c, hc0⟩ := bsv_0 hl'
   have wt : IntKind.u64.wrap ((t : Int) + 64) = ((t + 64 : Nat) : Int) := by rw [show (t : Int) + 64 = ((t + 64 : Nat) : Int) by omega]; exact u64_nat (by omega)
   have hcl : (hc w).length = 64 := by rw [hc_len]; exact hl'
   have hct : List.take 64 (hc w) = hc w := hc_tk (by omega)
   have m64 : (if (64 : Int) < (b.length : Int) then (64 : Int) else (b.length : Int)) = ((min b.length 64 : Nat) : Int) := by split <;> omega
   obtain ⟨k, hk⟩ : ∃ k, min b.length 64 = k := ⟨_, rfl⟩
   rw [hk] at m64
   have hs1 : wstep (h, w, t, b) = (takeS h w (t + 64) false, b.take k, t + 64, b.drop k) := by simp [wstep, wst1, wst2, hl', hk]
   rw [hs1] at o2 hlt hA2
   obtain ⟨T2, hT⟩ : ∃ T2, takeS h w (t + 64) false = T2 := ⟨_, rfl⟩
   rw [hT] at o2 hlt hA2
   have h82 : T2.length = 8 := o2.h
   simp [h8, hl', hc0, cb, wt, put9 h8, hcl, hct, -Int.natCast_add]
   refine callH [0, 2] (takeB_ok (t + 64) N w h w (t + 64) false h8 hl' (by omega)) (by simp [BV]) (by simp [SO, RB, hl']) (by simp) (by simp) (by simp) ?_
   rintro y H' ⟨rfl, rfl⟩
   refine ⟨.inl (by simp), by simp, ?_⟩
   rw [hT]
   have w64 : IntKind.i64.wrap 64 = 64 := by decide +kernel
   have hkb : k ≤ b.length := by omega
   have hk2 : min k b.length = k := by omega
   simp [SO, RB, h82, hl', w64, m64, hkb, hk2, put8 h82, drop9 h82, -Int.natCast_add]
   exact ⟨by omega, round (T2, b.take k, t + 64, b.drop k) [0, 1, 931] ⟨o2, hA2⟩ hlt (by simp) (by simp [hk2]) (by simp) (by decide) (by simp)⟩
  ·have hl' : ¬ w.length = 64 := by omega
   have w64 : IntKind.i64.wrap (64 - (w.length : Int)) = ((64 - w.length : Nat) : Int) := by rw [wrap_i64 (by omega) (by omega)]; omega
   obtain ⟨k, hk⟩ : ∃ k, min b.length (64 - w.length) = k := ⟨_, rfl⟩
   have hm := i64_min (64 - w.length) b.length
   rw [hk] at hm
   have hs1 : wstep (h, w, t, b) = (h, w ++ b.take k, t, b.drop k) := by simp [wstep, wst1, wst2, hl', hk]
   rw [hs1] at o2 hlt hA2
   have hkb : k ≤ b.length := by omega
   have hk2 : min k b.length = k := by omega
   simp [h8, hl, w64, hm, hkb, hk2, put8 h8, -Int.natCast_add]
   refine ⟨by omega, ?_⟩
   exact round (h, w ++ b.take k, t, b.drop k) [0, 1, 435] ⟨o2, hA2⟩ hlt (by simp) (by simp [hk2, drop9 h8]) (by simp) (by decide) (by simp)
 ·have : b = [] := List.eq_nil_of_length_eq_zero (by omega)
  subst this
  rw [wall_nil rfl] at hA
  subst hA
  simp [SO, RB]
  exact fin [2] (by decide) rfl rfl (by simp [objsOut, show List.range 2 = [0, 1] from rfl]) ⟨rfl, rfl⟩
def padS (w : List UInt8) : List UInt8 := w ++ List.replicate (64 - w.length) 0
theorem padS_len {w : List UInt8} (h : w.length ≤ 64) : (padS w).length = 64 := by simp [padS]; omega
def outB (h : List UInt32) (i : Nat) : UInt8 := UInt8.ofNat ((g h (i / 4)).toNat / 2 ^ (8 * (i % 4)))
def outS (h : List UInt32) : List UInt8 := (List.range 32).map (outB h)
theorem outS_len (h : List UInt32) : (outS h).length = 32 := by simp [outS]
def finS (s : Wst) : List UInt8 := outS (takeS s.1 (padS s.2.1) (s.2.2.1 + s.2.1.length) true)
def oI (h : List UInt32) (i : Nat) : List UInt8 := (List.range 32).map fun j => if j < i then outB h j else 0
theorem oI_len (h : List UInt32) (i : Nat) : (oI h i).length = 32 := by simp [oI]
theorem oI_0 (h : List UInt32) : oI h 0 = hz := by unfold oI hz; rfl
theorem oI_32 (h : List UInt32) : oI h 32 = outS h := by
 unfold oI outS
 apply List.map_congr_left
 intro j hj
 simp [List.mem_range.1 hj]
theorem oI_set (h : List UInt32) {i : Nat} (hi : i < 32) : (oI h i).set i (outB h i) = oI h (i + 1) := by
 apply List.ext_getElem?
 intro j
 by_cases hj : j < 32
 ·rw [List.getElem?_set]
  by_cases he : i = j
  ·subst he
   simp [oI, hj]
  ·simp [oI, hj, he]
   by_cases h2 : j < i
   ·rw [if_pos h2, if_pos (by omega)]
   ·rw [if_neg h2, if_neg (by omega)]
 ·rw [List.getElem?_eq_none (by simp [oI]; omega), List.getElem?_eq_none (by simp [oI]; omega)]
theorem u8_shr (x : UInt32) (k : Nat) : IntKind.u8.wrap (wi (shr x k)) = ((UInt8.ofNat (x.toNat / 2 ^ k)).toNat : Int) := by
 have h1 : wi (shr x k) = ((x.toNat / 2 ^ k : Nat) : Int) := by
  unfold shr
  rw [wi_ofNat]
  have h1 : x.toNat / 2 ^ k ≤ x.toNat := Nat.div_le_self _ _
  have h2 := x.toNat_lt
  generalize x.toNat / 2 ^ k = q at *
  omega
 rw [h1]
 simp [IntKind.wrap, IntKind.bits, IntKind.signed, UInt8.toNat_ofNat']
theorem hc_put {b : List UInt8} {i : Nat} {x : UInt8} (h : i < b.length) : hc (List.take i b) ++ .fz (.lit (.int .u8 (x.toNat : Int))) :: hc (List.drop (i + 1) b) = hc (b.set i x) := by
 have e : hc (b.set i x) = (hc b).set i (.fz (.lit (.int .u8 (x.toNat : Int)))) := by simp [hc, List.map_set]
 rw [e, List.set_eq_take_append_cons_drop, if_pos (by rw [hc_len]; exact h)]
 simp [hc]
set_option maxRecDepth 8000 in
theorem SumM_ok (h : List UInt32) (w : List UInt8) (t n : Nat) (h8 : h.length = 8) (hw : w.length ≤ 64) (ht : t ≤ 1000000000) :
  ECalls Tryz.prog 110 [.v (.c (.ptr 0 0))] [SO 1 h w.length t n, RB w] fun y H' => H' = [some (SO 1 h w.length t n), some (RB w)] ∧ y = .v (.agg (hc (finS (h, w, t, [])))) := by
 have tw : List.take 64 w = w := List.tkL hw
 have mw : min 64 w.length = w.length := by omega
 have hp : hc w ++ hc (List.drop w.length Z64) = hc (padS w) := by simp [-List.reduceReplicate, hc, padS, Z64]
 have pl := padS_len hw
 have tp : List.take 64 (hc (padS w)) = hc (padS w) := hc_tk (by omega)
 have wl' : IntKind.u64.wrap (w.length : Int) = (w.length : Int) := u64_nat (by omega)
 have wt : IntKind.u64.wrap ((t : Int) + (w.length : Int)) = ((t + w.length : Nat) : Int) := by rw [show (t : Int) + (w.length : Int) = ((t + w.length : Nat) : Int) by omega]; exact u64_nat (by omega)
 refine ecalls k_BSumM ?_
 simp [c_BSumM, SO, RB, NV, h8, tw, mw, hp, tp, pl, wl', wt, -Int.natCast_add]
 refine callH [242] (btake_ok h (padS w) (t + w.length) true h8 pl (by omega)) (by simp [BV]) (by simp [HO]) (by simp) (by simp) (by simp) ?_
 rintro y H' ⟨rfl, rfl⟩
 refine ⟨.inl (by simp), by simp, ?_⟩
 have hf : finS (h, w, t, []) = outS (takeS h (padS w) (t + w.length) true) := rfl
 obtain ⟨A, hA⟩ : ∃ A, takeS h (padS w) (t + w.length) true = A := ⟨_, rfl⟩
 have a8 : A.length = 8 := by rw [← hA, takeS_len]; exact h8
 rw [hf, hA]
 simp [HO]
 refine eloop (α := Nat) (fun i => i ≤ 32) (fun i => 32 - i)
  (fun i => [.v (.c (.ptr 0 0)), xA, .v (.c (.ptr 2 0)), .v (.c (.ptr 3 0)), xA, .v (.c (.ptr 4 0)), xA, xA, xA, xA, xA, xA, xA, xA, xA, xA, xA, xA, xA, xA, xA, xA, xA, xA, xA, xA, xA, xA, xA, xA, xA, xA, xA, NV i, xA, xA, xA, xA, xA, xA, xA, xA, xA, xA, xA, xA, xA, xA, .any])
  (fun i => [some (SO 1 h w.length t n), some (RB w), some (.box 23 (hc hz)), some (.box 23 (hc (oI A i))), some (HO A)]) 0 [0, 1, 2, 18, 242]
  (by omega) (by simp [NV]) (by simp [SO, RB, HO, oI_0]) (by simp [SO, RB, HO]) (by decide) (by simp) ?_
 intro i hi
 simp [SO, RB, HO, NV]
 refine alt (fun hp => ?_) (fun hp => ?_)
 ·have il : i < 32 := by omega
  have q1 : i / 4 < 8 := by omega
  have q1' : i / 4 ≤ 7 := by omega
  have q2 : (i : Int).tdiv 4 = ((i / 4 : Nat) : Int) := rfl
  have q3 : (i : Int).tmod 4 = ((i % 4 : Nat) : Int) := rfl
  have q4 : IntKind.i64.wrap ((i / 4 : Nat) : Int) = ((i / 4 : Nat) : Int) := wrap_i64 (by omega) (by omega)
  have q5 : IntKind.i64.wrap (8 * ((i % 4 : Nat) : Int)) = ((8 * (i % 4) : Nat) : Int) := by rw [wrap_i64 (by omega) (by omega)]; omega
  have wi1 := wS (i := i) (by omega)
  obtain ⟨d, hd⟩ : ∃ d, i / 4 = d := ⟨_, rfl⟩
  obtain ⟨k, hk⟩ : ∃ k, 8 * (i % 4) = k := ⟨_, rfl⟩
  rw [hd] at q1 q1' q2 q4
  rw [hk] at q5
  have d8 : (d : Int) < 8 := by omega
  have sh := wi_shr (g A d) k (by omega)
  have ou : IntKind.u8.wrap (wi (shr (g A d) k)) = ((outB A i).toNat : Int) := by unfold outB; rw [hd, hk]; exact u8_shr _ _
  simp [q2, q3, q4, q5, wi1, q1, q1', d8, a8, wl_gE, sh, ou, oI_len, il, hc_put, -Int.natCast_add, -Int.natCast_mul, -Int.natCast_ediv, -Int.natCast_emod]
  exact ⟨by omega, by omega, round (i + 1) [0, 1, 2, 3, 4] (by omega) (by omega) (by simp [NV]) (by simp [SO, RB, HO, hc_put, oI_len, il, oI_set A il]) (by simp [SO, RB, HO]) (by decide) (by simp)⟩
 ·have h32 : i = 32 := by omega
  subst h32
  simp [oI_32, outS_len]
  exact fin [] (by decide) rfl rfl (by simp [objsOut, show List.range 2 = [0, 1] from rfl]) ⟨rfl, rfl⟩
def ini8 : List UInt32 := firstW.set 0 (g firstW 0 ^^^ 0x01010020)
def w00 (b : List UInt8) : Wst := (ini8, [], 0, b)
def sumS (b : List UInt8) : List UInt8 := finS (wall (w00 b))
theorem sumS_len (b : List UInt8) : (sumS b).length = 32 := outS_len _
theorem w00_ok (b : List UInt8) : Wok' (([] : List UInt8).length + 0 + b.length) (w00 b) := ⟨rfl, by simp [w00], by simp [w00]⟩
theorem Write0_ok (b : List UInt8) (hb : b.length ≤ 1000000000) :
  ECalls Tryz.prog 109 [.v (.c (.ptr 0 0)), Bs b] [.box 231 (wl ini8 ++ [.fz (.lit (.slice none 0 0)), .fz (.lit (.int .u64 0)), .fz (.lit (.int .i64 0))])] fun y H' => H' = [some (SO 2 (wall (w00 b)).1 (wall (w00 b)).2.1.length (wall (w00 b)).2.2.1 (0 + b.length)), none, some (RB (wall (w00 b)).2.1)] ∧ y = .tup [] :=
 ecalls_nilB 0 8 rfl rfl (by omega) (Write_ok ini8 [] 0 0 b (w00_ok b) (by simpa using hb) (by omega))
set_option maxRecDepth 8000 in
theorem BSum_ok (b : List UInt8) (hb : b.length ≤ 100000000) : ECalls Tryz.prog 61 [Bs b] [] fun y H' => H' = [] ∧ y = .v (.agg (hc (sumS b))) := by
 obtain ⟨⟨o8, ow, os⟩, oe⟩ := wall_ok b.length (w00_ok b) (Nat.le_refl _)
 have hl := hc_tk (show (sumS b).length ≤ 32 by rw [sumS_len]; omega)
 have hx : ibit .xor .u32 (wi (g firstW 0)) 16842784 = wi (g firstW 0 ^^^ 0x01010020) := wi_xor (g firstW 0) 0x01010020
 have fl : firstW.length = 8 := rfl
 have g0 : ∀ (r : List EC) h', (wl firstW ++ r)[0]'h' = .fz (.lit (.int .u32 (wi (g firstW 0)))) := fun r h' => wl_gER (by decide) h'
 have p0 : ∀ r : List EC, EC.fz (.lit (.int .u32 (wi (g firstW 0 ^^^ 0x01010020)))) :: List.drop 1 (wl firstW ++ r) = wl ini8 ++ r := fun r => wl_putR (v := firstW) (i := 0) (by decide)
 have p0' : ∀ r : List EC, EC.fz (.lit (.int .u32 (wi (g firstW 0 ^^^ 0x01010020)))) :: (wl firstW ++ r).tail = wl ini8 ++ r := fun r => by rw [← List.drop_one]; exact p0 r
 refine ecalls k_BSum ?_
 simp [c_BSum, Bs, NV]
 refine call0 first_ok (by simp) ?_
 rintro y H' ⟨rfl, rfl⟩
 refine ⟨.inl (by simp), le_ok rfl, ?_⟩
 simp [NV, fl, g0, hx, p0, p0']
 refine callH [48] (Write0_ok b (by omega)) (by simp [Bs]) (by simp) (by simp) (by simp) (by simp) ?_
 rintro y H' ⟨rfl, rfl⟩
 refine ⟨.inl (by simp), by simp, ?_⟩
 simp [NV, SO, RB]
 refine callH [48, 273] (SumM_ok (wall (w00 b)).1 (wall (w00 b)).2.1 (wall (w00 b)).2.2.1 b.length o8 ow (by simp at os; omega)) (by simp) (by simp [SO, RB]) (by simp) (by simp) (by simp) ?_
 rintro y H' ⟨rfl, rfl⟩
 refine ⟨.inl (by simp), by simp, ?_⟩
 have hs : finS ((wall (w00 b)).1, (wall (w00 b)).2.1, (wall (w00 b)).2.2.1, []) = sumS b := rfl
 simp [NV, SO, RB, hs, hl, sumS_len]
 exact fin [] (by decide) rfl rfl (by simp [objsOut]) ⟨rfl, rfl⟩
def yl15t : UL | _ => [xD 0 3 3 1, xO 1 4 (.call 62 [.t 3, (.k (.func (.func 63) #[] #[]))]), xO 2 5 (.call 61 [.t 4]), xN 3 (.sto 32 (.t 2) (.t 5))]
def yb15u : UB | _ => .seq (reg0 [xW 0 1 85 0, xQ 1 2 (.alloc 23 zU8)] 2) (.seq (reg0 (hid yl15t) 4) .ret)
attribute [simp] yl15t yb15u
def c_TxID : EB × List QOp × Nat := ((hid yb15u), [(.lda 32 (.t 2))], 6)
theorem k_TxID : cfun Tryz.prog 28 = some c_TxID := by kernel_rfl
def yb15x : UB | _ => .seq (reg0 [xW 0 1 151 0, xQ 1 2 (.mov (.k xS))] 2) (.seq (reg0 [xQ 0 2 (.mov (.k xS))] 1) .ret)
attribute [simp] yb15x
def c_TxIDc : EB × List QOp × Nat := ((hid yb15x), [(.mov (.t 2))], 3)
theorem k_TxIDc : cfun Tryz.prog 63 = some c_TxIDc := by kernel_rfl
def yl15z : UL | _ => [xD 0 5 3 2, xO 1 6 (.call 28 [.t 5]), xM 2 7 1, xQ 3 8 (.build (zU8 ++ [xZ]) [(0, 32, .t 6), (32, 1, .t 7)]), xN 4 (.sto 33 (.t 4) (.t 8))]
def yb160 : UB | _ => .seq (reg0 [xW 0 2 85 0, xQ 1 4 (.alloc 36 (zU8 ++ [xZ]))] 2) (.seq (reg0 (hid yl15z) 5) .ret)
attribute [simp] yl15z yb160
def c_TxAt : EB × List QOp × Nat := ((hid yb160), [(.lda 33 (.t 4))], 9)
theorem k_TxAt : cfun Tryz.prog 21 = some c_TxAt := by kernel_rfl
theorem TxIDc_body : bodyOK Tryz.prog 63 = true := by kernel_rfl
theorem TxIDc_ok (x : Inp) (h1 : x.tx.length = 32) (h : x.sec = []) : ECalls Tryz.prog 63 [.v (.agg (inpC x))] [] fun y H' => H' = [] ∧ y = Bs x.sec := by
 have l0 := ic_len h1
 refine ecalls k_TxIDc ?_
 simp [c_TxIDc, l0, h]
 refine finW _ (weak_nilF 2 1 rfl) ?_
 exact fin0
theorem TxID_ok (t : Txn) (ht : t.ok) (hse : ∀ x ∈ t.ins, x.sec = []) (hs : (encT t).length ≤ 100000000) : ECalls Tryz.prog 28 [TXv t] [] fun y H' => H' = [] ∧ y = .v (.agg (hc (sumS (encT t)))) := by
 have hl := sumS_len (encT t)
 refine ecalls k_TxID ?_
 simp [c_TxID, TXv, txC, iC]
 refine call0 (TPutF_ok _ t ht TxIDc_body (fun x hx => TxIDc_ok x (ht.2.1 x hx).1 (hse x hx)) (fun x hx => by rw [hse x hx]; simp) (by omega)) (by simp [TXv, txC, iC]) ?_
 rintro y H' ⟨rfl, rfl⟩
 refine ⟨.inl (by simp [Bs]), le_ok rfl, ?_⟩
 simp [Bs]
 refine call0 (BSum_ok (encT t) hs) (by simp [Bs]) ?_
 rintro y H' ⟨rfl, rfl⟩
 refine ⟨.inl (by simp), le_ok rfl, ?_⟩
 have d : List.drop 32 (hc hz) = [] := rfl
 simp [d, hl]
 exact fin0
theorem TxAt_ok (t : Txn) (i : Int) (ht : t.ok) (hse : ∀ x ∈ t.ins, x.sec = []) (hs : (encT t).length ≤ 100000000) : ECalls Tryz.prog 21 [TXv t, I .i64 i] [] fun y H' => H' = [] ∧ y = .v (.agg (hc (sumS (encT t)) ++ [iC i])) := by
 have hl := sumS_len (encT t)
 have hst : List.take 32 (sumS (encT t)) = sumS (encT t) := List.tkL (by omega)
 have d33 : ∀ a : EC, List.drop 33 (hc (sumS (encT t)) ++ [a]) = [] := fun a => by rw [List.drop_eq_nil_iff]; simp [hl]
 have d32 : List.drop 32 (hc hz) = [] := rfl
 have z33 : ∀ a : EC, List.drop 33 (hc hz ++ [a]) = [] := fun a => by rw [List.drop_eq_nil_iff]; simp [hz]
 refine ecalls k_TxAt ?_
 simp [c_TxAt, TXv, txC, I, iC]
 refine call0 (TxID_ok t ht hse hs) (by simp [TXv, txC, iC]) ?_
 rintro y H' ⟨rfl, rfl⟩
 refine ⟨.inl (by simp), le_ok rfl, ?_⟩
 simp [hl, hst, d33, d32, z33]
 exact fin0
def yl161 : UL | _ => [xW 0 1 49 0, xQ 1 2 (.alloc 42 [xZ, xZ, xZ, xS, xS]), xQ 2 3 (.mov (.k .nilIface))]
def yl166 : UL | _ => [xM 6 6 17, xM 7 7 18]
def yl167 : UL | _ => xD 0 14 49 1 :: xM 1 15 5 :: xO 2 16 (.call 17 [.t 14, .t 15]) :: xM 3 13 16 :: xX 4 17 0 13 :: xX 5 18 1 13 :: hid yl166
def yl169 : UL | _ => [xQ 0 21 (.build [xZ, xZ, xZ, xS, xS] []), xM 1 22 7, xN 2 (.fz (.sto 5 (.t 2) (.t 21))), xM 3 3 22]
def yl16b : UL | _ => [xM 0 23 5, xM 1 24 6, xQ 2 25 (.iad 2 1 (.t 4) (.t 23)), xN 3 (.sto 1 (.t 25) (.t 24))]
def yb16e : UB | _ => .seq (.block 1 (.seq (reg0 [xM 0 12 10, xM 1 5 12] 2) (.seq (reg0 (hid yl167) 8) (.seq (.seq (reg0 [xM 0 19 7, xQ 1 20 (.eqi true (.t 19))] 2) (.cond (.t 20) (.seq (reg0 (hid yl169) 4) .ret) .skip)) (reg0 (hid yl16b) 4))))) (reg0 [xc 0 26 .add 10 1, xM 1 10 26] 2)
def yl16g : UL | _ => [xQ 12 8 (.alloc 42 [xZ, xZ, xZ, xS, xS]), xN 13 (.fz (.sto 5 (.t 8) (.t 37))), xM 14 9 38]
def yl16h : UL | _ => xL 6 34 33 :: xb 7 35 .sub 31 34 :: xO 8 36 (.call 94 [.t 29, (xK 0), .t 35]) :: xM 9 27 36 :: xX 10 37 0 27 :: xX 11 38 1 27 :: hid yl16g
def yl16i : UL | _ => xF 0 28 38 1 :: xD 1 29 5 28 :: xQ 2 30 (.iad 2 1 (.t 4) (xK 0)) :: xL 3 31 30 :: xF 4 32 0 1 :: xF 5 33 37 32 :: hid yl16h
def yl16k : UL | _ => [xQ 0 41 (.build [xZ, xZ, xZ, xS, xS] []), xM 1 42 9, xN 2 (.fz (.sto 5 (.t 2) (.t 41))), xM 3 3 42]
def yl16m : UL | _ => [xX 6 49 1 43, xN 7 (.fz (.sto 5 (.t 8) (.t 48))), xM 8 9 49]
def yl16n : UL | _ => xD 0 44 5 8 :: xQ 1 45 (.iad 2 1 (.t 4) (xK 1)) :: xL 2 46 45 :: xO 3 47 (.call 94 [.t 44, (xK 1), .t 46]) :: xM 4 43 47 :: xX 5 48 0 43 :: hid yl16m
def yl16p : UL | _ => [xQ 0 52 (.build [xZ, xZ, xZ, xS, xS] []), xM 1 53 9, xN 2 (.fz (.sto 5 (.t 2) (.t 52))), xM 3 3 53]
def yl16r : UL | _ => [xF 0 54 38 1, xF 1 55 0 54, xL 2 56 55, xc 3 57 .add 56 1, xF 4 58 0 8, xN 5 (.sto 1 (.t 58) (.t 57))]
def yl16s : UL | _ => [xD 0 59 5 8, xN 1 (.fz (.sto 5 (.t 2) (.t 59))), xQ 2 3 (.mov (.k .nilIface))]
def yb16t : UB | _ => .seq (.seq (reg0 [xM 0 50 9, xQ 1 51 (.eqi true (.t 50))] 2) (.cond (.t 51) (.seq (reg0 (hid yl16p) 4) .ret) .skip)) (.seq (reg0 (hid yl16r) 6) (.seq (reg0 (hid yl16s) 3) .ret))
def yb16u : UB | _ => .seq (.seq (reg0 [xM 0 39 9, xQ 1 40 (.eqi true (.t 39))] 2) (.cond (.t 40) (.seq (reg0 (hid yl16k) 4) .ret) .skip)) (.seq (reg0 (hid yl16n) 9) (hid yb16t))
def yb16v : UB | _ => .seq (.seq (reg0 [xC 0 10 0] 1) (.block 0 (.loop (.seq (reg0 [xc 0 11 .lss 10 2] 1) (.seq (.cond (.t 11) .skip (.exit 0)) (hid yb16e)))))) (.seq (reg0 (hid yl16i) 15) (hid yb16u))
def yb16w : UB | _ => .seq (reg0 (hid yl161) 3) (.seq (reg0 [xQ 0 4 (.alloc 26 [xZ, xZ])] 1) (hid yb16v))
attribute [simp] yl161 yl166 yl167 yl169 yl16b yb16e yl16g yl16h yl16i yl16k yl16m yl16n yl16p yl16r yl16s yb16t yb16u yb16v yb16w
def c_SNext : EB × List QOp × Nat := ((hid yb16w), [(.lda 5 (.t 2)), (.mov (.t 3))], 60)
theorem k_SNext : cfun Tryz.prog 49 = some c_SNext := by kernel_rfl
def P0 : Prm := ⟨hz, 0, 100, 1, 2, 3, 5⟩
def S0 : Sta := ⟨0, 50, 50, [], []⟩
def C0 : Coi := ⟨hz, 3, 20⟩
def D1 : Dea := ⟨P0, S0, [], [], [], [], false, false⟩
def D2 : Dea := ⟨P0, S0, [], [C0], [], [], false, false⟩
def D3 : Dea := ⟨P0, S0, [], [C0], [], [], true, false⟩
def D4 : Dea := ⟨P0, S0, [], [C0], [], [], true, true⟩
def S1 : Sta := ⟨1, 45, 70, [], []⟩
theorem P0_ok : P0.ok := by simp [P0, Prm.ok, i64, hz]
theorem S0_ok : S0.ok ∧ S0.small := by simp [S0, Sta.ok, Sta.small, i64]
theorem C0_ok : C0.ok := by simp [C0, Coi.ok, i64, hz]
theorem D1_gd : D1.gd := by
 refine ⟨⟨P0_ok, S0_ok.1, ?_, ?_, ?_, ?_, ?_, ?_, ?_, ?_, ?_, ?_⟩, S0_ok.2, ?_, ?_, ?_, ?_, ?_, ?_⟩ <;> simp [D1]
theorem D2_gd : D2.gd := by
 have h := C0_ok
 refine ⟨⟨P0_ok, S0_ok.1, ?_, ?_, ?_, ?_, ?_, ?_, ?_, ?_, ?_, ?_⟩, S0_ok.2, ?_, ?_, ?_, ?_, ?_, ?_⟩ <;> simp [D2, h]
theorem D3_gd : D3.gd := D2_gd
theorem D4_gd : D4.gd := D2_gd
theorem e_N : spN P0 S0 = (D1, 0) := by rfl
theorem e_B : spB D1 1 C0 = (D2, 0) := by rfl
theorem e_C0 : spC D2 0 = (D3, 0) := by rfl
theorem e_C1 : spC D3 1 = (D4, 0) := by rfl
theorem e_G0 : spG D4 0 = (0, 0) := by decide
theorem e_G1 : spG D4 1 = (20, 0) := by decide
theorem e_R0 : resS S0 0 (-5) = (⟨1, 45, 50, [], []⟩, 0) := by rfl
theorem e_R1 : resS ⟨1, 45, 50, [], []⟩ 1 20 = (⟨2, 45, 70, [], []⟩, 0) := by rfl
def nxL : Nat → List (Option EO)
 | 2 => [some (.box 49 (deaC D4)), some (.box 42 [iC 0, iC 0, iC 0, .fz (.lit (.slice none 0 0)), .fz (.lit (.slice none 0 0))]), some (.box 26 [iC 0, iC 20])]
 | _ => [some (.box 49 (deaC D4)), some (.box 42 [iC 0, iC 0, iC 0, .fz (.lit (.slice none 0 0)), .fz (.lit (.slice none 0 0))]), some (.box 26 [iC 0, iC 0])]
set_option maxRecDepth 8000 in
theorem SNext_ok : ECalls Tryz.prog 49 [DV D4] [] fun y H' => H' = [] ∧ y = .tup [.agg (staC S1), .c (.fz (.lit (errV 0)))] := by
 have hd := D4_gd.1
 have ld := deaC_len hd.1.1
 have td : List.take 49 (deaC D4) = deaC D4 := List.tkL (by omega)
 have td49 : List.drop 49 (deaC D4) = [] := List.drop_of_length_le (by omega)
 have c0 := SGain_ok D4 0 hd (by simp [i64])
 have c1 := SGain_ok D4 1 hd (by simp [i64])
 rw [e_G0] at c0
 rw [e_G1] at c1
 have s38 : List.take 5 (List.drop 38 (deaC D4)) = staC S0 := rfl
 have e37 : (deaC D4)[37]'(by omega) = iC 5 := rfl
 have e38 : (deaC D4)[38]'(by omega) = iC 0 := rfl
 refine ecalls k_SNext ?_
 simp [c_SNext, DV, ld, td, td49, -errV_0]
 refine eloop (α := Nat) (fun i => i ≤ 2) (fun i => 2 - i)
  (fun i => [xA, Ptr 0, Ptr 1, xA, Ptr 2, xA, xA, xA, xA, xA, I .i64 i, xA, xA, xA, xA, xA, xA, xA, xA, xA, xA, xA, xA, xA, xA, xA, xA, xA, xA, xA, xA, xA, xA, xA, xA, xA, xA, xA, xA, xA, xA, xA, xA, xA, xA, xA, xA, xA, xA, xA, xA, xA, xA, xA, xA, xA, xA, xA, xA, .any]) nxL 0 [0, 16, 48]
  (by omega) (by simp [Ptr, I, nxL]) (by simp [nxL, iC]) (by simp [nxL]) (by simp) (by simp [nxL]) ?_
 intro i hi
 match i, hi with
 | 0, _ =>
  simp [Ptr, I, nxL, ld, td, -errV_0]
  refine call0 c0 (by simp [DV, I]) ?_
  rintro y H' ⟨rfl, rfl⟩
  refine ⟨.inl (by simp [GE, iC]), le_ok rfl, ?_⟩
  simp [GE, ld, td, iC, -errV_0]
  exact round 1 [0, 1, 2] (by omega) (by omega) (by simp [Ptr, I, nxL, show IntKind.i64.wrap 1 = 1 from rfl]) (by simp [nxL, iC]) (by simp [nxL]) (by simp) (by simp [nxL])
 | 1, _ =>
  simp [Ptr, I, nxL, ld, td, -errV_0]
  refine call0 c1 (by simp [DV, I]) ?_
  rintro y H' ⟨rfl, rfl⟩
  refine ⟨.inl (by simp [GE, iC]), le_ok rfl, ?_⟩
  simp [GE, ld, td, iC, -errV_0]
  exact round 2 [0, 1, 2] (by omega) (by omega) (by simp [Ptr, I, nxL, show IntKind.i64.wrap 2 = 2 from rfl]) (by simp [nxL, iC]) (by simp [nxL]) (by simp) (by simp [nxL])
 | 2, _ =>
  have r0 := Resize_ok S0 0 (-5) S0_ok.1 (by simp [i64]) (by simp [i64])
  have r1 := Resize_ok ⟨1, 45, 50, [], []⟩ 1 20 (by simp [Sta.ok, i64]) (by simp [i64]) (by simp [i64])
  rw [e_R0] at r0
  rw [e_R1] at r1
  simp [Ptr, I, nxL, ld, s38, e37, e38, iC, show IntKind.i64.wrap (-5) = -5 from rfl, -errV_0]
  refine call0 r0 (by simp [SV, staC, I, S0, iC]) ?_
  rintro y H' ⟨rfl, rfl⟩
  refine ⟨.inl (by simp [SE, staC]), le_ok rfl, ?_⟩
  simp [SE, staC, iC, -errV_0]
  refine call0 r1 (by simp [SV, staC, I, iC]) ?_
  rintro y H' ⟨rfl, rfl⟩
  refine ⟨.inl (by simp [SE, staC]), le_ok rfl, ?_⟩
  simp [SE, staC, iC, e38, ld, show IntKind.i64.wrap 1 = 1 from rfl, -errV_0]
  exact fin0
def yl16x : UL | _ => [xW 0 1 49 0, xQ 1 2 (.alloc 85 [xZ, xS, xS]), xQ 2 3 (.alloc 38 (zU8 ++ [xZ, xZ, xZ, xZ, xZ, xZ])), xQ 3 4 (.alloc 42 [xZ, xZ, xZ, xS, xS]), xQ 4 5 (.mov (.k .nilIface))]
def yl16z : UL | _ => [xF 0 17 0 1, xD 1 18 38 17, xQ 2 7 (.alloc 38 (zU8 ++ [xZ, xZ, xZ, xZ, xZ, xZ])), xN 3 (.sto 38 (.t 7) (.t 18))]
def yl171 : UL | _ => [xG 6 25 23 false (.iad 2 1 (.t 24) (xK 1)), yL 7 26 23 false 25, xG 8 27 23 false (.un .not (.t 26)), xP 9 28 23 27]
def yl172 : UL | _ => xF 0 19 47 1 :: xQ 1 20 (.iad 2 1 (.t 19) (xK 0)) :: xL 2 21 20 :: xQ 3 22 (.un .not (.t 21)) :: xM 4 23 22 :: yF 5 24 23 false 47 1 :: hid yl171
def yl173 : UL | _ => [xX 6 35 3 31, xN 7 (.fz (.sto 3 (.t 2) (.t 32))), xN 8 (.sto 38 (.t 3) (.t 33)), xN 9 (.fz (.sto 5 (.t 4) (.t 34))), xM 10 5 35]
def yl174 : UL | _ => xM 0 29 8 :: xQ 1 30 (.mki 121 (xK 31)) :: xO 2 31 (.clo (.t 29) [.t 30]) :: xX 3 32 0 31 :: xX 4 33 1 31 :: xX 5 34 2 31 :: hid yl173
def yl176 : UL | _ => [xD 0 36 38 7, xF 1 37 38 1, xD 2 38 5 37, xO 3 39 (.call 22 [.t 36, .t 38]), xM 4 9 39]
def yl178 : UL | _ => [xX 6 48 3 44, xN 7 (.fz (.sto 3 (.t 2) (.t 45))), xN 8 (.sto 38 (.t 3) (.t 46)), xN 9 (.fz (.sto 5 (.t 4) (.t 47))), xM 10 5 48]
def yl179 : UL | _ => xM 0 42 8 :: xM 1 43 9 :: xO 2 44 (.clo (.t 42) [.t 43]) :: xX 3 45 0 44 :: xX 4 46 1 44 :: xX 5 47 2 44 :: hid yl178
def yl17b : UL | _ => [xN 6 (.fz (.sto 5 (.t 10) (.t 52))), xM 7 11 53]
def yl17c : UL | _ => xD 0 50 49 1 :: xO 1 51 (.call 49 [.t 50]) :: xM 2 49 51 :: xX 3 52 0 49 :: xX 4 53 1 49 :: xQ 5 10 (.alloc 42 [xZ, xZ, xZ, xS, xS]) :: hid yl17b
def yl17e : UL | _ => [xX 6 62 3 58, xN 7 (.fz (.sto 3 (.t 2) (.t 59))), xN 8 (.sto 38 (.t 3) (.t 60)), xN 9 (.fz (.sto 5 (.t 4) (.t 61))), xM 10 5 62]
def yl17f : UL | _ => xM 0 56 8 :: xM 1 57 11 :: xO 2 58 (.clo (.t 56) [.t 57]) :: xX 3 59 0 58 :: xX 4 60 1 58 :: xX 5 61 2 58 :: hid yl17e
def yl17h : UL | _ => [xD 0 63 49 1, xO 1 64 (.call 34 [.t 63]), xN 2 (.fz (.sto 49 (.t 1) (.t 64)))]
def yl17i : UL | _ => [xD 0 65 5 10, xO 1 66 (.call 50 [.t 65]), xF 2 67 33 7, xN 3 (.sto 1 (.t 67) (.t 66))]
def yl17j : UL | _ => [xN 6 (.fz (.sto 1 (.t 73) (.t 72)))]
def yl17k : UL | _ => xF 0 68 0 1 :: xF 1 69 0 68 :: xD 2 70 33 69 :: xQ 3 71 (.build (zU8 ++ [xZ, xZ, xS]) [(0, 33, .t 70)]) :: xQ 4 72 (.bsr 151 35 (zU8 ++ [xZ, xZ, xS]) 1 [(0, .t 71)]) :: xF 5 73 1 6 :: hid yl17j
def yl17l : UL | _ => [xF 12 86 2 6, xN 13 (.fz (.sto 1 (.t 86) (.t 85)))]
def yl17m : UL | _ => xQ 6 80 (.iad 2 1 (.t 79) (xK 1)) :: xL 7 81 80 :: xQ 8 82 (.bsl 1 [xZ] 2 [(0, .t 78), (1, .t 81)]) :: ⟨9, (some 83), none, (.call 26 [.t 82]), [0, 1]⟩ :: xQ 10 84 (.build [xZ, xS] [(0, 1, .t 75), (1, 1, .t 83)]) :: xQ 11 85 (.bsr 100 2 [xZ, xS] 1 [(0, .t 84)]) :: hid yl17l
def yl17n : UL | _ => xF 0 74 33 7 :: xL 1 75 74 :: xF 2 76 34 7 :: xQ 3 77 (.iad 2 1 (.t 76) (xK 0)) :: xL 4 78 77 :: xF 5 79 34 7 :: hid yl17m
def yl17r : UL | _ => [xM 0 90 12, xF 1 91 43 1, xQ 2 92 (.iad 2 1 (.t 91) (.t 90)), xL 3 93 92, xE 4 94 93, xC 5 95 0]
def yl17t : UL | _ => [xI 0 97 34 93 95, xD 1 98 34 97, xQ 2 14 (.alloc 102 (zU8 ++ [xZ, xZ])), xN 3 (.sto 34 (.t 14) (.t 98))]
def yl17u : UL | _ => [xO 6 105 (.app 151 35 72 (.t 100) (.t 104)), xF 7 106 1 6, xN 8 (.fz (.sto 1 (.t 106) (.t 105)))]
def yl17v : UL | _ => xF 0 99 1 6 :: xL 1 100 99 :: xF 2 101 0 14 :: xD 3 102 33 101 :: xQ 4 103 (.build (zU8 ++ [xZ, xZ, xS]) [(0, 33, .t 102)]) :: xO 5 104 (.fz (.q (.bsl 35 (zU8 ++ [xZ, xZ, xS]) 1 [(0, .t 103)]))) :: hid yl17u
def yl17z : UL | _ => [xO 6 114 (.app 100 2 32 (.t 109) (.t 113)), xF 7 115 2 6, xN 8 (.fz (.sto 1 (.t 115) (.t 114)))]
def yl180 : UL | _ => xF 0 108 2 6 :: xL 1 109 108 :: xM 2 110 12 :: xF 3 111 45 1 :: xQ 4 112 (.iad 2 1 (.t 111) (.t 110)) :: xL 5 113 112 :: hid yl17z
def yb181 : UB | _ => .seq (.seq (reg0 (hid yl17r) 6) (.block 2 (.loop (.seq (reg0 [xb 0 96 .lss 95 94] 1) (.seq (.cond (.t 96) .skip (.exit 2)) (.seq (.block 3 (.seq (reg0 (hid yl17t) 4) (reg0 (hid yl17v) 9))) (reg0 [xc 0 107 .add 95 1, xM 1 95 107] 2))))))) (reg0 (hid yl180) 9)
def yb183 : UB | _ => .seq (.block 1 (.seq (reg0 [xM 0 89 87, xM 1 12 89] 2) (hid yb181))) (reg0 [xc 0 116 .add 87 1, xM 1 87 116] 2)
def yb184 : UB | _ => .seq (reg0 [xc 0 88 .lss 87 2] 1) (.seq (.cond (.t 88) .skip (.exit 0)) (hid yb183))
def yl187 : UL | _ => [xX 6 127 3 123, xN 7 (.fz (.sto 3 (.t 2) (.t 124))), xN 8 (.sto 38 (.t 3) (.t 125)), xN 9 (.fz (.sto 5 (.t 4) (.t 126))), xM 10 5 127]
def yl188 : UL | _ => xM 0 121 8 :: xM 1 122 15 :: xO 2 123 (.clo (.t 121) [.t 122]) :: xX 3 124 0 123 :: xX 4 125 1 123 :: xX 5 126 2 123 :: hid yl187
def yl18a : UL | _ => [xD 0 128 3 6, xO 1 129 (.call 21 [.t 128, (xK 0)]), xF 2 130 0 7, xN 3 (.sto 33 (.t 130) (.t 129))]
def yl18b : UL | _ => [xD 0 131 38 7, xD 1 132 5 10, xO 2 133 (.call 22 [.t 131, .t 132]), xM 3 16 133]
def yl18d : UL | _ => [xX 6 142 3 138, xN 7 (.fz (.sto 3 (.t 2) (.t 139))), xN 8 (.sto 38 (.t 3) (.t 140)), xN 9 (.fz (.sto 5 (.t 4) (.t 141))), xM 10 5 142]
def yl18e : UL | _ => xM 0 136 8 :: xM 1 137 16 :: xO 2 138 (.clo (.t 136) [.t 137]) :: xX 3 139 0 138 :: xX 4 140 1 138 :: xX 5 141 2 138 :: hid yl18d
def yl18g : UL | _ => [xQ 6 5 (.mov (.k .nilIface))]
def yl18h : UL | _ => xD 0 143 3 6 :: xD 1 144 38 7 :: xD 2 145 5 10 :: ⟨3, none, none, (.fz (.sto 3 (.t 2) (.t 143))), [1, 2]⟩ :: ⟨4, none, none, (.sto 38 (.t 3) (.t 144)), [2]⟩ :: xN 5 (.fz (.sto 5 (.t 4) (.t 145))) :: hid yl18g
def yb18i : UB | _ => .seq (.seq (reg0 (hid yl18b) 4) (.seq (reg0 [xM 0 134 16, xQ 1 135 (.eqi true (.t 134))] 2) (.cond (.t 135) (.seq (reg0 (hid yl18e) 11) .ret) .skip))) (.seq (reg1 (hid yl18h) 7) .ret)
def yb18j : UB | _ => .seq (.seq (reg0 [xD 0 117 3 6, xO 1 118 (.call 51 [.t 117]), xM 2 15 118] 3) (.seq (reg0 [xM 0 119 15, xQ 1 120 (.eqi true (.t 119))] 2) (.cond (.t 120) (.seq (reg0 (hid yl188) 11) .ret) .skip))) (.seq (reg0 (hid yl18a) 4) (hid yb18i))
def yb18k : UB | _ => .seq (.seq (reg0 [xC 0 87 0] 1) (.block 0 (.loop (hid yb184)))) (hid yb18j)
def yb18l : UB | _ => .seq (reg0 (hid yl17k) 7) (.seq (reg1 (hid yl17n) 14) (hid yb18k))
def yb18m : UB | _ => .seq (reg0 (hid yl17h) 3) (.seq (reg0 (hid yl17i) 4) (hid yb18l))
def yb18n : UB | _ => .seq (reg0 (hid yl17c) 8) (.seq (.seq (reg0 [xM 0 54 11, xQ 1 55 (.eqi true (.t 54))] 2) (.cond (.t 55) (.seq (reg0 (hid yl17f) 11) .ret) .skip)) (hid yb18m))
def yb18o : UB | _ => .seq (.seq (reg0 (hid yl176) 5) (.seq (reg0 [xM 0 40 9, xQ 1 41 (.eqi true (.t 40))] 2) (.cond (.t 41) (.seq (reg0 (hid yl179) 11) .ret) .skip))) (hid yb18n)
def yb18p : UB | _ => .seq (reg0 [xQ 0 8 (.mov (.k (.func (.func 48) #[] #[])))] 1) (.seq (.seq (reg0 (hid yl172) 10) (.cond (.t 28) (.seq (reg0 (hid yl174) 11) .ret) .skip)) (hid yb18o))
def yb18q : UB | _ => .seq (reg0 [xQ 0 6 (.alloc 85 [xZ, xS, xS])] 1) (.seq (reg0 (hid yl16z) 4) (hid yb18p))
def yb18r : UB | _ => .seq (reg0 (hid yl16x) 5) (hid yb18q)
attribute [simp] yl16x yl16z yl171 yl172 yl173 yl174 yl176 yl178 yl179 yl17b yl17c yl17e yl17f yl17h yl17i yl17j yl17k yl17l yl17m yl17n yl17r yl17t yl17u yl17v yl17z yl180 yb181 yb183 yb184 yl187 yl188 yl18a yl18b yl18d yl18e yl18g yl18h yb18i yb18j yb18k yb18l yb18m yb18n yb18o yb18p yb18q yb18r
def c_SBuild : EB × List QOp × Nat := ((hid yb18r), [(.lda 3 (.t 2)), (.lda 38 (.t 3)), (.lda 5 (.t 4)), (.mov (.t 5))], 146)
theorem k_SBuild : cfun Tryz.prog 20 = some c_SBuild := by kernel_rfl
def T0 : Txn := ⟨0, [⟨hz, 0, 0, []⟩, ⟨hz, 3, 0, []⟩], [⟨115, allB [1, 2]⟩]⟩
def P1 : Prm := ⟨sumS (encT T0), 0, 115, 1, 2, 3, 5⟩
theorem in12 : insN [1, 2] = [1, 2] := rfl
theorem T0_ok : T0.ok := by
 refine ⟨by simp [T0, i64], ?_, ?_, by simp [T0], by simp [T0]⟩
 ·intro x hx
  simp [T0] at hx
  rcases hx with rfl | rfl <;> simp [Inp.ok, i64, hz]
 ·intro x hx
  simp [T0] at hx
  subst hx
  simp [Outp.ok, allB, Bra.ok, i64, hz, in12]
theorem T0_len : (encT T0).length ≤ 100000000 := by
 have h0 : T0.sm := by simp [T0, Txn.sm, Inp.sm, Outp.sm, Bra.sm, allB, hz, in12]
 obtain ⟨q1, q2, q3, q4⟩ := h0
 have h1 := uB_len T0.lk
 have h2 := uB_len (T0.ins.length : Int)
 have h3 := uB_len (T0.outs.length : Int)
 have h4 : (insB T0.ins).length ≤ 20100 * T0.ins.length := flat_len fun x hx => inpB_le (q1 x hx)
 have h5 : (ousB T0.outs).length ≤ 930000 * T0.outs.length := flat_len fun x hx => oupB_le (q2 x hx)
 have e1 : T0.ins.length = 2 := rfl
 have e2 : T0.outs.length = 1 := rfl
 simp only [encT, mdB, hdB, List.length_append]
 omega
theorem T0_chk : chkT T0 = 0 := by rfl
theorem P1_chk : bldE P1 S1 = 0 := by
 unfold P1
 generalize sumS (encT T0) = h
 rfl
theorem tot_S1 : totS S1 = 115 := by rfl
theorem b_S0 : bldE P0 S0 = 0 := by rfl
theorem P1_ok : P1.ok := ⟨sumS_len _, by simp [P1, i64], by simp [P1, i64], by simp [P1, i64], by simp [P1, i64], by simp [P1, i64], by simp [P1, i64]⟩
def in0 : List FV := hf hz ++ [.lit (.int .i64 0), .lit (.int .i64 0), .lit (.slice none 0 0)]
def in1 : List FV := hf hz ++ [.lit (.int .i64 3), .lit (.int .i64 0), .lit (.slice none 0 0)]
theorem t0_ins : (inpv T0.ins).map (·.map gN) = [in0, in1] := rfl
def blO (ins : List (List FV)) (n : Nat) : List (Option EO) :=
  [some (.box 49 (prmC P0 ++ [iC S0.num, iC S0.h0, iC S0.h1, .fz (.sl 36 (payv S0.pays)), .fz (.sl 3 (holv S0.holds)), .row 9 0, .row 10 1, .row 11 0, .row 12 0, bC true, bC true])),
   some (.box 85 [iC 0, .fz (.lit (.slice none 0 0)), .fz (.lit (.slice none 0 0))]), some (.box 38 (hc hz ++ [iC 0, iC 0, iC 0, iC 0, iC 0, iC 0])), some (.box 42 [iC 0, iC 0, iC 0, .fz (.lit (.slice none 0 0)), .fz (.lit (.slice none 0 0))]),
   some (.box 85 [iC 0, .row 7 n, .row 8 1]), some (.box 38 (hc hz ++ [iC 0, iC 115, iC 1, iC 2, iC 3, iC 5])), some (.box 42 [iC S1.num, iC S1.h0, iC S1.h1, .fz (.sl 36 (payv S1.pays)), .fz (.sl 3 (holv S1.holds))]),
   some (.row 151 35 ins), some (.row 100 2 (outv [⟨115, allB [1, 2]⟩])), some (.row 102 34 (coiv [])), some (.row 102 34 (coiv [C0])), some (.row 100 2 (outv [])), some (.row 100 2 (outv []))]
def blL : Nat → List (Option EO)
 | 2 => blO [in0, in1] 2
 | _ => blO [in0] 1
set_option maxRecDepth 8000 in
theorem SBuild_ok : ECalls Tryz.prog 20 [DV D4] [] fun y H' => H' = [] ∧ y = .tup [.agg [iC 0, .fz (.sl 35 [in0, in1]), .fz (.sl 2 (outv T0.outs))], .agg (prmC P1), .agg (staC S1), .c (.fz (.lit (errV 0)))] := by
 have hd := D4_gd.1
 have ld := deaC_len hd.1.1
 have td : List.take 49 (deaC D4) = deaC D4 := List.tkL (by omega)
 have td49 : List.drop 49 (deaC D4) = [] := List.drop_of_length_le (by omega)
 have t38 : List.take 38 (deaC D4) = prmC P0 := rfl
 have s38 : List.take 5 (List.drop 38 (deaC D4)) = staC S0 := rfl
 have e47 : (deaC D4)[47]'(by omega) = bC true := rfl
 have e48 : (deaC D4)[48]'(by omega) = bC true := rfl
 have lp : (prmC P0).length = 38 := rfl
 have pp : List.take 38 (prmC P0) = prmC P0 := rfl
 have z38' : List.drop 38 (hc hz ++ [.fz (.lit (.int .i64 0)), .fz (.lit (.int .i64 0)), .fz (.lit (.int .i64 0)), .fz (.lit (.int .i64 0)), .fz (.lit (.int .i64 0)), .fz (.lit (.int .i64 0))]) = [] := rfl
 refine ecalls k_SBuild ?_
 simp [c_SBuild, DV, ld, td, td49, t38, s38, e47, e48, bC, lp, pp, z38', -errV_0]
 refine call0 (BCheck_ok P0 S0 P0_ok S0_ok.1) (by simp [PVv, SV, staC]) ?_
 rintro y H' ⟨rfl, rfl⟩
 refine ⟨.inl (by simp [staC]), le_ok rfl, ?_⟩
 simp [b_S0, ld, td]
 refine call0 SNext_ok (by simp [DV]) ?_
 rintro y H' ⟨rfl, rfl⟩
 refine ⟨.inl (by simp [staC]), le_ok rfl, ?_⟩
 simp [staC, ld, td]
 refine call0 (SOwn_ok D4 hd) (by simp [DV]) ?_
 rintro y H' ⟨rfl, rfl⟩
 refine ⟨.inl (by simp), le_ok rfl, ?_⟩
 have hT := Total_ok S1 (by simp [S1, Sta.ok, i64])
 rw [tot_S1] at hT
 simp [staC, bC, ld, td, td49, lp, show D4.p = P0 from rfl, show D4.s = S0 from rfl, show D4.i0 = [] from rfl, show D4.i1 = [C0] from rfl, show D4.o0 = [] from rfl, show D4.o1 = [] from rfl, show D4.r0 = true from rfl, show D4.r1 = true from rfl]
 refine call0 hT (by simp [SV, staC]) ?_
 rintro y H' ⟨rfl, rfl⟩
 refine ⟨.inl (by simp [I]), le_ok rfl, ?_⟩
 have q33 : ∀ r, List.take 33 (prmC P0 ++ r) = hc hz ++ [iC 0] := fun r => p33 rfl r
 have q33' : List.take 33 (prmC P0) = hc hz ++ [iC 0] := rfl
 have q34 : List.drop 34 (prmC P0) = [iC 1, iC 2, iC 3, iC 5] := rfl
 have z33i : List.drop 33 (hc hz ++ [.fz (.lit (.int .i64 0)), .fz (.lit (.int .i64 0)), .fz (.lit (.slice none 0 0))]) = [.fz (.lit (.int .i64 0)), .fz (.lit (.slice none 0 0))] := rfl
 simp [staC, bC, I, iC, lp, q33, q33', q34, z33i, zI, hzf_len]
 refine call0 (PAll_ok [1, 2] (keys_two (by decide))) (by simp [IL, intv]) ?_
 rintro y H' ⟨rfl, rfl⟩
 refine ⟨.inl (by simp [CNv]), le_ok rfl, ?_⟩
 simp [CNv, staC, bC, I, iC, lp, q33, q33', q34, z33i, zI, hzf_len]
 have pT := pmT lp
 have pD := pmD lp
 have pG := pmG lp
 have cv : coiv [C0] = [coiF C0] := rfl
 have cl : (coiC C0).length = 34 := rfl
 have cf : (coiF C0).length = 34 := rfl
 have ct : List.take 34 (coiC C0) = coiC C0 := rfl
 have cz : List.drop 34 (hc hz ++ [.fz (.lit (.int .i64 0)), .fz (.lit (.int .i64 0))]) = ([] : List EC) := rfl
 have c33 : List.take 33 (coiC C0) = hc hz ++ [.fz (.lit (.int .i64 3))] := rfl
 have zI3 : frzAll (hc hz ++ [.fz (.lit (.int .i64 3)), .fz (.lit (.int .i64 0)), .fz (.lit (.slice none 0 0))]) = some (hf hz ++ [.lit (.int .i64 3), .lit (.int .i64 0), .lit (.slice none 0 0)]) := rfl
 have cd33 : List.drop 33 (coiC C0) = [.fz (.lit (.int .i64 20))] := rfl
 refine eloop (α := Nat) (fun i => i ≤ 2) (fun i => 2 - i)
  (fun i => [xA, Ptr 0, Ptr 1, Ptr 2, Ptr 3, xA, Ptr 4, Ptr 5, .v (.c (.clo 48 [])), xA, Ptr 6, xA, xA, xA, xA, xA, xA, xA, xA, xA, xA, xA, xA, xA, xA, xA, xA, xA, xA, xA, xA, xA, xA, xA, xA, xA, xA, xA, xA, xA, xA, xA, xA, xA, xA, xA, xA, xA, xA, xA, xA, xA, xA, xA, xA, xA, xA, xA, xA, xA, xA, xA, xA, xA, xA, xA, xA, xA, xA, xA, xA, xA, xA, xA, xA, xA, xA, xA, xA, xA, xA, xA, xA, xA, xA, xA, xA, I .i64 i, xA, xA, xA, xA, xA, xA, xA, xA, xA, xA, xA, xA, xA, xA, xA, xA, xA, xA, xA, xA, xA, xA, xA, xA, xA, xA, xA, xA, xA, xA, xA, xA, xA, xA, xA, xA, xA, xA, xA, xA, xA, xA, xA, xA, xA, xA, xA, xA, xA, xA, xA, xA, xA, xA, xA, xA, xA, .any]) blL 0 [0, 16, 32, 48, 80, 128, 528, 784, 1008, 624, 625, 626, 627]
  (by omega) (by simp [Ptr, I, blL, blO, in0, in1, outv, outF, iF, iC, bC]) (by simp [blL, blO, in0, in1, outv, outF, iF, iC, bC, cv]) (by simp [blL, blO, in0, in1, outv, outF, iF, iC, bC]) (by simp) (by simp [blL, blO, in0, in1, outv, outF, iF, iC, bC]) ?_
 intro i hi
 match i, hi with
 | 0, _ =>
  simp [Ptr, I, blL, blO, in0, in1, outv, outF, iF, iC, bC, lp, pT, pD, pG]
  refine eloop (α := Nat) (fun k => k ≤ 0) (fun k => 0 - k)
   (fun k => [xA, Ptr 0, Ptr 1, Ptr 2, Ptr 3, xA, Ptr 4, Ptr 5, .v (.c (.clo 48 [])), xA, Ptr 6, xA, I .i64 0, xA, xA, xA, xA, xA, xA, xA, xA, xA, xA, xA, xA, xA, xA, xA, xA, xA, xA, xA, xA, xA, xA, xA, xA, xA, xA, xA, xA, xA, xA, xA, xA, xA, xA, xA, xA, xA, xA, xA, xA, xA, xA, xA, xA, xA, xA, xA, xA, xA, xA, xA, xA, xA, xA, xA, xA, xA, xA, xA, xA, xA, xA, xA, xA, xA, xA, xA, xA, xA, xA, xA, xA, xA, xA, I .i64 0, xA, xA, xA, xA, xA, .v (.c (.row 9 0)), I .i64 0, I .i64 k, xA, xA, xA, xA, xA, xA, xA, xA, xA, xA, xA, xA, xA, xA, xA, xA, xA, xA, xA, xA, xA, xA, xA, xA, xA, xA, xA, xA, xA, xA, xA, xA, xA, xA, xA, xA, xA, xA, xA, xA, xA, xA, xA, xA, xA, xA, xA, xA, xA, .any]) (fun _ => blO [in0] 1) 0 [0, 1, 2, 3, 4, 5, 6, 7, 8, 9, 10, 11, 12]
   (by omega) (by simp [Ptr, I, blL, blO, in0, in1, outv, outF, iF, iC, bC]) (by simp [blL, blO, in0, in1, outv, outF, iF, iC, bC, cv]) (by simp [blL, blO, in0, in1, outv, outF, iF, iC, bC]) (by simp) (by simp [blL, blO, in0, in1, outv, outF, iF, iC, bC]) ?_
  intro k hk
  obtain rfl : k = 0 := by omega
  simp [Ptr, I, blL, blO, in0, in1, outv, outF, iF, iC, bC, lp, pT, pD, pG]
  exact round 1 [0, 1, 2, 3, 4, 5, 6, 7, 125, 9, 10, 11, 12] (by omega) (by omega) (by simp [Ptr, I, blL, blO, in0, in1, outv, outF, iF, iC, bC, show IntKind.i64.wrap 1 = 1 from rfl]) (by simp [blL, blO, in0, in1, outv, outF, iF, iC, bC, cv]) (by simp [blL, blO, in0, in1, outv, outF, iF, iC, bC]) (by simp) (by simp [blL, blO, in0, in1, outv, outF, iF, iC, bC])
 | 1, _ =>
  simp [Ptr, I, blL, blO, in0, in1, outv, outF, iF, iC, bC, lp, pT, pD, pG]
  refine eloop (α := Nat) (fun k => k ≤ 1) (fun k => 1 - k)
   (fun k => [xA, Ptr 0, Ptr 1, Ptr 2, Ptr 3, xA, Ptr 4, Ptr 5, .v (.c (.clo 48 [])), xA, Ptr 6, xA, I .i64 1, xA, xA, xA, xA, xA, xA, xA, xA, xA, xA, xA, xA, xA, xA, xA, xA, xA, xA, xA, xA, xA, xA, xA, xA, xA, xA, xA, xA, xA, xA, xA, xA, xA, xA, xA, xA, xA, xA, xA, xA, xA, xA, xA, xA, xA, xA, xA, xA, xA, xA, xA, xA, xA, xA, xA, xA, xA, xA, xA, xA, xA, xA, xA, xA, xA, xA, xA, xA, xA, xA, xA, xA, xA, xA, I .i64 1, xA, xA, xA, xA, xA, .v (.c (.row 10 1)), I .i64 1, I .i64 k, xA, xA, xA, xA, xA, xA, xA, xA, xA, xA, xA, xA, xA, xA, xA, xA, xA, xA, xA, xA, xA, xA, xA, xA, xA, xA, xA, xA, xA, xA, xA, xA, xA, xA, xA, xA, xA, xA, xA, xA, xA, xA, xA, xA, xA, xA, xA, xA, xA, .any]) (fun k => if k = 0 then blO [in0] 1 else blO [in0, in1] 2) 0 [0, 1, 2, 3, 4, 5, 6, 7, 8, 9, 10, 11, 12]
   (by omega) (by simp [Ptr, I, blL, blO, in0, in1, outv, outF, iF, iC, bC]) (by simp [blL, blO, in0, in1, outv, outF, iF, iC, bC, cv]) (by simp [blL, blO, in0, in1, outv, outF, iF, iC, bC]) (by simp) (by simp [blL, blO, in0, in1, outv, outF, iF, iC, bC]) ?_
  intro k hk
  match k, hk with
  | 0, _ =>
   simp [Ptr, I, blL, blO, in0, in1, outv, outF, iF, iC, bC, lp, pT, pD, pG, cv, cl, cf, coiF_fz, ct, cz, c33, zI3, hzf_len, z33i, cd33]
   exact round 1 [0, 1, 2, 3, 4, 5, 6, 189, 8, 9, 10, 11, 12] (by omega) (by omega) (by simp [Ptr, I, blL, blO, in0, in1, outv, outF, iF, iC, bC, show IntKind.i64.wrap 1 = 1 from rfl]) (by simp [blL, blO, in0, in1, outv, outF, iF, iC, bC, cv]) (by simp [blL, blO, in0, in1, outv, outF, iF, iC, bC]) (by simp) (by simp [blL, blO, in0, in1, outv, outF, iF, iC, bC])
  | 1, _ =>
   simp [Ptr, I, blL, blO, in0, in1, outv, outF, iF, iC, bC, lp, pT, pD, pG]
   exact round 2 [0, 1, 2, 3, 4, 5, 6, 7, 125, 9, 10, 11, 12] (by omega) (by omega) (by simp [Ptr, I, blL, blO, in0, in1, outv, outF, iF, iC, bC, show IntKind.i64.wrap 2 = 2 from rfl]) (by simp [blL, blO, in0, in1, outv, outF, iF, iC, bC, cv]) (by simp [blL, blO, in0, in1, outv, outF, iF, iC, bC]) (by simp) (by simp [blL, blO, in0, in1, outv, outF, iF, iC, bC])
 | 2, _ =>
  have hC : ECalls Tryz.prog 51 [.v (.agg [iC 0, .fz (.sl 35 [in0, in1]), .fz (.sl 2 (outv T0.outs))])] [] fun y H' => H' = [] ∧ y = .lit (errV (chkT T0)) := by
   have := ecalls_nlG (TxCheck_ok T0 T0_ok)
   rwa [t0_ins] at this
  have hA : ECalls Tryz.prog 21 [.v (.agg [iC 0, .fz (.sl 35 [in0, in1]), .fz (.sl 2 (outv T0.outs))]), I .i64 0] [] fun y H' => H' = [] ∧ y = .v (.agg (hc (sumS (encT T0)) ++ [iC 0])) := by
   have := ecalls_nlG (TxAt_ok T0 0 T0_ok (by simp [T0]) T0_len)
   rwa [t0_ins] at this
  rw [T0_chk] at hC
  simp [Ptr, I, blL, blO, outv, outF, iF, iC, bC, lp, pT, pD, pG, -errV_0]
  refine call0 hC (by simp [T0, outv, outF, iF, iC]) ?_
  rintro y H' ⟨rfl, rfl⟩
  refine ⟨.inr ⟨rfl, by simp⟩, le_ok rfl, ?_⟩
  simp [Ptr, I, iC, bC, lp, pT, pD, pG, -errV_0]
  refine call0 hA (by simp [T0, outv, outF, iF, iC, I]) ?_
  rintro y H' ⟨rfl, rfl⟩
  refine ⟨.inr ⟨by simp [noSlV, noSlT, hc, iC, noSlC], by simp⟩, le_ok rfl, ?_⟩
  have sl := sumS_len (encT T0)
  have s33 : List.drop 33 (hc hz ++ [.fz (.lit (.int .i64 0)), .fz (.lit (.int .i64 115)), .fz (.lit (.int .i64 1)), .fz (.lit (.int .i64 2)), .fz (.lit (.int .i64 3)), .fz (.lit (.int .i64 5))]) = ([.fz (.lit (.int .i64 115)), .fz (.lit (.int .i64 1)), .fz (.lit (.int .i64 2)), .fz (.lit (.int .i64 3)), .fz (.lit (.int .i64 5))] : List EC) := rfl
  have hP1 : hc (sumS (encT T0)) ++ [.fz (.lit (.int .i64 0)), .fz (.lit (.int .i64 115)), .fz (.lit (.int .i64 1)), .fz (.lit (.int .i64 2)), .fz (.lit (.int .i64 3)), .fz (.lit (.int .i64 5))] = prmC P1 := rfl
  have lp1 := prmC_len P1_ok.1
  have tp1 := pm_take P1_ok.1
  simp [Ptr, I, iC, bC, lp, pT, pD, pG, sl, s33, hP1, lp1, tp1, -errV_0]
  refine call0 (BCheck_ok P1 S1 P1_ok (by simp [S1, Sta.ok, i64])) (by simp [PVv, SV, staC, iC]) ?_
  rintro y H' ⟨rfl, rfl⟩
  refine ⟨.inl (by simp [-List.flatMap_eq_nil_iff]), le_ok rfl, ?_⟩
  rw [P1_chk]
  simp [Ptr, I, iC, bC, lp, pT, pD, pG, sl, s33, hP1, lp1, tp1, z38', -errV_0]
  refine finW _ (weak_frz (o := 7) (ty := 151) (es := 35) (xs := [in0, in1]) rfl) ?_
  refine finW _ (weak_frz (o := 8) (ty := 100) (es := 2) (xs := [[.lit (.int .i64 115), .sl 35 (brav (allB [1, 2]))]]) rfl) ?_
  exact fin0
def yl18t : UL | _ => [xX 6 16 0 10, xX 7 17 1 10, xQ 8 1 (.alloc 49 (zU8 ++ [xZ, xZ, xZ, xZ, xZ, xZ, xZ, xZ, xZ, xS, xS, xS, xS, xS, xS, (.bool false), (.bool false)])), xN 9 (.fz (.sto 49 (.t 1) (.t 16))), xM 10 2 17]
def yl18u : UL | _ => xQ 0 11 (.build [xZ, xZ] [(0, 1, (xK 1)), (1, 1, (xK 2))]) :: xQ 1 12 (.build (zU8 ++ [xZ, xZ, xZ, xZ, xZ, xZ]) [(33, 1, (xK 100)), (34, 2, .t 11), (36, 1, (xK 3)), (37, 1, (xK 5))]) :: xQ 2 13 (.build [xZ, xZ] [(0, 1, (xK 50)), (1, 1, (xK 50))]) :: xQ 3 14 (.build [xZ, xZ, xZ, xS, xS] [(1, 2, .t 13)]) :: xO 4 15 (.call 8 [.t 12, .t 14]) :: xM 5 10 15 :: hid yl18t
def yl18v : UL | _ => [xX 6 24 1 18, xN 7 (.fz (.sto 49 (.t 1) (.t 23))), xM 8 3 24]
def yl18w : UL | _ => xD 0 19 49 1 :: xQ 1 20 (.build (zU8 ++ [xZ]) [(32, 1, (xK 3))]) :: xQ 2 21 (.build (zU8 ++ [xZ, xZ]) [(0, 33, .t 20), (33, 1, (xK 20))]) :: xO 3 22 (.call 32 [.t 19, (xK 1), .t 21]) :: xM 4 18 22 :: xX 5 23 0 18 :: hid yl18v
def yl18x : UL | _ => [xM 6 4 29]
def yl18y : UL | _ => xD 0 26 49 1 :: xO 1 27 (.call 33 [.t 26, (xK 0)]) :: xM 2 25 27 :: xX 3 28 0 25 :: xX 4 29 1 25 :: xN 5 (.fz (.sto 49 (.t 1) (.t 28))) :: hid yl18x
def yl18z : UL | _ => [xM 6 5 34]
def yl190 : UL | _ => xD 0 31 49 1 :: xO 1 32 (.call 33 [.t 31, (xK 1)]) :: xM 2 30 32 :: xX 3 33 0 30 :: xX 4 34 1 30 :: xN 5 (.fz (.sto 49 (.t 1) (.t 33))) :: hid yl18z
def yl191 : UL | _ => [xN 12 (.fz (.sto 5 (.t 8) (.t 40))), xM 13 9 41]
def yl192 : UL | _ => xX 6 41 3 35 :: xQ 7 6 (.alloc 85 [xZ, xS, xS]) :: xQ 8 7 (.alloc 38 (zU8 ++ [xZ, xZ, xZ, xZ, xZ, xZ])) :: xQ 9 8 (.alloc 42 [xZ, xZ, xZ, xS, xS]) :: xN 10 (.fz (.sto 3 (.t 6) (.t 38))) :: xN 11 (.sto 38 (.t 7) (.t 39)) :: hid yl191
def yl193 : UL | _ => xD 0 36 49 1 :: xO 1 37 (.call 20 [.t 36]) :: xM 2 35 37 :: xX 3 38 0 35 :: xX 4 39 1 35 :: xX 5 40 2 35 :: hid yl192
def yl194 : UL | _ => [xM 24 66 65, yF 25 67 66 true 33 7, yL 26 68 66 true 67, xG 27 69 66 true (.bin .eql (.t 68) (xK 115)), xR 28 70 66 69, xM 29 0 70]
def yl195 : UL | _ => xM 18 60 59 :: yF 19 61 60 true 1 8 :: xG 20 62 60 true (.lda 2 (.t 61)) :: xG 21 63 60 true (.build [xZ, xZ] [(0, 1, (xK 45)), (1, 1, (xK 70))]) :: xG 22 64 60 true (.eqa false 2 .i64 (.t 62) (.t 63)) :: xR 23 65 60 64 :: hid yl194
def yl196 : UL | _ => xG 12 54 52 true (.eqi false (.t 53)) :: xR 13 55 52 54 :: xM 14 56 55 :: yM 15 57 56 true 9 :: xG 16 58 56 true (.eqi false (.t 57)) :: xR 17 59 56 58 :: hid yl195
def yl197 : UL | _ => xM 6 48 47 :: yM 7 49 48 true 4 :: xG 8 50 48 true (.eqi false (.t 49)) :: xR 9 51 48 50 :: xM 10 52 51 :: yM 11 53 52 true 5 :: hid yl196
def yl198 : UL | _ => xM 0 42 2 :: xQ 1 43 (.eqi false (.t 42)) :: xM 2 44 43 :: yM 3 45 44 true 3 :: xG 4 46 44 true (.eqi false (.t 45)) :: xR 5 47 44 46 :: hid yl197
def yb19b : UB | _ => .seq (reg0 [xQ 0 0 (.mov (.k (.bool false)))] 1) (.seq (reg0 (hid yl18u) 11) (.seq (reg0 (hid yl18w) 9) (.seq (reg0 (hid yl18y) 7) (.seq (reg0 (hid yl190) 7) (.seq (reg0 (hid yl193) 14) (.seq (reg0 (hid yl198) 30) .ret))))))
attribute [simp] yl18t yl18u yl18v yl18w yl18x yl18y yl18z yl190 yl191 yl192 yl193 yl194 yl195 yl196 yl197 yl198 yb19b
def c_Ssure : EB × List QOp × Nat := ((hid yb19b), [(.mov (.t 0))], 71)
theorem k_Ssure : cfun Tryz.prog 7 = some c_Ssure := by kernel_rfl
theorem ecalls_nlR2 {P : Program} {f : FuncId} {x : EV} {cs cs' : List EC} {rest : List EV} {H : List EO} {post : EV → List (Option EO) → Prop} (hn : NlR cs' cs) (h : ECalls P f (x :: .v (.agg cs) :: rest) H post) :
  ECalls P f (x :: .v (.agg cs') :: rest) H post := by
 intro ρ Φ w vals r' ha
 refine h ρ Φ w vals r' ?_
 obtain ⟨u0, us0, rfl, h0, ha⟩ := ha.cons_left
 obtain ⟨u, us, rfl, h1, h2⟩ := ha.cons_left
 refine All2.cons h0 (All2.cons ?_ h2)
 obtain ⟨vs, rfl, hv⟩ := h1
 exact ⟨vs, rfl, hn.all2 hv⟩
theorem hzT (k : Nat) (r : List EC) : List.take (k + 32) (hc hz ++ r) = hc hz ++ List.take k r := by
 have h : (hc hz).length = 32 := rfl
 rw [List.take_append, List.tkL (by omega), h, Nat.add_sub_cancel]
theorem hzD (k : Nat) (r : List EC) : List.drop (k + 32) (hc hz ++ r) = List.drop k r := by
 have h : (hc hz).length = 32 := rfl
 rw [List.drop_append, List.drop_of_length_le (by omega), h, Nat.add_sub_cancel]; rfl
theorem D0_len (d : Dea) (h : d.p.tx.length = 32) : (deaC d).length = 49 ∧ List.take 49 (deaC d) = deaC d ∧ List.drop 49 (deaC d) = [] := by
 have l := deaC_len h
 exact ⟨l, List.tkL (by omega), List.drop_of_length_le (by omega)⟩
set_option maxRecDepth 8000 in
theorem Ssure_ok : ECalls Tryz.prog 7 [] [] fun y H' => H' = [] ∧ y = .lit (.bool true) := by
 obtain ⟨l1, t1, d1⟩ := D0_len D1 P0_ok.1
 obtain ⟨l2, t2, d2⟩ := D0_len D2 P0_ok.1
 obtain ⟨l3, t3, d3⟩ := D0_len D3 P0_ok.1
 obtain ⟨l4, t4, d4⟩ := D0_len D4 P0_ok.1
 have hN := ecalls_nlR2 (cs := staC S0) (cs' := [iC 0, iC 50, iC 50, .fz (.lit (.slice none 0 0)), .fz (.lit (.slice none 0 0))]) ⟨.inl rfl, .inl rfl, .inl rfl, .inr ⟨rfl, _, rfl⟩, .inr ⟨rfl, _, rfl⟩, trivial⟩ (SNew_ok P0 S0 P0_ok S0_ok.1)
 rw [e_N] at hN
 have hB := SBring_ok D1 1 C0 D1_gd.1 (by simp [i64]) C0_ok
 rw [e_B] at hB
 have hC0 := SClose_ok D2 0 D2_gd.1 (by simp [i64])
 rw [e_C0] at hC0
 have hC1 := SClose_ok D3 1 D3_gd.1 (by simp [i64])
 rw [e_C1] at hC1
 refine ecalls k_Ssure ?_
 have eP : prmC P0 = hc hz ++ [iC 0, iC 100, iC 1, iC 2, iC 3, iC 5] := rfl
 simp [c_Ssure, hzT, hzD, -errV_0]
 refine call0 hN (by simp [PVv, eP, iC]) ?_
 rintro y H' ⟨rfl, rfl⟩
 refine ⟨.inl (by simp [DE]), le_ok rfl, ?_⟩
 simp [DE, hzT, hzD, l1, t1, d1, z49, -errV_0]
 refine call0 hB (by simp [DV, I, C0, coiC, iC]) ?_
 rintro y H' ⟨rfl, rfl⟩
 refine ⟨.inl (by simp [DE]), le_ok rfl, ?_⟩
 simp [DE, hzT, hzD, l1, t1, d1, l2, t2, d2, -errV_0]
 refine call0 hC0 (by simp [DV, I]) ?_
 rintro y H' ⟨rfl, rfl⟩
 refine ⟨.inl (by simp [DE]), le_ok rfl, ?_⟩
 simp [DE, l2, t2, d2, l3, t3, d3, -errV_0]
 refine call0 hC1 (by simp [DV, I]) ?_
 rintro y H' ⟨rfl, rfl⟩
 refine ⟨.inl (by simp [DE]), le_ok rfl, ?_⟩
 simp [DE, l3, t3, d3, l4, t4, d4, -errV_0]
 refine call0 SBuild_ok (by simp [DV]) ?_
 rintro y H' ⟨rfl, rfl⟩
 refine ⟨.inl (by simp [staC]), le_ok rfl, ?_⟩
 have lp1 := prmC_len P1_ok.1
 have tp1 := pm_take P1_ok.1
 have e33 : (prmC P1)[33]'(by omega) = iC 115 := idx_of (pm_at P1_ok.1 1) (by omega)
 simp [staC, S1, lp1, tp1, hzT, hzD, e33, iC]
 exact fin0
end Go.Proofs.YtddcceahaigodaaGreatDoor
