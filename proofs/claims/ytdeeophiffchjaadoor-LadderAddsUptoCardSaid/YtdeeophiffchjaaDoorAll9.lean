import Derived.Test.YtdeeophiffchjaaDoorAll8
import Derived.Test.YtdeeophiffchjaaDoorAll5
import Derived.WalkKit
import Derived.Deep.RegionLaw
import Derived.Lib.SliceRun
import Derived.Lib.Overlaps
import Derived.Lib.AppendZeros
import Derived.Lib.AppendZerosOnto
import Derived.Laws.Externs
import Derived.Test.YtdeeophiffchjaaDoorProg
namespace Go.Proofs.YtdeeophiffchjaaDoor
open Go Go.EW
set_option linter.unusedSimpArgs false
set_option linter.unusedVariables false

@[simp] def l_Ldue_1 (_ : Unit) : List EOp := [⟨0, (some 2), none, (.q (.mov (.k (.slice none 0 0)))), []⟩]
@[simp] def b_Ldue_2 (_ : Unit) : EB := reg0 (hid l_Ldue_1) 1
@[simp] def l_Ldue_3 (_ : Unit) : List EOp := [⟨0, (some 3), none, (.q (.mov (.k (.slice none 0 0)))), []⟩]
@[simp] def b_Ldue_4 (_ : Unit) : EB := reg0 (hid l_Ldue_3) 1
@[simp] def l_Ldue_5 (_ : Unit) : List EOp := [⟨0, (some 6), none, (.q (.mov (.k (.int .i64 0)))), []⟩]
@[simp] def b_Ldue_6 (_ : Unit) : EB := reg0 (hid l_Ldue_5) 1
@[simp] def l_Ldue_7 (_ : Unit) : List EOp := [⟨0, (some 7), none, (.q (.bin .lss (.t 6) (.k (.int .i64 41)))), []⟩]
@[simp] def b_Ldue_8 (_ : Unit) : EB := reg0 (hid l_Ldue_7) 1
@[simp] def b_Ldue_9 (_ : Unit) : EB := .cond (.t 7) .skip (.exit 0)
@[simp] def l_Ldue_10 (_ : Unit) : List EOp := [⟨0, (some 8), none, (.q (.mov (.t 6))), []⟩, ⟨1, (some 4), none, (.q (.mov (.t 8))), []⟩]
@[simp] def b_Ldue_11 (_ : Unit) : EB := reg0 (hid l_Ldue_10) 2
@[simp] def l_Ldue_13 (_ : Unit) : List EOp := [⟨6, (some 5), none, (.q (.mov (.t 14))), []⟩]
@[simp] def l_Ldue_12 (_ : Unit) : List EOp := ⟨0, (some 9), none, (.q (.mov (.t 0))), []⟩ :: ⟨1, (some 10), none, (.q (.mov (.t 4))), []⟩ :: ⟨2, (some 11), none, (.q (.bin .shr (.t 9) (.t 10))), []⟩ :: ⟨3, (some 12), none, (.q (.bin .add (.t 11) (.k (.int .i64 1)))), []⟩ :: ⟨4, (some 13), none, (.q (.mov (.t 4))), []⟩ :: ⟨5, (some 14), none, (.q (.bin .shl (.t 12) (.t 13))), []⟩ :: hid l_Ldue_13
@[simp] def b_Ldue_14 (_ : Unit) : EB := reg0 (hid l_Ldue_12) 7
@[simp] def l_Ldue_15 (_ : Unit) : List EOp := [⟨0, (some 15), none, (.q (.mov (.t 5))), []⟩, ⟨1, (some 16), none, (.call 26 [(.t 15)]), []⟩, ⟨2, (some 17), none, (.q (.mov (.t 4))), []⟩, ⟨3, (some 18), none, (.q (.bin .neq (.t 16) (.t 17))), []⟩]
@[simp] def b_Ldue_16 (_ : Unit) : EB := reg0 (hid l_Ldue_15) 4
@[simp] def l_Ldue_17 (_ : Unit) : List EOp := [⟨0, (some 19), none, (.q (.mov (.t 5))), []⟩, ⟨1, (some 20), none, (.q (.mov (.t 4))), []⟩, ⟨2, (some 21), none, (.q (.bin .shl (.k (.int .i64 1)) (.t 20))), []⟩, ⟨3, (some 22), none, (.q (.bin .add (.t 19) (.t 21))), []⟩, ⟨4, (some 5), none, (.q (.mov (.t 22))), []⟩]
@[simp] def b_Ldue_18 (_ : Unit) : EB := reg0 (hid l_Ldue_17) 5
@[simp] def b_Ldue_19 (_ : Unit) : EB := .cond (.t 18) (hid b_Ldue_18) .skip
@[simp] def b_Ldue_20 (_ : Unit) : EB := .seq (hid b_Ldue_16) (hid b_Ldue_19)
@[simp] def l_Ldue_21 (_ : Unit) : List EOp := [⟨0, (some 23), none, (.q (.mov (.t 5))), []⟩, ⟨1, (some 24), none, (.q (.bin .leq (.t 23) (.k (.int .i64 1099511627775)))), []⟩]
@[simp] def b_Ldue_22 (_ : Unit) : EB := reg0 (hid l_Ldue_21) 2
@[simp] def l_Ldue_23 (_ : Unit) : List EOp := [⟨0, (some 25), none, (.q (.mov (.t 3))), []⟩, ⟨1, (some 26), none, (.q (.mov (.t 5))), []⟩, ⟨2, (some 27), none, (.q (.bsl 1 [(.int .i64 0)] 1 [(0, (.t 26))])), []⟩, ⟨3, (some 28), none, (.app 3 1 8 (.t 25) (.t 27)), []⟩, ⟨4, (some 3), none, (.q (.mov (.t 28))), []⟩]
@[simp] def b_Ldue_24 (_ : Unit) : EB := reg0 (hid l_Ldue_23) 5
@[simp] def b_Ldue_25 (_ : Unit) : EB := .cond (.t 24) (hid b_Ldue_24) .skip
@[simp] def b_Ldue_26 (_ : Unit) : EB := .seq (hid b_Ldue_22) (hid b_Ldue_25)
@[simp] def b_Ldue_27 (_ : Unit) : EB := .seq (hid b_Ldue_20) (hid b_Ldue_26)
@[simp] def b_Ldue_28 (_ : Unit) : EB := .seq (hid b_Ldue_14) (hid b_Ldue_27)
@[simp] def b_Ldue_29 (_ : Unit) : EB := .seq (hid b_Ldue_11) (hid b_Ldue_28)
@[simp] def b_Ldue_30 (_ : Unit) : EB := .block 1 (hid b_Ldue_29)
@[simp] def l_Ldue_31 (_ : Unit) : List EOp := [⟨0, (some 29), none, (.q (.bin .add (.t 6) (.k (.int .i64 1)))), []⟩, ⟨1, (some 6), none, (.q (.mov (.t 29))), []⟩]
@[simp] def b_Ldue_32 (_ : Unit) : EB := reg0 (hid l_Ldue_31) 2
@[simp] def b_Ldue_33 (_ : Unit) : EB := .seq (hid b_Ldue_30) (hid b_Ldue_32)
@[simp] def b_Ldue_34 (_ : Unit) : EB := .seq (hid b_Ldue_9) (hid b_Ldue_33)
@[simp] def b_Ldue_35 (_ : Unit) : EB := .seq (hid b_Ldue_8) (hid b_Ldue_34)
@[simp] def b_Ldue_36 (_ : Unit) : EB := .loop (hid b_Ldue_35)
@[simp] def b_Ldue_37 (_ : Unit) : EB := .block 0 (hid b_Ldue_36)
@[simp] def b_Ldue_38 (_ : Unit) : EB := .seq (hid b_Ldue_6) (hid b_Ldue_37)
@[simp] def l_Ldue_39 (_ : Unit) : List EOp := [⟨0, (some 30), none, (.q (.mov (.t 3))), []⟩, ⟨1, (some 2), none, (.q (.mov (.t 30))), []⟩]
@[simp] def b_Ldue_40 (_ : Unit) : EB := reg0 (hid l_Ldue_39) 2
@[simp] def b_Ldue_41 (_ : Unit) : EB := .seq (hid b_Ldue_40) .ret
@[simp] def b_Ldue_42 (_ : Unit) : EB := .seq (hid b_Ldue_38) (hid b_Ldue_41)
@[simp] def b_Ldue_43 (_ : Unit) : EB := .seq (hid b_Ldue_4) (hid b_Ldue_42)
@[simp] def b_Ldue_44 (_ : Unit) : EB := .seq (hid b_Ldue_2) (hid b_Ldue_43)
def c_Ldue : EB × List QOp × Nat := ((hid b_Ldue_44), [(.mov (.t 2))], 31)
theorem k_Ldue : cfun Tryd.prog 32 = some c_Ldue := by kernel_rfl

@[simp] def l_RLst_1 (_ : Unit) : List EOp := [⟨0, (some 4), none, (.q (.mov (.k (.int .i64 0)))), []⟩]
@[simp] def b_RLst_2 (_ : Unit) : EB := reg0 (hid l_RLst_1) 1
@[simp] def l_RLst_3 (_ : Unit) : List EOp := [⟨0, (some 6), none, (.q (.mov (.t 0))), []⟩, ⟨1, (some 7), none, (.q (.bin .add (.t 6) (.k (.int .i64 1)))), []⟩, ⟨2, (some 5), none, (.q (.mov (.t 7))), []⟩]
@[simp] def b_RLst_4 (_ : Unit) : EB := reg0 (hid l_RLst_3) 3
@[simp] def l_RLst_5 (_ : Unit) : List EOp := [⟨0, (some 8), none, (.q (.mov (.t 5))), []⟩, ⟨1, (some 9), none, (.call 29 [(.t 8)]), []⟩, ⟨2, (some 10), none, (.q (.mov (.t 1))), []⟩, ⟨3, (some 11), none, (.q (.bin .lss (.t 9) (.t 10))), []⟩]
@[simp] def b_RLst_6 (_ : Unit) : EB := reg0 (hid l_RLst_5) 4
@[simp] def b_RLst_7 (_ : Unit) : EB := .cond (.t 11) .skip (.exit 0)
@[simp] def b_RLst_8 (_ : Unit) : EB := .seq (hid b_RLst_6) (hid b_RLst_7)
@[simp] def l_RLst_9 (_ : Unit) : List EOp := [⟨0, (some 12), none, (.q (.mov (.t 5))), []⟩, ⟨1, (some 13), none, (.q (.mov (.t 5))), []⟩, ⟨2, (some 14), none, (.call 29 [(.t 13)]), []⟩, ⟨3, (some 15), none, (.call 33 [(.t 14)]), []⟩, ⟨4, (some 16), none, (.q (.bin .add (.t 12) (.t 15))), []⟩, ⟨5, (some 5), none, (.q (.mov (.t 16))), []⟩]
@[simp] def b_RLst_10 (_ : Unit) : EB := reg0 (hid l_RLst_9) 6
@[simp] def b_RLst_11 (_ : Unit) : EB := .block 1 (hid b_RLst_10)
@[simp] def b_RLst_12 (_ : Unit) : EB := .seq (hid b_RLst_8) (hid b_RLst_11)
@[simp] def b_RLst_13 (_ : Unit) : EB := .loop (hid b_RLst_12)
@[simp] def b_RLst_14 (_ : Unit) : EB := .block 0 (hid b_RLst_13)
@[simp] def l_RLst_15 (_ : Unit) : List EOp := [⟨0, (some 17), none, (.q (.mov (.t 5))), []⟩, ⟨1, (some 18), none, (.call 29 [(.t 17)]), []⟩, ⟨2, (some 19), none, (.q (.mov (.t 1))), []⟩, ⟨3, (some 20), none, (.q (.bin .gtr (.t 18) (.t 19))), []⟩]
@[simp] def b_RLst_16 (_ : Unit) : EB := reg0 (hid l_RLst_15) 4
@[simp] def l_RLst_17 (_ : Unit) : List EOp := [⟨0, (some 21), none, (.q (.mov (.t 5))), []⟩, ⟨1, (some 22), none, (.q (.mov (.t 1))), []⟩, ⟨2, (some 23), none, (.call 33 [(.t 22)]), []⟩, ⟨3, (some 24), none, (.q (.bin .add (.t 21) (.t 23))), []⟩, ⟨4, (some 5), none, (.q (.mov (.t 24))), []⟩]
@[simp] def b_RLst_18 (_ : Unit) : EB := reg0 (hid l_RLst_17) 5
@[simp] def b_RLst_19 (_ : Unit) : EB := .cond (.t 20) (hid b_RLst_18) .skip
@[simp] def b_RLst_20 (_ : Unit) : EB := .seq (hid b_RLst_16) (hid b_RLst_19)
@[simp] def l_RLst_21 (_ : Unit) : List EOp := [⟨0, (some 25), none, (.q (.mov (.t 5))), []⟩, ⟨1, (some 4), none, (.q (.mov (.t 25))), []⟩]
@[simp] def b_RLst_22 (_ : Unit) : EB := reg0 (hid l_RLst_21) 2
@[simp] def b_RLst_23 (_ : Unit) : EB := .seq (hid b_RLst_22) .ret
@[simp] def b_RLst_24 (_ : Unit) : EB := .seq (hid b_RLst_20) (hid b_RLst_23)
@[simp] def b_RLst_25 (_ : Unit) : EB := .seq (hid b_RLst_14) (hid b_RLst_24)
@[simp] def b_RLst_26 (_ : Unit) : EB := .seq (hid b_RLst_4) (hid b_RLst_25)
@[simp] def b_RLst_27 (_ : Unit) : EB := .seq (hid b_RLst_2) (hid b_RLst_26)
def c_RLst : EB × List QOp × Nat := ((hid b_RLst_27), [(.mov (.t 4))], 26)
theorem k_RLst : cfun Tryd.prog 21 = some c_RLst := by kernel_rfl


/-! ### what is due -/
def numv (l : List Nat) : List (List FV) := l.map fun n : Nat => [.lit (.int .i64 (n : Int))]
@[simp] theorem numv_len (l : List Nat) : (numv l).length = l.length := by simp [numv]
theorem numv_get {l : List Nat} {i n : Nat} (h : l[i]? = some n) : (numv l)[i]? = some [.lit (.int .i64 (n : Int))] := by simp [numv, h]
theorem shr_up (m r : Nat) (hr : r ≤ 40) : ishr .i64 ((m : Int) - 1) (r : Int) + 1 = (((m + pw r - 1) / pw r : Nat) : Int) := by
  have hp := pow_pos' r
  have hpw : pw r = 2 ^ r := rfl
  rw [ishr_pow .i64 _ r (by simp [IntKind.bits]; omega)]
  have e : (2 : Int) ^ r = ((pw r : Nat) : Int) := by rw [hpw]; simp
  rw [e, Int.natCast_ediv]
  have e2 : ((m + pw r - 1 : Nat) : Int) = ((m : Int) - 1) + 1 * ((pw r : Nat) : Int) := by omega
  rw [e2, Int.add_mul_ediv_right _ _ (by omega)]
theorem shl_pw (q r : Nat) (hr : r ≤ 40) (h : q * pw r < 9223372036854775808) : ishl .i64 (q : Int) (r : Int) = ((q * pw r : Nat) : Int) := by
  unfold ishl
  have e1 : min ((r : Int).toNat) IntKind.i64.bits = r := by rw [Int.toNat_natCast]; exact Nat.min_eq_left (by simp [IntKind.bits]; omega)
  rw [e1]
  have e2 : (2 : Int) ^ r = ((pw r : Nat) : Int) := by unfold pw; simp
  rw [e2, ← Int.natCast_mul]
  exact wrap_i64 (by omega) (by omega)
theorem pw_40 {r : Nat} (hr : r ≤ 40) : pw r ≤ 1099511627776 := by
  have h := pw_le hr
  rw [show pw 40 = 1099511627776 from rfl] at h
  exact h

set_option maxHeartbeats 2000000 in
theorem Ldue_ok (m : Nat) (hm : m ≤ 1099511627776) : ECalls Tryd.prog 32 [NV ((m : Int) - 1)] [] fun y H' => H' = [some (.row 3 1 (numv (dueN m)))] ∧ y = .v (.c (.row 0 (dueN m).length)) := by
  obtain ⟨x, hx⟩ : ∃ x, (m : Int) - 1 = x := ⟨_, rfl⟩
  rw [hx]
  refine ecalls k_Ldue ?_
  simp [c_Ldue, NV]
  refine loopW _ (weak_nilR 3 3 1 rfl (by decide)) ?_
  simp
  refine eloop (α := Nat) (fun r => r ≤ 41) (fun r => 41 - r) (fun r => [NV x, .any, .any, .v (.c (.row 0 (dueA m r).length)), .any, .any, NV r, .any, .any, .any, .any, .any, .any, .any, .any, .any, .any, .any, .any, .any, .any, .any, .any, .any, .any, .any, .any, .any, .any, .any, .any]) (fun r => [some (.row 3 1 (numv (dueA m r)))]) 0 [48]
    (by omega) (by simp [NV, dueA]) (by simp [numv, dueA]) (by simp) (by simp) (by simp) ?_
  intro r hr
  by_cases hlt : r < 41
  · have hr40 : r ≤ 40 := by omega
    have s1 := shr_up m r hr40
    rw [hx] at s1
    have hp := pow_pos' r
    have hp40 := pw_40 hr40
    have hpw : pw r = 2 ^ r := rfl
    have hul := upN_lt m r
    have hup : (m + pw r - 1) / pw r * pw r = upN m r := rfl
    have s2 := shl_pw ((m + pw r - 1) / pw r) r hr40 (by rw [hup]; omega)
    rw [hup] at s2
    have s3 := shl_pw 1 r hr40 (by omega)
    rw [Nat.one_mul, show ((1 : Nat) : Int) = 1 from rfl] at s3
    have hq : (m + pw r - 1) / pw r ≤ m + pw r - 1 := Nat.div_le_self _ _
    have w2 : IntKind.i64.wrap ((r : Int) + 1) = ((r + 1 : Nat) : Int) := wrap_i64 (by omega) (by omega)
    have n0 : ¬ ((r : Int) < 0) := by omega
    have rl : (r : Int) < 41 := by omega
    have hsu := dueA_succ m r
    have hdl : (dueA m r).length ≤ 41 := by
      have h := List.length_filter_le (fun x => decide (x ≤ topN)) ((List.range r).map (lstN m))
      rw [List.length_map, List.length_range] at h
      exact Nat.le_trans h (by omega)
    have hln : lstN m r = if rk (upN m r) = r then upN m r else upN m r + pw r := rfl
    obtain ⟨q, hqe⟩ : ∃ q, (m + pw r - 1) / pw r = q := ⟨_, rfl⟩
    rw [hqe] at s1 s2 hq
    have w1 : IntKind.i64.wrap (ishr .i64 x (r : Int) + 1) = (q : Int) := by rw [s1]; exact wrap_i64 (by omega) (by omega)
    obtain ⟨u, hu⟩ : ∃ u, upN m r = u := ⟨_, rfl⟩
    rw [hu] at s2 hln hul
    have w3 : IntKind.i64.wrap ((u : Int) + ((pw r : Nat) : Int)) = ((u + pw r : Nat) : Int) := wrap_i64 (by omega) (by omega)
    simp [NV, hlt, rl, n0, w1, s2, -Int.natCast_add]
    refine call0 (Lrank_ok u (by omega)) (by simp [NV]) ?_
    rintro y H' ⟨rfl, rfl⟩
    refine ⟨.inl (by simp [NV]), le_ok rfl, ?_⟩
    by_cases hru : rk u = r
    · rw [if_pos hru] at hln
      rw [hln] at hsu
      by_cases hle : u ≤ 1099511627775
      · have hle' : ((u : Nat) : Int) ≤ 1099511627775 := by omega
        rw [if_pos (show u ≤ topN from hle)] at hsu
        have hnv : numv (dueA m r) ++ [[.lit (.int .i64 ((u : Nat) : Int))]] = numv (dueA m (r + 1)) := by rw [hsu]; simp [numv]
        have hll : (dueA m (r + 1)).length = (dueA m r).length + 1 := by rw [hsu]; simp
        simp [NV, hru, hle, hle', w2, -Int.natCast_add]
        refine ⟨by omega, ?_⟩
        exact round (r + 1) [305] (by omega) (by omega) (by simp [NV, hll]) (by simp [hnv]) (by simp) (by simp) (by simp)
      · have hle' : ¬ ((u : Nat) : Int) ≤ 1099511627775 := by omega
        rw [if_neg (show ¬ u ≤ topN from hle), List.append_nil] at hsu
        simp [NV, hru, hle, hle', w2, -Int.natCast_add]
        exact round (r + 1) [0] (by omega) (by omega) (by simp [NV, hsu]) (by simp [hsu]) (by simp) (by simp) (by simp)
    · have hru' : ¬ ((rk u : Nat) : Int) = (r : Int) := by omega
      rw [if_neg hru] at hln
      rw [hln] at hsu
      obtain ⟨v, hv⟩ : ∃ v, u + pw r = v := ⟨_, rfl⟩
      rw [hv] at hsu w3
      by_cases hle : v ≤ 1099511627775
      · have hle' : ((v : Nat) : Int) ≤ 1099511627775 := by omega
        rw [if_pos (show v ≤ topN from hle)] at hsu
        have hnv : numv (dueA m r) ++ [[.lit (.int .i64 ((v : Nat) : Int))]] = numv (dueA m (r + 1)) := by rw [hsu]; simp [numv]
        have hll : (dueA m (r + 1)).length = (dueA m r).length + 1 := by rw [hsu]; simp
        simp [NV, hru', s3, w3, n0, hle, hle', w2, -Int.natCast_add]
        refine ⟨by omega, ?_⟩
        exact round (r + 1) [385] (by omega) (by omega) (by simp [NV, hll]) (by simp [hnv]) (by simp) (by simp) (by simp)
      · have hle' : ¬ ((v : Nat) : Int) ≤ 1099511627775 := by omega
        rw [if_neg (show ¬ v ≤ topN from hle), List.append_nil] at hsu
        simp [NV, hru', s3, w3, n0, hle, hle', w2, -Int.natCast_add]
        exact round (r + 1) [0] (by omega) (by omega) (by simp [NV, hsu]) (by simp [hsu]) (by simp) (by simp) (by simp)
  · have h41 : r = 41 := by omega
    subst h41
    simp [NV]
    exact fin [0] (by decide) rfl rfl rfl ⟨rfl, rfl⟩

set_option maxHeartbeats 2000000 in
theorem RLst_ok (m r : Nat) (hm : m ≤ 1099511627776) (hr : r ≤ 40) : ECalls Tryd.prog 21 [NV ((m : Int) - 1), NV r] [] fun y H' => H' = [] ∧ y = NV (lstN m r) := by
  have w0 : IntKind.i64.wrap ((m : Int) - 1 + 1) = (m : Int) := by rw [wrap_i64 (by omega) (by omega)]; omega
  have hp40 := pw_40 hr
  have hpw : pw r = 2 ^ r := rfl
  have hul := upN_lt m r
  have hug := upN_ge m r
  obtain ⟨x, hx⟩ : ∃ x, (m : Int) - 1 = x := ⟨_, rfl⟩
  rw [hx] at w0 ⊢
  refine ecalls k_RLst ?_
  simp [c_RLst, NV, w0]
  refine eloop (α := Nat) (fun c => upN c r = upN m r ∧ c ≤ upN m r) (fun c => upN m r - c) (fun c => [.any, NV r, .any, .any, .any, NV c, .any, .any, .any, .any, .any, .any, .any, .any, .any, .any, .any, .any, .any, .any, .any, .any, .any, .any, .any, .any]) (fun _ => []) m []
    ⟨rfl, hug⟩ (by simp [NV]) (by simp) (by simp) (by simp) (by simp) ?_
  rintro c ⟨hc1, hc2⟩
  have hc9 : c < 9223372036854775808 := by omega
  have hrc := rk_le c
  simp [NV]
  refine call0 (RRank_ok c hc9) (by simp [NV]) ?_
  rintro y H' ⟨rfl, rfl⟩
  refine ⟨.inl (by simp [NV]), le_ok rfl, ?_⟩
  by_cases hlt : rk c < r
  · obtain ⟨h1, h2⟩ := upN_step hr hlt
    have hpc : pw (rk c) = 2 ^ rk c := rfl
    have hpc0 := pow_pos' (rk c)
    rw [← hpc] at h1 h2
    have w1 : IntKind.i64.wrap ((c : Int) + ((pw (rk c) : Nat) : Int)) = ((c + pw (rk c) : Nat) : Int) := wrap_i64 (by omega) (by omega)
    have hpow := Rpow_ok (rk c) (by omega)
    have hrkc := RRank_ok c hc9
    obtain ⟨k, hk⟩ : ∃ k, rk c = k := ⟨_, rfl⟩
    rw [hk] at hlt h1 h2 hpc hpc0 w1 hpow hrkc hrc ⊢
    simp [NV, hlt]
    refine call0 hrkc (by simp [NV]) ?_
    rintro y H' ⟨rfl, rfl⟩
    refine ⟨.inl (by simp [NV]), le_ok rfl, ?_⟩
    simp [NV]
    refine call0 hpow (by simp [NV]) ?_
    rintro y H' ⟨rfl, rfl⟩
    refine ⟨.inl (by simp [NV]), le_ok rfl, ?_⟩
    simp [NV, w1, -Int.natCast_add]
    exact round (c + pw k) [] ⟨by rw [h1]; exact hc1, by omega⟩ (by omega) (by simp [NV]) (by simp) (by simp) (by simp) (by simp)
  · have hge : r ≤ rk c := by omega
    have hd : 2 ^ r ∣ c := Nat.dvd_trans (Nat.pow_dvd_pow 2 hge) (rk_dvd c)
    have hcu : c = upN m r := by rw [← hc1]; exact (upN_self hd).symm
    have hl : lstN m r = if rk c = r then c else c + pw r := by rw [hcu]; rfl
    rw [hl]
    have hrkc := RRank_ok c hc9
    have w1 : IntKind.i64.wrap ((c : Int) + ((pw r : Nat) : Int)) = ((c + pw r : Nat) : Int) := wrap_i64 (by omega) (by omega)
    obtain ⟨k, hk⟩ : ∃ k, rk c = k := ⟨_, rfl⟩
    rw [hk] at hge hlt hrkc hrc ⊢
    simp [NV, hlt]
    refine call0 hrkc (by simp [NV]) ?_
    rintro y H' ⟨rfl, rfl⟩
    refine ⟨.inl (by simp [NV]), le_ok rfl, ?_⟩
    by_cases he : k = r
    · have n1 : ¬ r < k := by omega
      simp [NV, he]
      exact fin [] (by decide) rfl rfl rfl ⟨rfl, rfl⟩
    · have n1 : r < k := by omega
      simp [NV, he, n1]
      refine call0 (Rpow_ok r (by omega)) (by simp [NV]) ?_
      rintro y H' ⟨rfl, rfl⟩
      refine ⟨.inl (by simp [NV]), le_ok rfl, ?_⟩
      simp [NV, w1, -Int.natCast_add]
      exact fin [] (by decide) rfl rfl rfl ⟨rfl, rfl⟩

end Go.Proofs.YtdeeophiffchjaaDoor

namespace Go.Proofs.YtdeeophiffchjaaDoor
open Go Go.EW
set_option linter.unusedSimpArgs false
set_option linter.unusedVariables false

@[simp] def l_Lmay_1 (_ : Unit) : List EOp := [⟨0, (some 1), none, (.q (.box 31 (.t 0))), []⟩, ⟨1, (some 2), none, (.q (.mov (.k (.bool false)))), []⟩]
@[simp] def b_Lmay_2 (_ : Unit) : EB := reg0 (hid l_Lmay_1) 2
@[simp] def l_Lmay_4 (_ : Unit) : List EOp := [⟨6, (some 12), (some (9, false)), (.q (.bin .gtr (.t 11) (.k (.int .i64 1099511627775)))), []⟩, ⟨7, (some 13), none, (.q (.pick (.t 9) (.k (.bool true)) (.t 12))), []⟩]
@[simp] def l_Lmay_3 (_ : Unit) : List EOp := ⟨0, (some 6), none, (.q (.fad 0 (.t 1))), []⟩ :: ⟨1, (some 7), none, (.q (.ldc (.t 6))), []⟩ :: ⟨2, (some 8), none, (.q (.bin .lss (.t 7) (.k (.int .i64 (-1))))), []⟩ :: ⟨3, (some 9), none, (.q (.mov (.t 8))), []⟩ :: ⟨4, (some 10), (some (9, false)), (.q (.fad 0 (.t 1))), []⟩ :: ⟨5, (some 11), (some (9, false)), (.q (.ldc (.t 10))), []⟩ :: hid l_Lmay_4
@[simp] def b_Lmay_5 (_ : Unit) : EB := reg0 (hid l_Lmay_3) 8
@[simp] def l_Lmay_6 (_ : Unit) : List EOp := [⟨0, (some 2), none, (.q (.mov (.k (.bool false)))), []⟩]
@[simp] def b_Lmay_7 (_ : Unit) : EB := reg0 (hid l_Lmay_6) 1
@[simp] def b_Lmay_8 (_ : Unit) : EB := .seq (hid b_Lmay_7) .ret
@[simp] def b_Lmay_9 (_ : Unit) : EB := .cond (.t 13) (hid b_Lmay_8) .skip
@[simp] def b_Lmay_10 (_ : Unit) : EB := .seq (hid b_Lmay_5) (hid b_Lmay_9)
@[simp] def l_Lmay_11 (_ : Unit) : List EOp := [⟨0, (some 14), none, (.q (.fad 0 (.t 1))), []⟩, ⟨1, (some 15), none, (.q (.ldc (.t 14))), []⟩, ⟨2, (some 16), none, (.call 32 [(.t 15)]), []⟩, ⟨3, (some 3), none, (.q (.mov (.t 16))), []⟩]
@[simp] def b_Lmay_12 (_ : Unit) : EB := reg0 (hid l_Lmay_11) 4
@[simp] def l_Lmay_13 (_ : Unit) : List EOp := [⟨0, (some 17), none, (.q (.mov (.t 3))), []⟩, ⟨1, (some 18), none, (.q (.len (.t 17))), []⟩, ⟨2, (some 19), none, (.q (.fad 1 (.t 1))), []⟩, ⟨3, (some 20), none, (.q (.ldc (.t 19))), []⟩, ⟨4, (some 21), none, (.q (.len (.t 20))), []⟩, ⟨5, (some 22), none, (.q (.bin .neq (.t 18) (.t 21))), []⟩]
@[simp] def b_Lmay_14 (_ : Unit) : EB := reg0 (hid l_Lmay_13) 6
@[simp] def l_Lmay_15 (_ : Unit) : List EOp := [⟨0, (some 2), none, (.q (.mov (.k (.bool false)))), []⟩]
@[simp] def b_Lmay_16 (_ : Unit) : EB := reg0 (hid l_Lmay_15) 1
@[simp] def b_Lmay_17 (_ : Unit) : EB := .seq (hid b_Lmay_16) .ret
@[simp] def b_Lmay_18 (_ : Unit) : EB := .cond (.t 22) (hid b_Lmay_17) .skip
@[simp] def b_Lmay_19 (_ : Unit) : EB := .seq (hid b_Lmay_14) (hid b_Lmay_18)
@[simp] def l_Lmay_20 (_ : Unit) : List EOp := [⟨0, (some 23), none, (.q (.fad 1 (.t 1))), []⟩, ⟨1, (some 24), none, (.q (.ldc (.t 23))), []⟩, ⟨2, (some 25), none, (.q (.len (.t 24))), []⟩, ⟨3, (some 26), none, (.q (.mov (.k (.int .i64 0)))), []⟩]
@[simp] def b_Lmay_21 (_ : Unit) : EB := reg0 (hid l_Lmay_20) 4
@[simp] def l_Lmay_22 (_ : Unit) : List EOp := [⟨0, (some 27), none, (.q (.bin .lss (.t 26) (.t 25))), []⟩]
@[simp] def b_Lmay_23 (_ : Unit) : EB := reg0 (hid l_Lmay_22) 1
@[simp] def b_Lmay_24 (_ : Unit) : EB := .cond (.t 27) .skip (.exit 0)
@[simp] def l_Lmay_25 (_ : Unit) : List EOp := [⟨0, (some 28), none, (.q (.mov (.t 26))), []⟩, ⟨1, (some 29), none, (.q (.isl 33 (.t 24) (.t 26))), []⟩, ⟨2, (some 30), none, (.q (.lda 33 (.t 29))), []⟩, ⟨3, (some 5), none, (.q (.alloc 54 (([(.int .i64 0)] : List Value) ++ zU8))), []⟩, ⟨4, (some 4), none, (.q (.mov (.t 28))), []⟩, ⟨5, none, none, (.sto 33 (.t 5) (.t 30)), []⟩]
@[simp] def b_Lmay_26 (_ : Unit) : EB := reg0 (hid l_Lmay_25) 6
@[simp] def l_Lmay_29 (_ : Unit) : List EOp := [⟨12, (some 43), (some (38, false)), (.q (.ssl 33 (.t 41) none (some (.t 42)))), []⟩, ⟨13, (some 44), (some (38, false)), (.call 27 [(.t 39), (.t 43)]), []⟩, ⟨14, (some 45), (some (38, false)), (.q (.un .not (.t 44))), []⟩, ⟨15, (some 46), none, (.q (.pick (.t 38) (.k (.bool true)) (.t 45))), []⟩]
@[simp] def l_Lmay_28 (_ : Unit) : List EOp := ⟨6, (some 37), none, (.q (.bin .neq (.t 32) (.t 36))), []⟩ :: ⟨7, (some 38), none, (.q (.mov (.t 37))), []⟩ :: ⟨8, (some 39), (some (38, false)), (.q (.lda 33 (.t 5))), []⟩ :: ⟨9, (some 40), (some (38, false)), (.q (.fad 1 (.t 1))), []⟩ :: ⟨10, (some 41), (some (38, false)), (.q (.ldc (.t 40))), []⟩ :: ⟨11, (some 42), (some (38, false)), (.q (.mov (.t 4))), []⟩ :: hid l_Lmay_29
@[simp] def l_Lmay_27 (_ : Unit) : List EOp := ⟨0, (some 31), none, (.q (.fad 0 (.t 5))), []⟩ :: ⟨1, (some 32), none, (.q (.ldc (.t 31))), []⟩ :: ⟨2, (some 33), none, (.q (.mov (.t 3))), []⟩ :: ⟨3, (some 34), none, (.q (.mov (.t 4))), []⟩ :: ⟨4, (some 35), none, (.q (.isl 1 (.t 33) (.t 34))), []⟩ :: ⟨5, (some 36), none, (.q (.ldc (.t 35))), []⟩ :: hid l_Lmay_28
@[simp] def b_Lmay_30 (_ : Unit) : EB := reg0 (hid l_Lmay_27) 16
@[simp] def l_Lmay_31 (_ : Unit) : List EOp := [⟨0, (some 2), none, (.q (.mov (.k (.bool false)))), []⟩]
@[simp] def b_Lmay_32 (_ : Unit) : EB := reg0 (hid l_Lmay_31) 1
@[simp] def b_Lmay_33 (_ : Unit) : EB := .seq (hid b_Lmay_32) .ret
@[simp] def b_Lmay_34 (_ : Unit) : EB := .cond (.t 46) (hid b_Lmay_33) .skip
@[simp] def b_Lmay_35 (_ : Unit) : EB := .seq (hid b_Lmay_30) (hid b_Lmay_34)
@[simp] def b_Lmay_36 (_ : Unit) : EB := .seq (hid b_Lmay_26) (hid b_Lmay_35)
@[simp] def b_Lmay_37 (_ : Unit) : EB := .block 1 (hid b_Lmay_36)
@[simp] def l_Lmay_38 (_ : Unit) : List EOp := [⟨0, (some 47), none, (.q (.bin .add (.t 26) (.k (.int .i64 1)))), []⟩, ⟨1, (some 26), none, (.q (.mov (.t 47))), []⟩]
@[simp] def b_Lmay_39 (_ : Unit) : EB := reg0 (hid l_Lmay_38) 2
@[simp] def b_Lmay_40 (_ : Unit) : EB := .seq (hid b_Lmay_37) (hid b_Lmay_39)
@[simp] def b_Lmay_41 (_ : Unit) : EB := .seq (hid b_Lmay_24) (hid b_Lmay_40)
@[simp] def b_Lmay_42 (_ : Unit) : EB := .seq (hid b_Lmay_23) (hid b_Lmay_41)
@[simp] def b_Lmay_43 (_ : Unit) : EB := .loop (hid b_Lmay_42)
@[simp] def b_Lmay_44 (_ : Unit) : EB := .block 0 (hid b_Lmay_43)
@[simp] def b_Lmay_45 (_ : Unit) : EB := .seq (hid b_Lmay_21) (hid b_Lmay_44)
@[simp] def l_Lmay_46 (_ : Unit) : List EOp := [⟨0, (some 2), none, (.q (.mov (.k (.bool true)))), []⟩]
@[simp] def b_Lmay_47 (_ : Unit) : EB := reg0 (hid l_Lmay_46) 1
@[simp] def b_Lmay_48 (_ : Unit) : EB := .seq (hid b_Lmay_47) .ret
@[simp] def b_Lmay_49 (_ : Unit) : EB := .seq (hid b_Lmay_45) (hid b_Lmay_48)
@[simp] def b_Lmay_50 (_ : Unit) : EB := .seq (hid b_Lmay_19) (hid b_Lmay_49)
@[simp] def b_Lmay_51 (_ : Unit) : EB := .seq (hid b_Lmay_12) (hid b_Lmay_50)
@[simp] def b_Lmay_52 (_ : Unit) : EB := .seq (hid b_Lmay_10) (hid b_Lmay_51)
@[simp] def b_Lmay_53 (_ : Unit) : EB := .seq (hid b_Lmay_2) (hid b_Lmay_52)
def c_Lmay : EB × List QOp × Nat := ((hid b_Lmay_53), [(.mov (.t 2))], 48)
theorem k_Lmay : cfun Tryd.prog 20 = some c_Lmay := by kernel_rfl


def ladC (l : Lad) : List EC := [.fz (.lit (.int .i64 l.nxt)), .fz (.sl 33 (stpv l.steps))]
def LV (l : Lad) : EV := .v (.agg (ladC l))
structure Lad.ok (l : Lad) : Prop where
  nx : -9223372036854775808 ≤ l.nxt ∧ l.nxt ≤ 9223372036854775807
  st : ∀ s ∈ l.steps, (-9223372036854775808 ≤ s.num ∧ s.num ≤ 9223372036854775807) ∧ s.sec.length = 32
  len : l.steps.length ≤ 100000000
noncomputable def mayB (l : Lad) : Bool := @decide (mayL l) (Classical.propDecidable _)
theorem mayB_t {l : Lad} (h : mayL l) : mayB l = true := by unfold mayB; exact @decide_eq_true _ (Classical.propDecidable _) h
theorem mayB_f {l : Lad} (h : ¬ mayL l) : mayB l = false := by unfold mayB; exact @decide_eq_false _ (Classical.propDecidable _) h
theorem mayB_iff {l : Lad} : mayB l = true ↔ mayL l := ⟨fun h => @of_decide_eq_true _ (Classical.propDecidable _) h, mayB_t⟩
/-- A step whose number is due may be. -/
theorem stp_ok {l : Lad} (hl : l.ok) {m i d : Nat} {s : Stp} (hs : l.steps[i]? = some s) (hd : (dueN m)[i]? = some d) (hn : s.num = (d : Int)) : s.ok := by
  have h1 := dueN_le (List.mem_of_getElem? hd)
  unfold topN at h1
  exact ⟨by omega, by omega, (hl.st s (List.mem_of_getElem? hs)).2⟩
theorem take_ok {l : Lad} (hl : l.ok) {m i : Nat} (h : mayA (dueN m) l.steps i) : ∀ x ∈ l.steps.take i, x.ok := by
  intro x hx
  obtain ⟨k, hk⟩ := List.getElem?_of_mem hx
  have hki : k < i := by
    have := lt_len hk
    rw [List.length_take] at this
    omega
  rw [List.getElem?_take, if_pos hki] at hk
  obtain ⟨s, d, e1, e2, e3, _⟩ := h k hki
  rw [hk] at e1
  cases e1
  exact stp_ok hl hk e2 e3
theorem may_ok' {l : Lad} (hl : l.ok) (h : mayL l) : ∀ x ∈ l.steps, x.ok := by
  have := take_ok hl h.2.2.2
  rwa [List.take_length] at this

set_option maxHeartbeats 4000000 in
theorem Lmay_ok (l : Lad) (hl : l.ok) : ECalls Tryd.prog 20 [LV l] [] fun y H' => H' = [] ∧ y = .lit (.bool (mayB l)) := by
  obtain ⟨⟨nx0, nx1⟩, hst, hlen⟩ := id hl
  refine ecalls k_Lmay ?_
  simp [c_Lmay, LV, ladC]
  by_cases h0 : l.nxt < -1
  · rw [mayB_f (fun h => by have := h.1; omega)]
    have h0n : ¬ -1 ≤ l.nxt := by omega
    simp [h0, h0n]
    exact fin [] (by decide) rfl rfl rfl ⟨rfl, rfl⟩
  have h0p : -1 ≤ l.nxt := by omega
  by_cases h1 : 1099511627775 < l.nxt
  · rw [mayB_f (fun h => by have := h.2.1; omega)]
    simp [h0, h0p, h1]
    exact fin [] (by decide) rfl rfl rfl ⟨rfl, rfl⟩
  obtain ⟨m, hm⟩ : ∃ m, (l.nxt + 1).toNat = m := ⟨_, rfl⟩
  have hm40 : m ≤ 1099511627776 := by omega
  have hnx : (m : Int) - 1 = l.nxt := by omega
  have hdue := Ldue_ok m hm40
  rw [hnx] at hdue
  have hml : mayL l ↔ l.steps.length = (dueN m).length ∧ mayA (dueN m) l.steps l.steps.length := by
    unfold mayL
    rw [hm]
    exact ⟨fun h => h.2.2, fun h => ⟨by omega, by omega, h⟩⟩
  have hdn := dueN_len m
  have hdle : ∀ a ∈ dueN m, a ≤ topN := fun a h => dueN_le h
  obtain ⟨D, hD⟩ : ∃ D, dueN m = D := ⟨_, rfl⟩
  have h1p : l.nxt ≤ 1099511627775 := by omega
  simp [h0, h0p, h1, h1p]
  refine call0 hdue (by simp [NV]) ?_
  rintro y H' ⟨rfl, rfl⟩
  refine ⟨.inl (by simp), by simp, ?_⟩
  by_cases hll : D.length = l.steps.length
  rotate_left
  · have hll' : ¬ ((D.length : Nat) : Int) = (l.steps.length : Int) := by omega
    rw [mayB_f (fun h => by have := (hml.1 h).1; rw [hD] at this; omega)]
    simp [hD, hll', hll]
    exact fin [] (by decide) rfl rfl rfl ⟨rfl, rfl⟩
  simp [hD, hll]
  obtain ⟨B, hB⟩ : ∃ B, mayB l = B := ⟨_, rfl⟩
  rw [hB]
  rw [hD] at hml hdn hdle
  refine eloop (α := Nat) (fun i => i ≤ l.steps.length ∧ mayA D l.steps i) (fun i => l.steps.length - i)
    (fun i => [.any, .v (.c (.ptr 0 0)), .any, .v (.c (.row 1 l.steps.length)), .any, .any, .any, .any, .any, .any, .any, .any, .any, .any, .any, .any, .any, .any, .any, .any, .any, .any, .any, .any, SLv l.steps, NV l.steps.length, NV i, .any, .any, .any, .any, .any, .any, .any, .any, .any, .any, .any, .any, .any, .any, .any, .any, .any, .any, .any, .any, .any])
    (fun _ => [some (.box 31 (ladC l)), some (.row 3 1 (numv D))]) 0 [0, 192]
    ⟨Nat.zero_le _, mayA_0 _ _⟩ (by simp [NV, SLv]) (by simp [ladC]) (by simp) (by simp) (by simp) ?_
  rintro i ⟨hi, hA⟩
  by_cases hlt : i < l.steps.length
  · have hli : (i : Int) < (l.steps.length : Int) := by omega
    obtain ⟨s, hs⟩ : ∃ s, l.steps[i]? = some s := ⟨l.steps[i], by simp [hlt]⟩
    obtain ⟨d, hd⟩ : ∃ d, D[i]? = some d := ⟨D[i]'(by omega), by simp [show i < D.length by omega]⟩
    have hge : (stpv l.steps)[i]'(by simp [hlt]) = stpF s := by
      have e := stpv_get hs
      rw [List.getElem?_eq_getElem (by simp [hlt])] at e
      exact Option.some.inj e
    have hgd : (numv D)[i]'(by simp; omega) = [.lit (.int .i64 (d : Int))] := by
      have e := numv_get hd
      rw [List.getElem?_eq_getElem (by simp; omega)] at e
      exact Option.some.inj e
    have hs32 := (hst s (List.mem_of_getElem? hs)).2
    have hfl := stpF_len hs32
    have hcl := stpC_len hs32
    have hct := stpC_take hs32
    have hiD : i < D.length := by omega
    have w2 : IntKind.i64.wrap ((i : Int) + 1) = ((i + 1 : Nat) : Int) := wrap_i64 (by omega) (by omega)
    by_cases hn : s.num = (d : Int)
    · have hso : s.ok := stp_ok hl hs (by rw [hD]; exact hd) hn
      have hto := take_ok (m := m) hl (i := i) (by rw [hD]; exact hA)
      have hag := Lagr_ok s (l.steps.take i) hso hto (by rw [List.length_take]; omega)
      simp [NV, SLv, ladC, hlt, hli, hge, hgd, hfl, hcl, hct, stpF_fz, se0, hn, hiD, hll]
      refine ⟨by omega, ?_⟩
      refine call0 hag (by simp [SLv, stpv, List.map_take]) ?_
      rintro y H' ⟨rfl, rfl⟩
      refine ⟨.inl (by simp), le_ok rfl, ?_⟩
      cases ha : agrS s (l.steps.take i) with
      | true =>
        simp [NV, w2, -Int.natCast_add]
        exact round (i + 1) [0, 1] ⟨by omega, mayA_succ hA hs hd hn ha⟩ (by omega) (by simp [NV, SLv]) (by simp [ladC]) (by simp [ladC]) (by simp) (by simp)
      | false =>
        have hbf : B = false := by rw [← hB]; exact mayB_f (fun h => mayA_not hlt hs hd (.inr ha) (hml.1 h).2)
        subst hbf
        simp
        exact fin [] (by decide) rfl rfl rfl ⟨rfl, rfl⟩
    · have hbf : B = false := by rw [← hB]; exact mayB_f (fun h => mayA_not hlt hs hd (.inl hn) (hml.1 h).2)
      subst hbf
      simp [NV, SLv, ladC, hlt, hli, hge, hgd, hfl, hcl, hct, stpF_fz, se0, hn, hiD, hll]
      exact fin [] (by decide) rfl rfl rfl ⟨rfl, rfl⟩
  · have hie : i = l.steps.length := by omega
    subst hie
    have hbt : B = true := by rw [← hB]; exact mayB_t (hml.2 ⟨hll.symm, hA⟩)
    subst hbt
    simp [NV, SLv, ladC]
    exact fin [] (by decide) rfl rfl rfl ⟨rfl, rfl⟩

end Go.Proofs.YtdeeophiffchjaaDoor

namespace Go.Proofs.YtdeeophiffchjaaDoor
open Go Go.EW
set_option linter.unusedSimpArgs false
set_option linter.unusedVariables false

@[simp] def l_RMay_1 (_ : Unit) : List EOp := [⟨0, (some 1), none, (.q (.box 24 (.t 0))), []⟩, ⟨1, (some 2), none, (.q (.mov (.k (.bool false)))), []⟩]
@[simp] def b_RMay_2 (_ : Unit) : EB := reg0 (hid l_RMay_1) 2
@[simp] def l_RMay_4 (_ : Unit) : List EOp := [⟨6, (some 15), (some (12, false)), (.q (.bin .gtr (.t 14) (.k (.int .i64 1099511627775)))), []⟩, ⟨7, (some 16), none, (.q (.pick (.t 12) (.k (.bool true)) (.t 15))), []⟩]
@[simp] def l_RMay_3 (_ : Unit) : List EOp := ⟨0, (some 9), none, (.q (.fad 0 (.t 1))), []⟩ :: ⟨1, (some 10), none, (.q (.ldc (.t 9))), []⟩ :: ⟨2, (some 11), none, (.q (.bin .lss (.t 10) (.k (.int .i64 (-1))))), []⟩ :: ⟨3, (some 12), none, (.q (.mov (.t 11))), []⟩ :: ⟨4, (some 13), (some (12, false)), (.q (.fad 0 (.t 1))), []⟩ :: ⟨5, (some 14), (some (12, false)), (.q (.ldc (.t 13))), []⟩ :: hid l_RMay_4
@[simp] def b_RMay_5 (_ : Unit) : EB := reg0 (hid l_RMay_3) 8
@[simp] def l_RMay_6 (_ : Unit) : List EOp := [⟨0, (some 2), none, (.q (.mov (.k (.bool false)))), []⟩]
@[simp] def b_RMay_7 (_ : Unit) : EB := reg0 (hid l_RMay_6) 1
@[simp] def b_RMay_8 (_ : Unit) : EB := .seq (hid b_RMay_7) .ret
@[simp] def b_RMay_9 (_ : Unit) : EB := .cond (.t 16) (hid b_RMay_8) .skip
@[simp] def b_RMay_10 (_ : Unit) : EB := .seq (hid b_RMay_5) (hid b_RMay_9)
@[simp] def l_RMay_11 (_ : Unit) : List EOp := [⟨0, (some 3), none, (.q (.mov (.k (.int .i64 0)))), []⟩]
@[simp] def b_RMay_12 (_ : Unit) : EB := reg0 (hid l_RMay_11) 1
@[simp] def l_RMay_13 (_ : Unit) : List EOp := [⟨0, (some 4), none, (.q (.mov (.k (.int .i64 0)))), []⟩]
@[simp] def b_RMay_14 (_ : Unit) : EB := reg0 (hid l_RMay_13) 1
@[simp] def l_RMay_15 (_ : Unit) : List EOp := [⟨0, (some 17), none, (.q (.mov (.t 4))), []⟩, ⟨1, (some 18), none, (.q (.bin .leq (.t 17) (.k (.int .i64 40)))), []⟩]
@[simp] def b_RMay_16 (_ : Unit) : EB := reg0 (hid l_RMay_15) 2
@[simp] def b_RMay_17 (_ : Unit) : EB := .cond (.t 18) .skip (.exit 0)
@[simp] def b_RMay_18 (_ : Unit) : EB := .seq (hid b_RMay_16) (hid b_RMay_17)
@[simp] def l_RMay_19 (_ : Unit) : List EOp := [⟨0, (some 21), none, (.q (.fad 0 (.t 1))), []⟩, ⟨1, (some 22), none, (.q (.ldc (.t 21))), []⟩, ⟨2, (some 23), none, (.q (.mov (.t 4))), []⟩, ⟨3, (some 24), none, (.call 21 [(.t 22), (.t 23)]), []⟩, ⟨4, (some 5), none, (.q (.mov (.t 24))), []⟩]
@[simp] def b_RMay_20 (_ : Unit) : EB := reg0 (hid l_RMay_19) 5
@[simp] def l_RMay_21 (_ : Unit) : List EOp := [⟨0, (some 25), none, (.q (.mov (.t 5))), []⟩, ⟨1, (some 26), none, (.q (.bin .gtr (.t 25) (.k (.int .i64 1099511627775)))), []⟩]
@[simp] def b_RMay_22 (_ : Unit) : EB := reg0 (hid l_RMay_21) 2
@[simp] def b_RMay_23 (_ : Unit) : EB := .cond (.t 26) (.exit 1) .skip
@[simp] def b_RMay_24 (_ : Unit) : EB := .seq (hid b_RMay_22) (hid b_RMay_23)
@[simp] def l_RMay_27 (_ : Unit) : List EOp := [⟨12, (some 39), (some (32, false)), (.q (.mov (.t 5))), []⟩, ⟨13, (some 40), (some (32, false)), (.q (.bin .neq (.t 38) (.t 39))), []⟩, ⟨14, (some 41), none, (.q (.pick (.t 32) (.k (.bool true)) (.t 40))), []⟩]
@[simp] def l_RMay_26 (_ : Unit) : List EOp := ⟨6, (some 33), (some (32, false)), (.q (.fad 1 (.t 1))), []⟩ :: ⟨7, (some 34), (some (32, false)), (.q (.ldc (.t 33))), []⟩ :: ⟨8, (some 35), (some (32, false)), (.q (.mov (.t 3))), []⟩ :: ⟨9, (some 36), (some (32, false)), (.q (.isl 33 (.t 34) (.t 35))), []⟩ :: ⟨10, (some 37), (some (32, false)), (.q (.fad 0 (.t 36))), []⟩ :: ⟨11, (some 38), (some (32, false)), (.q (.ldc (.t 37))), []⟩ :: hid l_RMay_27
@[simp] def l_RMay_25 (_ : Unit) : List EOp := ⟨0, (some 27), none, (.q (.mov (.t 3))), []⟩ :: ⟨1, (some 28), none, (.q (.fad 1 (.t 1))), []⟩ :: ⟨2, (some 29), none, (.q (.ldc (.t 28))), []⟩ :: ⟨3, (some 30), none, (.q (.len (.t 29))), []⟩ :: ⟨4, (some 31), none, (.q (.bin .geq (.t 27) (.t 30))), []⟩ :: ⟨5, (some 32), none, (.q (.mov (.t 31))), []⟩ :: hid l_RMay_26
@[simp] def b_RMay_28 (_ : Unit) : EB := reg0 (hid l_RMay_25) 15
@[simp] def l_RMay_29 (_ : Unit) : List EOp := [⟨0, (some 2), none, (.q (.mov (.k (.bool false)))), []⟩]
@[simp] def b_RMay_30 (_ : Unit) : EB := reg0 (hid l_RMay_29) 1
@[simp] def b_RMay_31 (_ : Unit) : EB := .seq (hid b_RMay_30) .ret
@[simp] def b_RMay_32 (_ : Unit) : EB := .cond (.t 41) (hid b_RMay_31) .skip
@[simp] def b_RMay_33 (_ : Unit) : EB := .seq (hid b_RMay_28) (hid b_RMay_32)
@[simp] def l_RMay_34 (_ : Unit) : List EOp := [⟨0, (some 6), none, (.q (.mov (.k (.int .i64 0)))), []⟩]
@[simp] def b_RMay_35 (_ : Unit) : EB := reg0 (hid l_RMay_34) 1
@[simp] def l_RMay_36 (_ : Unit) : List EOp := [⟨0, (some 42), none, (.q (.mov (.t 6))), []⟩, ⟨1, (some 43), none, (.q (.mov (.t 3))), []⟩, ⟨2, (some 44), none, (.q (.bin .lss (.t 42) (.t 43))), []⟩]
@[simp] def b_RMay_37 (_ : Unit) : EB := reg0 (hid l_RMay_36) 3
@[simp] def b_RMay_38 (_ : Unit) : EB := .cond (.t 44) .skip (.exit 2)
@[simp] def b_RMay_39 (_ : Unit) : EB := .seq (hid b_RMay_37) (hid b_RMay_38)
@[simp] def l_RMay_42 (_ : Unit) : List EOp := [⟨11, (some 59), none, (.call 22 [(.t 52), (.t 58)]), [15]⟩, ⟨12, (some 47), none, (.q (.mov (.t 59))), []⟩, ⟨13, (some 60), none, (.q (.ext 0 (.t 47))), []⟩, ⟨14, (some 61), none, (.q (.ext 1 (.t 47))), []⟩, ⟨16, none, none, (.sto 32 (.t 7) (.t 60)), [14]⟩, ⟨17, (some 8), none, (.q (.mov (.t 61))), []⟩]
@[simp] def l_RMay_41 (_ : Unit) : List EOp := ⟨6, (some 54), none, (.q (.ldc (.t 53))), []⟩ :: ⟨7, (some 55), none, (.q (.mov (.t 6))), []⟩ :: ⟨8, (some 56), none, (.q (.isl 33 (.t 54) (.t 55))), []⟩ :: ⟨9, (some 57), none, (.q (.fad 0 (.t 56))), []⟩ :: ⟨10, (some 58), none, (.q (.ldc (.t 57))), []⟩ :: ⟨15, (some 7), none, (.q (.alloc 35 zU8)), []⟩ :: hid l_RMay_42
@[simp] def l_RMay_40 (_ : Unit) : List EOp := ⟨0, (some 48), none, (.q (.fad 1 (.t 1))), []⟩ :: ⟨1, (some 49), none, (.q (.ldc (.t 48))), []⟩ :: ⟨2, (some 50), none, (.q (.mov (.t 3))), []⟩ :: ⟨3, (some 51), none, (.q (.isl 33 (.t 49) (.t 50))), []⟩ :: ⟨4, (some 52), none, (.q (.lda 33 (.t 51))), []⟩ :: ⟨5, (some 53), none, (.q (.fad 1 (.t 1))), []⟩ :: hid l_RMay_41
@[simp] def b_RMay_43 (_ : Unit) : EB := reg1 (hid l_RMay_40) 18
@[simp] def l_RMay_45 (_ : Unit) : List EOp := [⟨6, (some 68), (some (63, true)), (.q (.isl 33 (.t 66) (.t 67))), []⟩, ⟨7, (some 69), (some (63, true)), (.q (.fad 1 (.t 68))), []⟩, ⟨8, (some 70), (some (63, true)), (.q (.lda 32 (.t 69))), []⟩, ⟨9, (some 71), (some (63, true)), (.q (.eqa true 32 .u8 (.t 64) (.t 70))), []⟩, ⟨10, (some 72), none, (.q (.pick (.t 63) (.t 71) (.k (.bool false)))), []⟩]
@[simp] def l_RMay_44 (_ : Unit) : List EOp := ⟨0, (some 62), none, (.q (.mov (.t 8))), []⟩ :: ⟨1, (some 63), none, (.q (.mov (.t 62))), []⟩ :: ⟨2, (some 64), (some (63, true)), (.q (.lda 32 (.t 7))), []⟩ :: ⟨3, (some 65), (some (63, true)), (.q (.fad 1 (.t 1))), []⟩ :: ⟨4, (some 66), (some (63, true)), (.q (.ldc (.t 65))), []⟩ :: ⟨5, (some 67), (some (63, true)), (.q (.mov (.t 6))), []⟩ :: hid l_RMay_45
@[simp] def b_RMay_46 (_ : Unit) : EB := reg0 (hid l_RMay_44) 11
@[simp] def l_RMay_47 (_ : Unit) : List EOp := [⟨0, (some 2), none, (.q (.mov (.k (.bool false)))), []⟩]
@[simp] def b_RMay_48 (_ : Unit) : EB := reg0 (hid l_RMay_47) 1
@[simp] def b_RMay_49 (_ : Unit) : EB := .seq (hid b_RMay_48) .ret
@[simp] def b_RMay_50 (_ : Unit) : EB := .cond (.t 72) (hid b_RMay_49) .skip
@[simp] def b_RMay_51 (_ : Unit) : EB := .seq (hid b_RMay_46) (hid b_RMay_50)
@[simp] def b_RMay_52 (_ : Unit) : EB := .seq (hid b_RMay_43) (hid b_RMay_51)
@[simp] def b_RMay_53 (_ : Unit) : EB := .block 3 (hid b_RMay_52)
@[simp] def l_RMay_54 (_ : Unit) : List EOp := [⟨0, (some 45), none, (.q (.mov (.t 6))), []⟩, ⟨1, (some 46), none, (.q (.bin .add (.t 45) (.k (.int .i64 1)))), []⟩, ⟨2, (some 6), none, (.q (.mov (.t 46))), []⟩]
@[simp] def b_RMay_55 (_ : Unit) : EB := reg0 (hid l_RMay_54) 3
@[simp] def b_RMay_56 (_ : Unit) : EB := .seq (hid b_RMay_53) (hid b_RMay_55)
@[simp] def b_RMay_57 (_ : Unit) : EB := .seq (hid b_RMay_39) (hid b_RMay_56)
@[simp] def b_RMay_58 (_ : Unit) : EB := .loop (hid b_RMay_57)
@[simp] def b_RMay_59 (_ : Unit) : EB := .block 2 (hid b_RMay_58)
@[simp] def b_RMay_60 (_ : Unit) : EB := .seq (hid b_RMay_35) (hid b_RMay_59)
@[simp] def l_RMay_61 (_ : Unit) : List EOp := [⟨0, (some 73), none, (.q (.mov (.t 3))), []⟩, ⟨1, (some 74), none, (.q (.bin .add (.t 73) (.k (.int .i64 1)))), []⟩, ⟨2, (some 3), none, (.q (.mov (.t 74))), []⟩]
@[simp] def b_RMay_62 (_ : Unit) : EB := reg0 (hid l_RMay_61) 3
@[simp] def b_RMay_63 (_ : Unit) : EB := .seq (hid b_RMay_60) (hid b_RMay_62)
@[simp] def b_RMay_64 (_ : Unit) : EB := .seq (hid b_RMay_33) (hid b_RMay_63)
@[simp] def b_RMay_65 (_ : Unit) : EB := .seq (hid b_RMay_24) (hid b_RMay_64)
@[simp] def b_RMay_66 (_ : Unit) : EB := .seq (hid b_RMay_20) (hid b_RMay_65)
@[simp] def b_RMay_67 (_ : Unit) : EB := .block 1 (hid b_RMay_66)
@[simp] def l_RMay_68 (_ : Unit) : List EOp := [⟨0, (some 19), none, (.q (.mov (.t 4))), []⟩, ⟨1, (some 20), none, (.q (.bin .add (.t 19) (.k (.int .i64 1)))), []⟩, ⟨2, (some 4), none, (.q (.mov (.t 20))), []⟩]
@[simp] def b_RMay_69 (_ : Unit) : EB := reg0 (hid l_RMay_68) 3
@[simp] def b_RMay_70 (_ : Unit) : EB := .seq (hid b_RMay_67) (hid b_RMay_69)
@[simp] def b_RMay_71 (_ : Unit) : EB := .seq (hid b_RMay_18) (hid b_RMay_70)
@[simp] def b_RMay_72 (_ : Unit) : EB := .loop (hid b_RMay_71)
@[simp] def b_RMay_73 (_ : Unit) : EB := .block 0 (hid b_RMay_72)
@[simp] def b_RMay_74 (_ : Unit) : EB := .seq (hid b_RMay_14) (hid b_RMay_73)
@[simp] def l_RMay_75 (_ : Unit) : List EOp := [⟨0, (some 75), none, (.q (.mov (.t 3))), []⟩, ⟨1, (some 76), none, (.q (.fad 1 (.t 1))), []⟩, ⟨2, (some 77), none, (.q (.ldc (.t 76))), []⟩, ⟨3, (some 78), none, (.q (.len (.t 77))), []⟩, ⟨4, (some 79), none, (.q (.bin .eql (.t 75) (.t 78))), []⟩, ⟨5, (some 2), none, (.q (.mov (.t 79))), []⟩]
@[simp] def b_RMay_76 (_ : Unit) : EB := reg0 (hid l_RMay_75) 6
@[simp] def b_RMay_77 (_ : Unit) : EB := .seq (hid b_RMay_76) .ret
@[simp] def b_RMay_78 (_ : Unit) : EB := .seq (hid b_RMay_74) (hid b_RMay_77)
@[simp] def b_RMay_79 (_ : Unit) : EB := .seq (hid b_RMay_12) (hid b_RMay_78)
@[simp] def b_RMay_80 (_ : Unit) : EB := .seq (hid b_RMay_10) (hid b_RMay_79)
@[simp] def b_RMay_81 (_ : Unit) : EB := .seq (hid b_RMay_2) (hid b_RMay_80)
def c_RMay : EB × List QOp × Nat := ((hid b_RMay_81), [(.mov (.t 2))], 80)
theorem k_RMay : cfun Tryd.prog 10 = some c_RMay := by kernel_rfl


theorem dueA_pre (m : Nat) : ∀ (d k : Nat), ∃ t, dueA m (k + d) = dueA m k ++ t
  | 0, k => ⟨[], by simp⟩
  | d + 1, k => by
    obtain ⟨t, ht⟩ := dueA_pre m d k
    rw [show k + (d + 1) = (k + d) + 1 by omega, dueA_succ, ht, List.append_assoc]
    exact ⟨_, rfl⟩
theorem dueN_pre (m : Nat) {k : Nat} (h : k ≤ 41) : ∃ t, dueN m = dueA m k ++ t := by
  obtain ⟨t, ht⟩ := dueA_pre m (41 - k) k
  rw [show k + (41 - k) = 41 by omega] at ht
  exact ⟨t, ht⟩

set_option maxHeartbeats 8000000 in
theorem RMay_ok (l : Lad) (hl : l.ok) : ECalls Tryd.prog 10 [LV l] [] fun y H' => H' = [] ∧ y = .lit (.bool (mayB l)) := by
  obtain ⟨⟨nx0, nx1⟩, hst, hlen⟩ := id hl
  refine ecalls k_RMay ?_
  simp [c_RMay, LV, ladC]
  by_cases h0 : l.nxt < -1
  · rw [mayB_f (fun h => by have := h.1; omega)]
    have h0n : ¬ -1 ≤ l.nxt := by omega
    simp [h0, h0n]
    exact fin [] (by decide) rfl rfl rfl ⟨rfl, rfl⟩
  have h0p : -1 ≤ l.nxt := by omega
  by_cases h1 : 1099511627775 < l.nxt
  · rw [mayB_f (fun h => by have := h.2.1; omega)]
    simp [h0, h0p, h1]
    exact fin [] (by decide) rfl rfl rfl ⟨rfl, rfl⟩
  have h1p : l.nxt ≤ 1099511627775 := by omega
  obtain ⟨m, hm⟩ : ∃ m, (l.nxt + 1).toNat = m := ⟨_, rfl⟩
  have hm40 : m ≤ 1099511627776 := by omega
  have hnx : (m : Int) - 1 = l.nxt := by omega
  have hml : mayL l ↔ l.steps.length = (dueN m).length ∧ mayA (dueN m) l.steps l.steps.length := by
    unfold mayL
    rw [hm]
    exact ⟨fun h => h.2.2, fun h => ⟨by omega, by omega, h⟩⟩
  have hdn := dueN_len m
  obtain ⟨D, hD⟩ : ∃ D, dueN m = D := ⟨_, rfl⟩
  obtain ⟨B, hB⟩ : ∃ B, mayB l = B := ⟨_, rfl⟩
  rw [hB]
  simp [h0, h0p, h1, h1p]
  rw [hD] at hml hdn
  refine eloop (α := Nat) (fun r => r ≤ 41 ∧ (dueA m r).length ≤ l.steps.length ∧ mayA D l.steps (dueA m r).length) (fun r => 41 - r)
    (fun r => [.any, .v (.c (.ptr 0 0)), .any, NV (dueA m r).length, NV r, .any, .any, .any, .any, .any, .any, .any, .any, .any, .any, .any, .any, .any, .any, .any, .any, .any, .any, .any, .any, .any, .any, .any, .any, .any, .any, .any, .any, .any, .any, .any, .any, .any, .any, .any, .any, .any, .any, .any, .any, .any, .any, .any, .any, .any, .any, .any, .any, .any, .any, .any, .any, .any, .any, .any, .any, .any, .any, .any, .any, .any, .any, .any, .any, .any, .any, .any, .any, .any, .any, .any, .any, .any, .any, .any])
    (fun _ => [some (.box 24 (ladC l))]) 0 [0]
    ⟨by omega, by simp [dueA], by simpa [dueA] using mayA_0 _ _⟩ (by simp [NV, dueA]) (by simp [ladC]) (by simp [ladC]) (by simp) (by simp) ?_
  rintro r ⟨hr, hat, hA⟩
  by_cases hlt : r < 41
  rotate_left
  · have h41 : r = 41 := by omega
    subst h41
    have hDD : dueA m 41 = D := hD
    rw [hDD] at hat hA
    have hbb : B = decide (D.length = l.steps.length) := by
      rw [← hB]
      by_cases he : D.length = l.steps.length
      · rw [mayB_t (hml.2 ⟨he.symm, by rw [← he]; exact hA⟩), decide_eq_true he]
      · rw [mayB_f (fun h => he (hml.1 h).1.symm), decide_eq_false he]
    have hdc : decide (((D.length : Nat) : Int) = ((l.steps.length : Nat) : Int)) = decide (D.length = l.steps.length) := decide_eq_decide.2 Int.ofNat_inj
    subst hbb
    simp [NV, ladC, hDD]
    exact fin [] (by decide) rfl rfl rfl ⟨rfl, by rw [hdc]⟩
  obtain ⟨tl, htl⟩ := dueN_pre m (show r + 1 ≤ 41 by omega)
  have hsu := dueA_succ m r
  have hlst := RLst_ok m r hm40 (by omega)
  rw [hnx] at hlst
  have hr40 : (r : Int) ≤ 40 := by omega
  have w2 : IntKind.i64.wrap ((r : Int) + 1) = ((r + 1 : Nat) : Int) := wrap_i64 (by omega) (by omega)
  obtain ⟨n, hn⟩ : ∃ n, lstN m r = n := ⟨_, rfl⟩
  rw [hn] at hsu hlst
  obtain ⟨at', hate⟩ : ∃ a, (dueA m r).length = a := ⟨_, rfl⟩
  rw [hate] at hat hA
  simp [NV, ladC, hr40]
  refine call0 hlst (by simp [NV]) ?_
  rintro y H' ⟨rfl, rfl⟩
  refine ⟨.inl (by simp [NV]), le_ok rfl, ?_⟩
  by_cases hle : n ≤ 1099511627775
  rotate_left
  · have hle' : ¬ (n : Int) ≤ 1099511627775 := by omega
    have hle2 : (1099511627775 : Int) < (n : Int) := by omega
    rw [if_neg (show ¬ n ≤ topN from hle), List.append_nil] at hsu
    simp [NV, hle', hle2, w2, -Int.natCast_add]
    exact round (r + 1) [0] ⟨by omega, by rw [hsu, hate]; exact hat, by rw [hsu, hate]; exact hA⟩ (by omega) (by simp [NV, hsu]) (by simp [ladC]) (by simp [ladC]) (by simp) (by simp)
  have hle' : (n : Int) ≤ 1099511627775 := by omega
  have hle2 : ¬ (1099511627775 : Int) < (n : Int) := by omega
  rw [if_pos (show n ≤ topN from hle)] at hsu
  have hDe : D = dueA m r ++ n :: tl := by rw [← hD, htl, hsu]; simp
  have hDa : D[at']? = some n := by rw [hDe, ← hate]; simp
  have hDl : at' < D.length := lt_len hDa
  by_cases hal : at' < l.steps.length
  rotate_left
  · have hal' : (l.steps.length : Int) ≤ (at' : Int) := by omega
    have hbf : B = false := by rw [← hB]; exact mayB_f (fun h => by have := (hml.1 h).1; omega)
    subst hbf
    simp [NV, hle', hle2, hate, hal', hal]
    exact fin [] (by decide) rfl rfl rfl ⟨rfl, rfl⟩
  have hal' : ¬ (l.steps.length : Int) ≤ (at' : Int) := by omega
  obtain ⟨s, hs⟩ : ∃ s, l.steps[at']? = some s := ⟨l.steps[at'], by simp [hal]⟩
  have hge : (stpv l.steps)[at']'(by simp [hal]) = stpF s := by
    have e := stpv_get hs
    rw [List.getElem?_eq_getElem (by simp [hal])] at e
    exact Option.some.inj e
  have hs32 := (hst s (List.mem_of_getElem? hs)).2
  have hfl := stpF_len hs32
  have hcl := stpC_len hs32
  have hct := stpC_take hs32
  by_cases hsn : s.num = (n : Int)
  rotate_left
  · have hbf : B = false := by rw [← hB]; exact mayB_f (fun h => mayA_not hal hs hDa (.inl hsn) (hml.1 h).2)
    subst hbf
    simp [NV, hle', hle2, hate, hal', hal, hge, hfl, stpF, hsn]
    exact fin [] (by decide) rfl rfl rfl ⟨rfl, rfl⟩
  have hso : s.ok := stp_ok hl hs (by rw [hD]; exact hDa) hsn
  have hto := take_ok (m := m) hl (i := at') (by rw [hD]; exact hA)
  simp [NV, hle', hle2, hate, hal', hal, hge, hfl, stpF, hsn]
  refine eloop (α := Nat) (fun k => k ≤ at' ∧ ∀ (j : Nat) (x : Stp), j < k → l.steps[j]? = some x → badS s x = false) (fun k => at' - k)
    (fun k => [.any, .v (.c (.ptr 0 0)), .any, NV at', NV r, .any, NV k, .any, .any, .any, .any, .any, .any, .any, .any, .any, .any, .any, .any, .any, .any, .any, .any, .any, .any, .any, .any, .any, .any, .any, .any, .any, .any, .any, .any, .any, .any, .any, .any, .any, .any, .any, .any, .any, .any, .any, .any, .any, .any, .any, .any, .any, .any, .any, .any, .any, .any, .any, .any, .any, .any, .any, .any, .any, .any, .any, .any, .any, .any, .any, .any, .any, .any, .any, .any, .any, .any, .any, .any, .any])
    (fun _ => [some (.box 24 (ladC l))]) 0 [0]
    ⟨Nat.zero_le _, fun j x h => by omega⟩ (by simp [NV]) (by simp [ladC]) (by simp [ladC]) (by simp) (by simp) ?_
  rintro k ⟨hk, hno⟩
  by_cases hka : k < at'
  · have hka' : (k : Int) < (at' : Int) := by omega
    have hkl : k < l.steps.length := by omega
    obtain ⟨x, hx⟩ : ∃ x, l.steps[k]? = some x := ⟨l.steps[k], by simp [hkl]⟩
    have hgx : (stpv l.steps)[k]'(by simp [hkl]) = stpF x := by
      have e := stpv_get hx
      rw [List.getElem?_eq_getElem (by simp [hkl])] at e
      exact Option.some.inj e
    have hxo : x.ok := by
      obtain ⟨s', d', e1, e2, e3, _⟩ := hA k hka
      rw [hx] at e1
      cases e1
      exact stp_ok hl hx (by rw [hD]; exact e2) e3
    have hx32 := hxo.sec
    have hxl := stpF_len hx32
    have hxc := stpC_len hx32
    have hxt := stpC_take hx32
    obtain ⟨b, hb⟩ : ∃ b : Nat, x.num.toNat = b := ⟨_, rfl⟩
    have hxlo := hxo.lo
    have hxhi := hxo.hi
    have hbn : x.num = (b : Int) := by omega
    have hmk := RMk_ok s b hso (by omega)
    have hbad : badS s x = (mkS s b && decide (ofS s b ≠ x.sec)) := by unfold badS; rw [hb]
    have hol : (ofS s b).length = 32 := by unfold ofS; exact clS_len _ _ _ hs32
    obtain ⟨M, hM⟩ : ∃ M, mkS s b = M := ⟨_, rfl⟩
    obtain ⟨O, hO⟩ : ∃ O, ofS s b = O := ⟨_, rfl⟩
    rw [hM, hO] at hmk hbad
    rw [hO] at hol
    have w4 : IntKind.i64.wrap ((k : Int) + 1) = ((k + 1 : Nat) : Int) := wrap_i64 (by omega) (by omega)
    have hx32t : List.take 32 x.sec = x.sec := List.take_of_length_le (by omega)
    have hcn : hc [] = [] := rfl
    have tO : List.take 32 (List.map (fun b : UInt8 => (b.toNat : Int)) O) = List.map (fun b : UInt8 => (b.toNat : Int)) O := List.take_of_length_le (by rw [List.length_map]; omega)
    have hq := nat_inj (x := O) (y := x.sec)
    have hne : badS s x = false → ∀ (j : Nat) (z : Stp), j < k + 1 → l.steps[j]? = some z → badS s z = false := by
      intro h j z hj hz
      rcases Nat.lt_or_ge j k with h1 | h1
      · exact hno j z h1 hz
      · obtain rfl : j = k := by omega
        rw [hx] at hz
        cases hz
        exact h
    have hbM : badS s x = (M && !decide (O = x.sec)) := by rw [hbad]; simp
    simp [NV, ladC, hka', hka, hal, hge, hgx, hkl, hfl, hcl, hct, stpF_fz, hxl, hxc, hxt, se0, hbn]
    refine call0 hmk (by simp [NV]) ?_
    rintro y H' ⟨rfl, rfl⟩
    refine ⟨.inl (by simp), le_ok rfl, ?_⟩
    cases M with
    | false =>
      have hb0 : badS s x = false := by rw [hbM]; rfl
      simp [NV, w4, hcn, -Int.natCast_add]
      exact round (k + 1) [0] ⟨by omega, hne hb0⟩ (by omega) (by simp [NV]) (by simp [ladC]) (by simp [ladC]) (by simp) (by simp)
    | true =>
      by_cases he : O = x.sec
      · have hb0 : badS s x = false := by rw [hbM, decide_eq_true he]; rfl
        simp [NV, ladC, w4, hcn, hol, hka, hkl, hgx, hxl, stpF, hx32, hx32t, hq, he, -Int.natCast_add]
        exact round (k + 1) [0] ⟨by omega, hne hb0⟩ (by omega) (by simp [NV]) (by simp [ladC]) (by simp [ladC]) (by simp) (by simp)
      · have hb1 : badS s x = true := by rw [hbM, decide_eq_false he]; rfl
        have hag : agrS s (l.steps.take at') = false := by
          unfold agrS
          have : (l.steps.take at').any (badS s) = true := List.any_eq_true.2 ⟨x, List.mem_of_getElem? (i := k) (by rw [List.getElem?_take, if_pos hka]; exact hx), hb1⟩
          rw [this]
          rfl
        have hbf : B = false := by rw [← hB]; exact mayB_f (fun h => mayA_not hal hs hDa (.inr hag) (hml.1 h).2)
        subst hbf
        simp [NV, ladC, w4, hcn, hol, hka, hkl, hgx, hxl, stpF, hx32, hx32t, tO, hq, he, -Int.natCast_add]
        exact fin [] (by decide) rfl rfl rfl ⟨rfl, rfl⟩
  · obtain rfl : k = at' := by omega
    have ha : agrS s (l.steps.take k) = true := by
      unfold agrS
      have : (l.steps.take k).any (badS s) = false := by
        rw [List.any_eq_false]
        intro z hz
        obtain ⟨j, hj⟩ := List.getElem?_of_mem hz
        have hjk : j < k := by
          have := lt_len hj
          rw [List.length_take] at this
          omega
        rw [List.getElem?_take, if_pos hjk] at hj
        rw [hno j z hjk hj]
        simp
      rw [this]
      rfl
    have hl1 : (dueA m (r + 1)).length = k + 1 := by rw [hsu, List.length_append, hate]; rfl
    have w4 : IntKind.i64.wrap ((k : Int) + 1) = ((k + 1 : Nat) : Int) := wrap_i64 (by omega) (by omega)
    simp [NV, ladC, w2, w4, -Int.natCast_add]
    exact round (r + 1) [0] ⟨by omega, by rw [hl1]; omega, by rw [hl1]; exact mayA_succ hA hs hDa hsn ha⟩ (by omega) (by simp [NV, hl1]) (by simp [ladC]) (by simp [ladC]) (by simp) (by simp)

end Go.Proofs.YtdeeophiffchjaaDoor

/- slices.Insert (one element) and slices.Delete (one element) on an own row, out of their walks ("roads"): what a program's own texts show by walking. -/
namespace Go.EW
set_option linter.unusedVariables false
set_option linter.unusedSimpArgs false
open Go Go.Lib
variable {P : Program}

/-- A copy into a row whose cells are known. -/
theorem run_copy_row (w : World) (dT sT ty elem : TypeId) (i : TypeInfo) (g o dLen dCap : Nat) (a : Addr) (sLen sCap : Nat) (cs : List Value) (cur : Array Value) (t : TypeId)
    (hu : P.underlying dT = some (.slice elem)) (hi : P.info? elem = some i) (hn : cs.length = Nat.min sLen dLen * i.size) (hg : w.heap[g]? = some (.cells cur t (0, 0))) (hl : o + cs.length ≤ cur.size)
    (hsrc : ∀ j v, cs[j]? = some v → w.cell? (a.add j) = some v) (h1 : ∀ v ∈ cs, v.oneCell' = true) :
    (Builtin.copy_ #[dT, sT] ty #[.slice (some ⟨g, o, none⟩) dLen dCap, .slice (some a) sLen sCap]).run P w = .ok (goInt (Nat.min sLen dLen)) (w.setRow g (cur.toList.take o ++ cs ++ cur.toList.drop (o + cs.length)).toArray) := by
  have hf := run_firstCells_some (P := P) w i.size (Nat.min sLen dLen) a sLen sCap cs hn hsrc
  have hst := run_storeCells_at P g o t cs 0 cur w hg (by omega) h1
  simp only [Nat.add_zero] at hst
  simp [Builtin.copy_, run_underlying hu, Builtin.lenOf, sizeOf, typeInfo, hi, hf, hst]

/-- An operation 'copy(d, s)' whose run is known by an equation. -/
theorem wp_copy_runI (w : World) {o : Oper} {a : Act} {K : Act → World → Prop} {Q : Exit → Act → World → Prop} (d s : Operand) (t t' : TypeId)
    (ho : o.op = .call { callee := .builtin .copy, args := #[d, s], argTypes := #[t, t'] }) (v u : Value) (hd : a.eval d = v) (hs : a.eval s = u) {v' : Value} {w' : World}
    (hr : (Builtin.copy_ #[t, t'] o.type #[v, u]).run P w = .ok v' w') (h : K (a.put o.dst v') w') : o.wp P a w K Q := by
  unfold Oper.wp execOp
  simp only [ho, resolve, invoke, builtin, Sem.run_bind, Sem.run_pure, Result.andThen_ok, List.map_toArray, List.map_cons, List.map_nil, hd, hs, hr]
  exact h
theorem wpList_copy_runI (w : World) {ops : Array Oper} {rest : List Oper} {o : Oper} {a : Act} {Q : Exit → Act → World → Prop} (hgd : o.guard = none) (d s : Operand) (t t' : TypeId)
    (ho : o.op = .call { callee := .builtin .copy, args := #[d, s], argTypes := #[t, t'] }) (v u : Value) (hd : a.eval d = v) (hs : a.eval s = u) {v' : Value} {w' : World}
    (hr : (Builtin.copy_ #[t, t'] o.type #[v, u]).run P w = .ok v' w') (h : wpList P ops Q rest (a.put o.dst v') w') : wpList P ops Q (o :: rest) a w :=
  wpList_plain hgd fun _ hK => wp_copy_runI w d s t t' ho v u hd hs hr (hK _ _ h)
theorem step_copy_runI {ops : Array Oper} {o : Oper} {a : Act} {w : World} {K : Act → World → Prop} {Q : Exit → Act → World → Prop} {E : Prop}
    (hg : o.guard = none) (d x : Operand) (dT sT : TypeId) (hop : o.op = Op.call { callee := Callee.builtin Builtin.copy, args := #[d, x], argTypes := #[dT, sT] })
    (v u : Value) (hd : a.eval d = v) (hx : a.eval x = u) {v' : Value} {w' : World} (hr : (Builtin.copy_ #[dT, sT] o.type #[v, u]).run P w = .ok v' w') (hK : K (a.put o.dst v') w') :
    if Region.wanted o (yielded ops a.tmps) = true then Oper.wp P o a w K Q else E := by
  have hw : Region.wanted o (yielded ops a.tmps) = true := by simp [Region.wanted, hg]
  rw [if_pos hw]
  unfold Oper.wp
  simp [execOp, hop, resolve, invoke, builtin, hd, hx, hr, Result.andThen]
  exact hK
theorem step_append_runI {ops : Array Oper} {o : Oper} {a : Act} {w : World} {K : Act → World → Prop} {Q : Exit → Act → World → Prop} {E : Prop}
    (hg : o.guard = none) (d x : Operand) (dT sT : TypeId) (hop : o.op = Op.call { callee := Callee.builtin Builtin.append, args := #[d, x], argTypes := #[dT, sT] })
    (v u : Value) (hd : a.eval d = v) (hx : a.eval x = u) {v' : Value} {w' : World} (hr : (Builtin.append_ #[dT, sT] o.type #[v, u]).run P w = .ok v' w') (hK : K (a.put o.dst v') w') :
    if Region.wanted o (yielded ops a.tmps) = true then Oper.wp P o a w K Q else E := by
  have hw : Region.wanted o (yielded ops a.tmps) = true := by simp [Region.wanted, hg]
  rw [if_pos hw]
  unfold Oper.wp
  simp [execOp, hop, resolve, invoke, builtin, hd, hx, hr, Result.andThen]
  exact hK

/-! ### the roads -/
def InsShift (P : Program) (f fov : FuncId) (tS : TypeId) (es : Nat) : Prop := ∀ (g n c i vb mc : Nat) (W1 W2 w : World), i < n → n + 1 ≤ c → c ≤ 9223372036854775807 →
  (∀ lb cb, (callFunc fov #[.slice (some ⟨vb, 0, none⟩) 1 mc, .slice (some ⟨g, (i + 1) * es, none⟩) lb cb]).run P w = .ok (.value (.bool false)) w) →
  (∀ ty, (Builtin.copy_ #[tS, tS] ty #[.slice (some ⟨g, (i + 1) * es, none⟩) (n - i) (c - (i + 1)), .slice (some ⟨g, i * es, none⟩) (n + 1 - i) (c - i)]).run P w.drew = .ok (goInt ((n - i : Nat) : Int)) W1) →
  (∀ ty, (Builtin.copy_ #[tS, tS] ty #[.slice (some ⟨g, i * es, none⟩) (n + 1 - i) (c - i), .slice (some ⟨vb, 0, none⟩) 1 mc]).run P W1 = .ok (goInt 1) W2) →
  Calls P f #[.slice (some ⟨g, 0, none⟩) n c, .int .i64 i, .slice (some ⟨vb, 0, none⟩) 1 mc] w fun e w' => e = .returned (.slice (some ⟨g, 0, none⟩) (n + 1) c) ∧ w' = W2
def InsEnd (P : Program) (f : FuncId) (tS : TypeId) : Prop := ∀ (base : Option Addr) (n c vb m mc : Nat) (v' : Value) (w W1 : World), n ≤ c → 0 < m →
  ((Builtin.append_ #[tS, tS] tS #[.slice base n c, .slice (some ⟨vb, 0, none⟩) m mc]).run P w = .ok v' W1) →
  Calls P f #[.slice base n c, .int .i64 n, .slice (some ⟨vb, 0, none⟩) m mc] w fun e w' => e = .returned v' ∧ w' = W1
def InsGrow (P : Program) (f : FuncId) (tS tI : TypeId) (es : Nat) : Prop := ∀ (g n c i vb mc g2 C : Nat) (W1 W2 W3 w : World), i < n → n ≤ c → c < n + 1 → c ≤ 9223372036854775806 → n + 1 ≤ C → C ≤ 9223372036854775807 →
  (∀ ty, (Builtin.append_ #[tS, tI] ty #[.slice (some ⟨g, 0, none⟩) i c, .int .i64 ((n : Int) + 1 - (i : Int))]).run P w = .ok (.slice (some ⟨g2, 0, none⟩) (n + 1) C) W1) →
  (∀ ty, (Builtin.copy_ #[tS, tS] ty #[.slice (some ⟨g2, i * es, none⟩) (n + 1 - i) (C - i), .slice (some ⟨vb, 0, none⟩) 1 mc]).run P W1 = .ok (goInt 1) W2) →
  (∀ ty, (Builtin.copy_ #[tS, tS] ty #[.slice (some ⟨g2, (i + 1) * es, none⟩) (n - i) (C - (i + 1)), .slice (some ⟨g, i * es, none⟩) (n - i) (c - i)]).run P W2.drew = .ok (goInt ((n - i : Nat) : Int)) W3) →
  Calls P f #[.slice (some ⟨g, 0, none⟩) n c, .int .i64 i, .slice (some ⟨vb, 0, none⟩) 1 mc] w fun e w' => e = .returned (.slice (some ⟨g2, 0, none⟩) (n + 1) C) ∧ w' = W3
def DelOne (P : Program) (f : FuncId) (tS : TypeId) (es : Nat) : Prop := ∀ (g n c i j k : Nat) (A : Addr) (W1 W2 w : World), j = i + 1 → k = n - 1 → j ≤ n → n ≤ c → c ≤ 9223372036854775807 →
  ((if c = j then some (⟨g, 0, none⟩ : Addr) else some ⟨g, j * es, none⟩) = some A) →
  (∀ ty, (Builtin.append_ #[tS, tS] ty #[.slice (some ⟨g, 0, none⟩) i c, .slice (some A) (n - j) (c - j)]).run P w.drew = .ok (.slice (some ⟨g, 0, none⟩) k c) W1) →
  (∀ ty, (Builtin.clear_ #[tS] ty #[.slice (some ⟨g, k * es, none⟩) (n - k) (c - k)]).run P W1 = .ok (.tuple #[]) W2) →
  Calls P f #[.slice (some ⟨g, 0, none⟩) n c, .int .i64 i, .int .i64 j] w fun e w' => e = .returned (.slice (some ⟨g, 0, none⟩) k c) ∧ w' = W2

/-- What is known of a slice's element type. -/
structure ElemT (P : Program) (tS e : TypeId) (es bytes : Nat) (ti : TypeInfo) (z : Value) : Prop where
  u : P.underlying tS = some (.slice e)
  hi : P.info? e = some ti
  hz : ti.zero = some z
  hs : ti.size = es
  hb : ti.bytes = bytes
  zs : z.cells.size = es
  zo : ∀ u ∈ z.cells.toList, u.oneCell' = true
  pos : 0 < es

theorem elemT_of {P : Program} {tS e : TypeId} {es bytes : Nat} (hu : P.underlying tS = some (.slice e)) (hz : (zer P e).map (·.length) = some es) (hs : (P.info? e).map (·.size) = some es) (hb : (P.info? e).map (·.bytes) = some bytes) (hp : 0 < es) :
    ∃ ti z, ElemT P tS e es bytes ti z := by
  obtain ⟨zl, hz1, hz2⟩ := Option.map_eq_some_iff.1 hz
  obtain ⟨i', zv, hi', hzi, hzc, hone⟩ := zer_some hz1
  rw [hi'] at hs hb
  simp only [Option.map_some, Option.some.injEq] at hs hb
  refine ⟨i', zv, hu, hi', hzi, hs, hb, by rw [← hz2, ← hzc]; simp, ?_, hp⟩
  intro u hu'
  rw [hzc] at hu'
  exact hone u hu'
theorem addr_add {b o j : Nat} : (⟨b, o, none⟩ : Addr).add j = ⟨b, o + j, none⟩ := Addr.add_lit ..
theorem row_cell {w : World} {g : Nat} {cur : Array Value} {e : TypeId} (hg : w.heap[g]? = some (.cells cur e (0, 0))) {L : List Value} {o : Nat} (h : ∀ (j : Nat) (u : Value), L[j]? = some u → cur.toList[o + j]? = some u) :
    ∀ (j : Nat) (u : Value), L[j]? = some u → w.cell? ((⟨g, o, none⟩ : Addr).add j) = some u := by
  intro j u hu
  rw [addr_add, cell_of_row w g (o + j) cur e (0, 0) hg]
  simpa using h j u hu

/-- The insertion, as a step of the world. -/
theorem ins_run {f fov : FuncId} {tS tI e tB : TypeId} {es bytes : Nat} {ti : TypeInfo} {z : Value} (E : ElemT P tS e es bytes ti z) (hI : P.underlying tI = some (.int .i64))
    (hs : InsShift P f fov tS es) (he : InsEnd P f tS) (hgr : InsGrow P f tS tI es)
    (hfov : ∀ w a b, (callFunc fov #[a, b]).run P w = ((Extern.SlicesOverlaps.overlaps #[tS, tS] #[tB] #[a, b]).run P w).andThen fun v w' => .ok (.value v) w')
    (w : World) (base : Option Addr) (n cap i vb mc : Nat) (flat vs : List Value) (cur1 : Array Value) (how : w.ownsRow 0 e es (.slice base n cap) n flat) (hvr : w.heap[vb]? = some (.cells cur1 e (0, 0))) (hv1 : cur1.toList.take es = vs) (hvl : vs.length = es) (hmc : 1 ≤ mc)
    (h1f : ∀ u ∈ flat, u.oneCell' = true) (h1v : ∀ u ∈ vs, u.oneCell' = true) (hne : ∀ a, base = some a → a.block ≠ vb) (hin : i ≤ n) (hn : n + 1 ≤ 1000000000) (hby : (n + 1) * bytes ≤ 140737488355328) :
    ∃ v' W', (Calls P f #[.slice base n cap, .int .i64 i, .slice (some ⟨vb, 0, none⟩) 1 mc] w fun e w' => e = .returned v' ∧ w' = W') ∧ W'.ownsRow 0 e es v' (n + 1) (flat.take (i * es) ++ vs ++ flat.drop (i * es)) ∧
      w.grownBy W' (Value.slice base n cap).ownBlock ∧ (v'.ownBlock = (Value.slice base n cap).ownBlock ∨ v'.ownBlock = some w.heap.size) := by
  have hvc : ∀ (j : Nat) (u : Value), vs[j]? = some u → cur1.toList[0 + j]? = some u := by
    intro j u hu
    rw [← hv1, List.getElem?_take] at hu
    split at hu
    · simpa using hu
    · simp at hu
  have hvlt : vb < w.heap.size := (Array.getElem?_eq_some_iff.1 hvr).1
  have hi' := E.hi
  have hpos := E.pos
  by_cases hie : i = n
  · subst hie
    obtain ⟨v', W', hrun, hown, hg, hnil, hat⟩ := run_append_own_at (P := P) w 0 tS tS e ti z es bytes E.u E.hi E.hz E.hs E.hb E.zs E.pos (.slice base i cap) i flat how ⟨vb, 0, none⟩ 1 mc vs (by rw [hvl]; omega)
      (row_cell hvr hvc) h1v (by unfold maxLen; omega) hby (Nat.zero_le _)
    have hnc : i ≤ cap := by
      rcases how.2 with ⟨h1, h2⟩ | ⟨g, cap', cur, h1, _, _, h2, _⟩
      · simp only [Value.slice.injEq] at h1; omega
      · simp only [Value.slice.injEq] at h1; omega
    refine ⟨v', W', he base i cap vb 1 mc v' w W' hnc (by omega) hrun, ?_, hg, hat⟩
    have h1 : flat.take (i * es) = flat := List.take_of_length_le (by rw [how.1]; omega)
    have h2 : flat.drop (i * es) = [] := List.drop_of_length_le (by rw [how.1]; omega)
    rw [h1, h2, List.append_nil]
    exact hown
  · have hlt : i < n := by omega
    rcases how.2 with ⟨h1, h2⟩ | ⟨g, cap', cur, h1, _, hg, hnc, hcm, hcs, htk⟩
    · omega
    · simp only [Value.slice.injEq] at h1
      obtain ⟨rfl, _, rfl⟩ := h1
      have hgv : g ≠ vb := hne _ rfl
      have hml : cap ≤ 9223372036854775807 := by unfold maxLen at hcm; omega
      have hfl : flat.length = n * es := how.1
      -- what stands in the row
      obtain ⟨A, hA⟩ : ∃ A, A = flat.take (i * es) := ⟨_, rfl⟩
      obtain ⟨B, hB⟩ : ∃ B, B = flat.drop (i * es) := ⟨_, rfl⟩
      have hmul : i * es + (n - i) * es = n * es := by rw [← Nat.add_mul]; congr 1; omega
      have hm1 : (i + 1) * es = i * es + es := by rw [Nat.add_mul]; omega
      have hm2 : (n + 1) * es = n * es + es := by rw [Nat.add_mul]; omega
      have hAl : A.length = i * es := by rw [hA, List.length_take]; omega
      have hBl : B.length = (n - i) * es := by rw [hB, List.length_drop]; omega
      have hAB : flat = A ++ B := by rw [hA, hB, List.take_append_drop]
      have hncm : n * es ≤ cap * es := Nat.mul_le_mul_right _ hnc
      obtain ⟨sp, hsp⟩ : ∃ sp, cur.toList = A ++ (B ++ sp) := ⟨cur.toList.drop (n * es), by rw [← List.append_assoc, ← hAB, ← htk, List.take_append_drop]⟩
      have hcl : cur.toList.length = cap * es := by simpa using hcs
      have hspl : i * es + ((n - i) * es + sp.length) = cap * es := by rw [← hcl, hsp]; simp [hAl, hBl]
      have h1B : ∀ u ∈ B, u.oneCell' = true := fun u hu => h1f u (by rw [hAB]; exact List.mem_append_right _ hu)
      have hBc : ∀ (j : Nat) (u : Value), B[j]? = some u → cur.toList[i * es + j]? = some u := by
        intro j u hu
        rw [hsp, List.getElem?_append_right (by omega), hAl, show i * es + j - i * es = j by omega, List.getElem?_append_left (lt_of_get hu)]
        exact hu
      rw [← hA, ← hB]
      by_cases hroom : n + 1 ≤ cap
      · have hcap1 : (n + 1) * es ≤ cap * es := Nat.mul_le_mul_right _ hroom
        have hov : ∀ lb cb, (callFunc fov #[.slice (some ⟨vb, 0, none⟩) 1 mc, .slice (some ⟨g, (i + 1) * es, none⟩) lb cb]).run P w = .ok (.value (.bool false)) w := fun lb cb => by
          rw [hfov, Lib.run_overlaps_apart w tS tB e E.u es (fun w => by simp [sizeOf, typeInfo, hi', E.hs]) ⟨vb, 0, none⟩ ⟨g, (i + 1) * es, none⟩ 1 mc lb cb (by simpa using hgv.symm) e e cur1.size cur.size (by simp [World.shape?, hvr]) (by simp [World.shape?, hg]) (by rw [hcs]; omega) (by simp [World.frozen?, hvr]) (by simp [World.frozen?, hvr])]
          rfl
        -- the first copy
        have hg' : w.drew.heap[g]? = some (.cells cur e (0, 0)) := hg
        have hc1 := fun ty => run_copy_row (P := P) w.drew tS tS ty e ti g ((i + 1) * es) (n - i) (cap - (i + 1)) ⟨g, i * es, none⟩ (n + 1 - i) (cap - i) B cur e E.u hi' (by rw [hBl, E.hs]; congr 1; simp only [Nat.min_def]; split <;> omega) hg' (by rw [hBl, hcs]; omega) (row_cell hg' hBc) h1B
        rw [show Nat.min (n + 1 - i) (n - i) = n - i by simp only [Nat.min_def]; split <;> omega] at hc1
        obtain ⟨cur2, hcur2⟩ : ∃ cur2, (cur.toList.take ((i + 1) * es) ++ B ++ cur.toList.drop ((i + 1) * es + B.length)).toArray = cur2 := ⟨_, rfl⟩
        rw [hcur2] at hc1
        have hw2 := setRow_heap w.drew g cur cur2 e (0, 0) hg'
        have hl2 : cur2.toList = A ++ ((cur.toList.drop (i * es)).take es ++ (B ++ cur.toList.drop ((i + 1) * es + B.length))) := by
          rw [← hcur2]
          have : cur.toList.take ((i + 1) * es) = A ++ (cur.toList.drop (i * es)).take es := by
            rw [hm1, List.take_add]
            congr 1
            rw [hsp, List.take_left' hAl]
          simp only [this, List.append_assoc]
        have hX : ((cur.toList.drop (i * es)).take es).length = es := by rw [List.length_take, List.length_drop, hcl]; omega
        obtain ⟨R, hR⟩ : ∃ R, cur.toList.drop ((i + 1) * es + B.length) = R := ⟨_, rfl⟩
        rw [hR] at hl2
        have hrest : R.length = cap * es - (n + 1) * es := by rw [← hR, List.length_drop, hcl, hBl]; omega
        have hs2 : cur2.size = cap * es := by
          have : cur2.toList.length = cap * es := by rw [hl2]; simp only [List.length_append, hAl, hX, hBl, hrest]; omega
          simpa using this
        -- the second copy
        have hvr2 : (w.drew.setRow g cur2).heap[vb]? = some (.cells cur1 e (0, 0)) := by rw [setRow_other _ _ _ _ hgv.symm]; exact hvr
        have hc2 := fun ty => run_copy_row (P := P) (w.drew.setRow g cur2) tS tS ty e ti g (i * es) (n + 1 - i) (cap - i) ⟨vb, 0, none⟩ 1 mc vs cur2 e E.u hi' (by rw [hvl, E.hs, show Nat.min 1 (n + 1 - i) = 1 by simp only [Nat.min_def]; split <;> omega]; omega) hw2 (by rw [hvl, hs2]; omega) (row_cell hvr2 hvc) h1v
        rw [show Nat.min 1 (n + 1 - i) = 1 by simp only [Nat.min_def]; split <;> omega] at hc2
        refine ⟨_, _, hs g n cap i vb mc _ _ w hlt hroom hml hov hc1 hc2, ⟨?_, .inr ⟨g, cap, _, rfl, Nat.zero_le _, setRow_heap _ _ _ _ _ _ hw2, hroom, hcm, ?_, ?_⟩⟩, ⟨rfl, rfl, rfl, by simp, ?_⟩, .inl rfl⟩
        · simp only [List.length_append, hAl, hvl, hBl]; omega
        · simp only [List.size_toArray, List.length_append, List.length_take, List.length_drop]
          have : cur2.toList.length = cap * es := by simpa using hs2
          omega
        · have e1 : cur2.toList.take (i * es) = A := by rw [hl2, List.take_left' hAl]
          have e2 : cur2.toList.drop (i * es + vs.length) = B ++ R := by
            rw [hl2, hvl, ← List.drop_drop, List.drop_left' hAl, List.drop_left' hX]
          simp only [e1, e2]
          rw [← List.append_assoc, List.take_left']
          simp only [List.length_append, hAl, hvl, hBl]; omega
        · intro k hk hne'
          have hkg : k ≠ g := by rintro rfl; exact hne' rfl
          rw [setRow_other _ _ _ _ hkg, setRow_other _ _ _ _ hkg]
          rfl
      · have hcn : cap = n := by omega
        subst hcn
        have hold : (Builtin.firstCells ti.size i (.slice (some ⟨g, 0, none⟩) i cap)).run P w.drew = .ok A.toArray w.drew :=
          run_firstCells_some w.drew ti.size i ⟨g, 0, none⟩ i cap A (by rw [hAl, E.hs]) (row_cell (show w.drew.heap[g]? = some (.cells cur e (0, 0)) from hg) fun j u hu => by
            rw [hsp, Nat.zero_add, List.getElem?_append_left (lt_of_get hu)]; exact hu)
        have hge := grownCap_ge w (cap + 1) cap e
        have hgm := grownCap_le_maxLen w (cap + 1) cap e (by unfold maxLen; omega)
        have hap := fun ty => Lib.run_append_grow_zeros (P := P) w tS tI ty e ti z .i64 .i64 E.u hI E.hi E.hz (some ⟨g, 0, none⟩) i cap A hold (cap + 1 - i) (by omega) (by rw [E.hs]; exact hpos) (by omega) (by omega)
          (by
            have : (cap + 1 - i) * ti.bytes ≤ (cap + 1) * ti.bytes := Nat.mul_le_mul_right _ (by omega)
            rw [E.hb] at this ⊢; omega)
          (by rw [show i + (cap + 1 - i) = cap + 1 by omega, E.hb]; exact growslice_fits (by omega) hby)
        rw [show i + (cap + 1 - i) = cap + 1 by omega] at hap
        obtain ⟨C, hC⟩ : ∃ C, grownCap w (cap + 1) cap e = C := ⟨_, rfl⟩
        rw [hC] at hge hgm hap
        have hCe : (cap + 1) * es ≤ C * es := Nat.mul_le_mul_right _ hge
        obtain ⟨ROW, hROW⟩ : ∃ ROW, (A.toArray ++ Builtin.zeroCells z.cells (cap + 1 - i) ++ Builtin.zeroCells z.cells (C - (cap + 1))) = ROW := ⟨_, rfl⟩
        rw [hROW] at hap
        obtain ⟨Z, hRl⟩ : ∃ Z, ROW.toList = A ++ Z := ⟨(Builtin.zeroCells z.cells (cap + 1 - i)).toList ++ (Builtin.zeroCells z.cells (C - (cap + 1))).toList, by rw [← hROW]; simp⟩
        have hRs : ROW.size = C * es := by
          rw [← hROW]
          simp only [Array.size_append, List.size_toArray, size_zeroCells, E.zs, hAl]
          rw [← Nat.add_mul, ← Nat.add_mul]
          congr 1
          omega
        have hZl : i * es + Z.length = C * es := by
          have : ROW.toList.length = C * es := by simpa using hRs
          rw [hRl, List.length_append, hAl] at this
          exact this
        obtain ⟨W1, hW1⟩ : ∃ W1, w.drew.alloc (.cells ROW e) = W1 := ⟨_, rfl⟩
        rw [hW1] at hap
        have hN : W1.heap[w.heap.size]? = some (.cells ROW e (0, 0)) := by rw [← hW1]; exact Go.heap_alloc_new w.drew _
        have hO : ∀ k, k < w.heap.size → W1.heap[k]? = w.heap[k]? := fun k hk => by rw [← hW1]; first | exact heap_alloc_old w.drew _ k hk | exact heap_alloc_old w.drew _ hk
        have hgl : g < w.heap.size := (Array.getElem?_eq_some_iff.1 hg).1
        have hvr1 : W1.heap[vb]? = some (.cells cur1 e (0, 0)) := by rw [hO vb hvlt]; exact hvr
        have hc1 := fun ty => run_copy_row (P := P) W1 tS tS ty e ti w.heap.size (i * es) (cap + 1 - i) (C - i) ⟨vb, 0, none⟩ 1 mc vs ROW e E.u hi' (by rw [hvl, E.hs, show Nat.min 1 (cap + 1 - i) = 1 by simp only [Nat.min_def]; split <;> omega]; omega) hN (by rw [hvl, hRs]; omega) (row_cell hvr1 hvc) h1v
        rw [show Nat.min 1 (cap + 1 - i) = 1 by simp only [Nat.min_def]; split <;> omega] at hc1
        obtain ⟨R2, hR2⟩ : ∃ R2, (ROW.toList.take (i * es) ++ vs ++ ROW.toList.drop (i * es + vs.length)).toArray = R2 := ⟨_, rfl⟩
        rw [hR2] at hc1
        have hl2 : R2.toList = A ++ (vs ++ Z.drop es) := by
          rw [← hR2, hRl, hvl, List.take_left' hAl, ← List.drop_drop, List.drop_left' hAl]
          simp
        have hs2 : R2.size = C * es := by
          have : R2.toList.length = C * es := by rw [hl2]; simp only [List.length_append, hAl, hvl, List.length_drop]; omega
          simpa using this
        have hN2 := setRow_heap W1 w.heap.size ROW R2 e (0, 0) hN
        have hg2 : (W1.setRow w.heap.size R2).drew.heap[g]? = some (.cells cur e (0, 0)) := by
          show (W1.setRow w.heap.size R2).heap[g]? = _
          rw [setRow_other _ _ _ _ (by omega), hO g hgl]
          exact hg
        have hN2' : (W1.setRow w.heap.size R2).drew.heap[w.heap.size]? = some (.cells R2 e (0, 0)) := hN2
        have hc2 := fun ty => run_copy_row (P := P) (W1.setRow w.heap.size R2).drew tS tS ty e ti w.heap.size ((i + 1) * es) (cap - i) (C - (i + 1)) ⟨g, i * es, none⟩ (cap - i) (cap - i) B R2 e E.u hi' (by rw [hBl, E.hs]; congr 1; simp only [Nat.min_def]; split <;> omega) hN2' (by rw [hBl, hs2]; omega) (row_cell hg2 hBc) h1B
        rw [show Nat.min (cap - i) (cap - i) = cap - i by simp only [Nat.min_def]; split <;> omega] at hc2
        refine ⟨_, _, hgr g cap cap i vb mc w.heap.size C _ _ _ w hlt (Nat.le_refl _) (by omega) (by omega) hge (by unfold maxLen at hgm; omega) (fun ty => by rw [show (cap : Int) + 1 - (i : Int) = ((cap + 1 - i : Nat) : Int) by omega]; exact hap ty) hc1 hc2,
          ⟨?_, .inr ⟨w.heap.size, C, _, rfl, Nat.zero_le _, setRow_heap _ _ _ _ _ _ hN2', hge, hgm, ?_, ?_⟩⟩, ⟨?_, ?_, ?_, ?_, ?_⟩, .inr rfl⟩
        · simp only [List.length_append, hAl, hvl, hBl]; omega
        · simp only [List.size_toArray, List.length_append, List.length_take, List.length_drop]
          have : R2.toList.length = C * es := by simpa using hs2
          omega
        · have e1 : R2.toList.take ((i + 1) * es) = A ++ vs := by rw [hl2, ← List.append_assoc, List.take_left' (by rw [List.length_append, hAl, hvl, hm1])]
          simp only [e1]
          rw [List.take_left']
          simp only [List.length_append, hAl, hvl, hBl]; omega
        · rw [← hW1]; rfl
        · rw [← hW1]; rfl
        · rw [← hW1]; rfl
        · rw [← hW1]; simp
        · intro k hk _
          rw [setRow_other _ _ _ _ (by omega)]
          show (W1.setRow w.heap.size R2).heap[k]? = _
          rw [setRow_other _ _ _ _ (by omega), hO k hk]

/-- One element taken out, as a step of the world. -/
theorem del_run {f : FuncId} {tS e : TypeId} {es bytes : Nat} {ti : TypeInfo} {z : Value} (E : ElemT P tS e es bytes ti z) (hd : DelOne P f tS es)
    (w : World) (base : Option Addr) (n cap i : Nat) (flat : List Value) (how : w.ownsRow 0 e es (.slice base n cap) n flat) (h1f : ∀ u ∈ flat, u.oneCell' = true) (hin : i < n) :
    ∃ v' W', (Calls P f #[.slice base n cap, .int .i64 i, .int .i64 ((i : Int) + 1)] w fun e w' => e = .returned v' ∧ w' = W') ∧ W'.ownsRow 0 e es v' (n - 1) (flat.take (i * es) ++ flat.drop ((i + 1) * es)) ∧
      w.grownBy W' (Value.slice base n cap).ownBlock ∧ (v'.ownBlock = (Value.slice base n cap).ownBlock ∨ v'.ownBlock = some w.heap.size) := by
  have hi' := E.hi
  have hpos := E.pos
  rcases how.2 with ⟨h1, h2⟩ | ⟨g, cap', cur, h1, _, hg, hnc, hcm, hcs, htk⟩
  · omega
  · simp only [Value.slice.injEq] at h1
    obtain ⟨rfl, _, rfl⟩ := h1
    have hml : cap ≤ 9223372036854775807 := by unfold maxLen at hcm; omega
    have hfl : flat.length = n * es := how.1
    have hmul : (i + 1) * es + (n - (i + 1)) * es = n * es := by rw [← Nat.add_mul]; congr 1; omega
    have hm1 : (i + 1) * es = i * es + es := by rw [Nat.add_mul]; omega
    have hm2 : (n - 1) * es = i * es + (n - (i + 1)) * es := by rw [← Nat.add_mul]; congr 1; omega
    have hncm : n * es ≤ cap * es := Nat.mul_le_mul_right _ hnc
    have hcl : cur.toList.length = cap * es := by simpa using hcs
    obtain ⟨B, hB⟩ : ∃ B, B = flat.drop ((i + 1) * es) := ⟨_, rfl⟩
    have hBl : B.length = (n - (i + 1)) * es := by rw [hB, List.length_drop]; omega
    have h1B : ∀ u ∈ B, u.oneCell' = true := fun u hu => h1f u (by rw [hB] at hu; exact List.mem_of_mem_drop hu)
    have hBc : ∀ (j : Nat) (u : Value), B[j]? = some u → cur.toList[(i + 1) * es + j]? = some u := by
      intro j u hu
      have hlt := lt_of_get hu
      rw [hB, List.getElem?_drop, ← htk, List.getElem?_take] at hu
      split at hu
      · exact hu
      · simp at hu
    have hAt : cur.toList.take (i * es) = flat.take (i * es) := by
      rw [← htk, List.take_take]
      congr 1
      have := Nat.mul_le_mul_right es (Nat.le_of_lt hin)
      omega
    have hg' : w.drew.heap[g]? = some (.cells cur e (0, 0)) := hg
    obtain ⟨A, hA, hAc⟩ : ∃ A : Addr, (if cap = i + 1 then some (⟨g, 0, none⟩ : Addr) else some ⟨g, (i + 1) * es, none⟩) = some A ∧ ∀ (j : Nat) (u : Value), B[j]? = some u → w.drew.cell? (A.add j) = some u := by
      by_cases hc : cap = i + 1
      · refine ⟨⟨g, 0, none⟩, by rw [if_pos hc], fun j u hu => ?_⟩
        have h0 : B = [] := List.eq_nil_of_length_eq_zero (by rw [hBl, show n - (i + 1) = 0 by omega, Nat.zero_mul])
        rw [h0] at hu
        simp at hu
      · exact ⟨⟨g, (i + 1) * es, none⟩, by rw [if_neg hc], row_cell hg' hBc⟩
    have hap := fun ty => run_append_room (P := P) w.drew tS ty e ti E.u hi' g i cap cur hg' A (n - (i + 1)) (cap - (i + 1)) B (by rw [hBl, E.hs]) hAc h1B (by omega) (by rw [hBl, hcs, E.hs]; omega)
    rw [show i + (n - (i + 1)) = n - 1 by omega, E.hs] at hap
    obtain ⟨R, hR⟩ : ∃ R, (cur.toList.take (i * es) ++ B ++ cur.toList.drop (i * es + B.length)).toArray = R := ⟨_, rfl⟩
    rw [hR] at hap
    have hAl : (flat.take (i * es)).length = i * es := by
      have := Nat.mul_le_mul_right es (Nat.le_of_lt hin)
      rw [List.length_take]; omega
    obtain ⟨S, hS⟩ : ∃ S, cur.toList.drop (i * es + B.length) = S := ⟨_, rfl⟩
    have hSl : S.length = cap * es - (i * es + B.length) := by rw [← hS, List.length_drop, hcl]
    have hRl : R.toList = flat.take (i * es) ++ (B ++ S) := by rw [← hR, hAt, hS]; simp
    have hRs : R.size = cap * es := by
      have : R.toList.length = cap * es := by rw [hRl]; simp only [List.length_append, hAl, hSl]; omega
      simpa using this
    have hw1 := setRow_heap w.drew g cur R e (0, 0) hg'
    have hzc : (Builtin.zeroCells z.cells (n - (n - 1))).toList.length = es := by
      have := size_zeroCells z.cells (n - (n - 1))
      rw [E.zs, show n - (n - 1) = 1 by omega] at this
      rw [show n - (n - 1) = 1 by omega]
      simpa using this
    have hzo : ∀ u ∈ (Builtin.zeroCells z.cells (n - (n - 1))).toList, u.oneCell' = true := by
      intro u hu
      rw [show n - (n - 1) = 1 by omega] at hu
      refine E.zo u ?_
      obtain ⟨a, ha, rfl⟩ : ∃ a, a < z.cells.size ∧ z.cells[a % z.cells.size]! = u := by simpa [Builtin.zeroCells] using hu
      have hlt : a % z.cells.size < z.cells.size := Nat.mod_lt _ (by omega)
      rw [getElem!_pos z.cells _ hlt]
      simp
    obtain ⟨ZZ, hZZ⟩ : ∃ ZZ, (Builtin.zeroCells z.cells (n - (n - 1))).toList = ZZ := ⟨_, rfl⟩
    rw [hZZ] at hzc hzo
    have hst := run_storeCells_at P g ((n - 1) * es) e ZZ 0 R (w.drew.setRow g R) hw1 (by rw [hzc, hRs]; omega) hzo
    simp only [Nat.add_zero] at hst
    obtain ⟨k1, hk1⟩ : ∃ k1, n - (n - 1) = k1 + 1 := ⟨0, by omega⟩
    have hclr : ∀ ty, (Builtin.clear_ #[tS] ty #[.slice (some ⟨g, (n - 1) * es, none⟩) (n - (n - 1)) (cap - (n - 1))]).run P (w.drew.setRow g R) = .ok (.tuple #[]) _ := fun ty => by
      rw [hk1] at hZZ ⊢
      simp only [Builtin.clear_]
      simp only [List.getElem?_toArray, List.getElem?_cons_zero, Sem.run_bind, run_underlying E.u, zeroValue, typeInfo, hi', E.hz]
      simp [zeroValue, typeInfo, hi', E.hz, hZZ, hst]
      rfl
    refine ⟨_, _, hd g n cap i (i + 1) (n - 1) A _ _ w rfl rfl hin hnc hml hA hap hclr, ⟨?_, .inr ⟨g, cap, _, rfl, Nat.zero_le _, setRow_heap _ _ _ _ _ _ hw1, by omega, hcm, ?_, ?_⟩⟩, ⟨rfl, rfl, rfl, by simp, ?_⟩, .inl rfl⟩
    · rw [← hB]; simp only [List.length_append, hAl, hBl]; omega
    · have : R.toList.length = cap * es := by simpa using hRs
      simp only [List.size_toArray, List.length_append, List.length_take, List.length_drop, hzc]
      omega
    · have e1 : R.toList.take ((n - 1) * es) = flat.take (i * es) ++ B := by
        rw [hRl, ← List.append_assoc, List.take_left']
        simp only [List.length_append, hAl, hBl]; omega
      simp only [e1, List.append_assoc]
      rw [← List.append_assoc, List.take_left', hB]
      simp only [List.length_append, hAl, hBl]; omega
    · intro k hk hne'
      have hkg : k ≠ g := by rintro rfl; exact hne' rfl
      rw [setRow_other _ _ _ _ hkg, setRow_other _ _ _ _ hkg]
      rfl

/-! ### as contracts -/
theorem ones_of {Φ : Nat → Prop} {w : World} {fs : List FV} {vs : List Value} (h : All2 (FR Φ w) fs vs) : ∀ u ∈ vs, u.oneCell' = true := by
  intro u hu
  obtain ⟨j, hj⟩ := List.getElem?_of_mem hu
  obtain ⟨c, _, hr⟩ := h.get' hj
  exact hr.oneCell
theorem row_own {w : World} {m : Nat} {ρ0 : Nat → Value} {Φ0 : Nat → Prop} {H : Nat → Option EO} {X : Cx} (r : Rel w m ρ0 Φ0 H X) {o : Nat} {e : TypeId} {es : Nat} {xs : List (List FV)} (hH : H o = some (.row e es xs)) {v : Value} (hv : VR X (.row o xs.length) v) :
    ∃ base cap flat, v = .slice base xs.length cap ∧ X.ρ o = v ∧ 0 < es ∧ (∀ x ∈ xs, x.length = es) ∧ X.w.ownsRow 0 e es (.slice base xs.length cap) xs.length flat ∧ All2 (FR X.Φ X.w) xs.flatten flat := by
  obtain ⟨hu, a, n0, cap, hρ, q1, q2, q3⟩ := hv
  obtain ⟨h0, hl, flat, how, hall⟩ := (r.obj o _ hH).2
  rw [hρ] at how
  have hn : n0 = xs.length := by
    rcases how.2 with ⟨hn, hz⟩ | ⟨g, cap', cur, he, _⟩
    · simp only [Value.slice.injEq] at hn; omega
    · simp only [Value.slice.injEq] at he; omega
  subst hn
  exact ⟨a, cap, flat, q3, by rw [hρ, q3], h0, hl, how, hall⟩

theorem ins_ecalls {f fov : FuncId} {tS tI e tB : TypeId} {es bytes : Nat} {ti : TypeInfo} {z : Value} (E : ElemT P tS e es bytes ti z) (hI : P.underlying tI = some (.int .i64))
    (hs : InsShift P f fov tS es) (he : InsEnd P f tS) (hgr : InsGrow P f tS tI es)
    (hfov : ∀ w a b, (callFunc fov #[a, b]).run P w = ((Extern.SlicesOverlaps.overlaps #[tS, tS] #[tB] #[a, b]).run P w).andThen fun v w' => .ok (.value v) w')
    (xs : List (List FV)) (x : List FV) (i : Nat) (hin : i ≤ xs.length) (hn : xs.length + 1 ≤ 1000000000) (hby : (xs.length + 1) * bytes ≤ 140737488355328) :
    ECalls P f [.v (.c (.row 0 xs.length)), .lit (.int .i64 i), .v (.c (.row 1 1))] [.row e es xs, .row e es [x]] fun y H' =>
      H' = [none, some (.row e es [x]), some (.row e es (xs.take i ++ x :: xs.drop i))] ∧ y = .v (.c (.row 2 (xs.length + 1))) := by
  intro ρ Φ w vals r ha
  obtain ⟨v0, vs0, rfl, h0, ha⟩ := ha.cons_left
  obtain ⟨v1, vs1, rfl, h1, ha⟩ := ha.cons_left
  obtain ⟨v2, vs2, rfl, h2, ha⟩ := ha.cons_left
  obtain rfl := ha.nil_left
  have h1' : FR Φ w (.lit (.int .i64 i)) v1 := h1
  obtain rfl : v1 = .int .i64 i := by cases h1'; rfl
  obtain ⟨base, cap, flat, rfl, hρ0, hp, hl, how, hall⟩ := row_own r (o := 0) (e := e) (es := es) (xs := xs) rfl h0
  obtain ⟨base2, mc, vs, rfl, hρ1, _, hl2, how2, hall2⟩ := row_own r (o := 1) (e := e) (es := es) (xs := [x]) rfl h2
  have hxl : x.length = es := hl2 x (by simp)
  rcases how2.2 with ⟨_, hbad⟩ | ⟨vb, mc', cur1, hvb, _, hvr, hmc, _, _, htk⟩
  · simp at hbad
  simp only [List.length_cons, List.length_nil, Nat.zero_add, Value.slice.injEq, true_and] at hvb hmc htk
  obtain ⟨rfl, rfl⟩ := hvb
  have hvl : vs.length = es := by have := how2.1; simpa using this
  have hne : ∀ a, base = some a → a.block ≠ vb := by
    rintro a rfl hb'
    have hb0 : hb (ρ 0) = some vb := by have : ρ 0 = _ := hρ0; rw [this]; simp [hb, hb']
    have hb1 : hb (ρ 1) = some vb := by have : ρ 1 = _ := hρ1; rw [this]; rfl
    exact absurd (r.inj 0 1 _ _ vb rfl rfl hb0 hb1) (by decide)
  obtain ⟨v', W', hcalls, hown, hg, hat⟩ := ins_run E hI hs he hgr hfov w base xs.length cap i vb mc flat vs cur1 how hvr (by simpa using htk) hvl hmc (ones_of hall) (by have := ones_of hall2; exact this) hne hin hn hby
  refine hcalls.mono ?_
  rintro e' w' ⟨rfl, rfl⟩
  have hob : (Value.slice base xs.length cap).ownBlock = hb (Value.slice base xs.length cap) := own_hb _ rfl
  obtain ⟨a', n', hv'⟩ : ∃ a' c', v' = .slice a' (xs.length + 1) c' ∧ xs.length + 1 ≤ c' := by
    rcases hown.2 with ⟨h1, h2⟩ | ⟨g, cap', cur, h1, _, _, h2, _⟩
    · omega
    · exact ⟨_, cap', h1, h2⟩
  have hob' := own_hb v' hv'.1
  have nbo : ∀ b, Φ b → some b ≠ (Value.slice base xs.length cap).ownBlock := by
    intro b hb' e'
    refine r.dis 0 _ b rfl ?_ hb'
    have : ρ 0 = _ := hρ0
    show hb (ρ 0) = some b
    rw [this, ← hob, e']
  have hl0 : Later ⟨fun o => o < 2, ρ, Φ, w⟩ { U := fun o => o < 2 ∨ o = 2, ρ := upd ρ 2 v', Φ := Φ, w := w' } :=
    ⟨fun _ h => .inl h, fun o hu => upd_ne _ _ _ (by have : o < 2 := hu; omega), fun _ h => h, fun b hb' => hg.block b (r.fro b hb') (nbo b hb')⟩
  have hfl : (xs.take i ++ x :: xs.drop i).flatten = xs.flatten.take (i * es) ++ x ++ xs.flatten.drop (i * es) := by
    rw [List.flatten_append, List.flatten_cons, flatten_take hl, flatten_drop hl, List.append_assoc]
  have hlen : (xs.take i ++ x :: xs.drop i).length = xs.length + 1 := by simp; omega
  have hx2 : All2 (FR Φ w) x vs := by have := hall2; simpa using this
  obtain ⟨r', l'⟩ := r.grow (some 0) (Value.slice base xs.length cap).ownBlock (.inr ⟨0, _, rfl, rfl, by have : ρ 0 = _ := hρ0; show hb (ρ 0) = _; rw [this, hob]⟩) hg (id := 2) (by show ¬ (2 < 2); omega) (Nat.le_refl _) v'
    (by rw [← hob']; rcases hat with h | h; exact .inr (.inl h); exact .inr (.inr h)) (.row e es (xs.take i ++ x :: xs.drop i))
    ⟨hp, by
      intro y hy
      rcases List.mem_append.1 hy with h | h
      · exact hl y (List.mem_of_mem_take h)
      · rcases List.mem_cons.1 h with rfl | h
        · exact hxl
        · exact hl y (List.mem_of_mem_drop h), _, by rw [hlen]; exact hown, by
      rw [hfl]
      exact (((hall.take _).append hx2).append (hall.drop _)).mono fun _ _ => hl0.fr⟩
  have hU : (fun o => o < 2 ∨ o = 2) = fun o => o < 3 := funext fun o => propext (by omega)
  have hH : upd (dropO (ofL [EO.row e es xs, .row e es [x]]) (some 0)) 2 (some (.row e es (xs.take i ++ x :: xs.drop i))) = ofO [none, some (.row e es [x]), some (.row e es (xs.take i ++ x :: xs.drop i))] := by
    funext o
    match o with
    | 0 => rfl
    | 1 => rfl
    | 2 => rfl
    | o + 3 => simp [upd, dropO, ofL, ofO]
  refine ⟨_, _, v', upd ρ 2 v', Φ, rfl, ⟨rfl, rfl⟩, by simp, ?_, ?_⟩
  · exact ⟨by show 2 < _; simp, a', xs.length + 1, n', by simp [upd_same, hv'.1], Nat.le_refl _, hv'.2, hv'.1⟩
  · have r2 : Rel w 2 ρ Φ _ { U := fun o => o < 2 ∨ o = 2, ρ := upd ρ 2 v', Φ := Φ, w := w' } := r'
    rw [hU] at r2
    have r3 := hH ▸ r2
    exact r3

theorem del_ecalls {f : FuncId} {tS e : TypeId} {es bytes : Nat} {ti : TypeInfo} {z : Value} (E : ElemT P tS e es bytes ti z) (hd : DelOne P f tS es)
    (xs : List (List FV)) (i : Nat) (hin : i < xs.length) :
    ECalls P f [.v (.c (.row 0 xs.length)), .lit (.int .i64 i), .lit (.int .i64 ((i : Int) + 1))] [.row e es xs] fun y H' =>
      H' = [none, some (.row e es (xs.take i ++ xs.drop (i + 1)))] ∧ y = .v (.c (.row 1 (xs.length - 1))) := by
  intro ρ Φ w vals r ha
  obtain ⟨v0, vs0, rfl, h0, ha⟩ := ha.cons_left
  obtain ⟨v1, vs1, rfl, h1, ha⟩ := ha.cons_left
  obtain ⟨v2, vs2, rfl, h2, ha⟩ := ha.cons_left
  obtain rfl := ha.nil_left
  have h1' : FR Φ w (.lit (.int .i64 i)) v1 := h1
  obtain rfl : v1 = .int .i64 i := by cases h1'; rfl
  have h2' : FR Φ w (.lit (.int .i64 ((i : Int) + 1))) v2 := h2
  obtain rfl : v2 = .int .i64 ((i : Int) + 1) := by cases h2'; rfl
  obtain ⟨base, cap, flat, rfl, hρ0, hp, hl, how, hall⟩ := row_own r (o := 0) (e := e) (es := es) (xs := xs) rfl h0
  obtain ⟨v', W', hcalls, hown, hg, hat⟩ := del_run E hd w base xs.length cap i flat how (ones_of hall) hin
  refine hcalls.mono ?_
  rintro e' w' ⟨rfl, rfl⟩
  have hob : (Value.slice base xs.length cap).ownBlock = hb (Value.slice base xs.length cap) := own_hb _ rfl
  obtain ⟨a', n', hv'⟩ : ∃ a' c', v' = .slice a' (xs.length - 1) c' ∧ xs.length - 1 ≤ c' := by
    rcases hown.2 with ⟨h1, h2⟩ | ⟨g, cap', cur, h1, _, _, h2, _⟩
    · exact ⟨none, 0, by rw [h1, h2], by omega⟩
    · exact ⟨_, cap', h1, h2⟩
  have hob' := own_hb v' hv'.1
  have nbo : ∀ b, Φ b → some b ≠ (Value.slice base xs.length cap).ownBlock := by
    intro b hb' e'
    refine r.dis 0 _ b rfl ?_ hb'
    have : ρ 0 = _ := hρ0
    show hb (ρ 0) = some b
    rw [this, ← hob, e']
  have hl0 : Later ⟨fun o => o < 1, ρ, Φ, w⟩ { U := fun o => o < 1 ∨ o = 1, ρ := upd ρ 1 v', Φ := Φ, w := w' } :=
    ⟨fun _ h => .inl h, fun o hu => upd_ne _ _ _ (by have : o < 1 := hu; omega), fun _ h => h, fun b hb' => hg.block b (r.fro b hb') (nbo b hb')⟩
  have hfl : (xs.take i ++ xs.drop (i + 1)).flatten = xs.flatten.take (i * es) ++ xs.flatten.drop ((i + 1) * es) := by
    rw [List.flatten_append, flatten_take hl, flatten_drop hl]
  have hlen : (xs.take i ++ xs.drop (i + 1)).length = xs.length - 1 := by simp; omega
  obtain ⟨r', l'⟩ := r.grow (some 0) (Value.slice base xs.length cap).ownBlock (.inr ⟨0, _, rfl, rfl, by have : ρ 0 = _ := hρ0; show hb (ρ 0) = _; rw [this, hob]⟩) hg (id := 1) (by show ¬ (1 < 1); omega) (Nat.le_refl _) v'
    (by rw [← hob']; rcases hat with h | h; exact .inr (.inl h); exact .inr (.inr h)) (.row e es (xs.take i ++ xs.drop (i + 1)))
    ⟨hp, by
      intro y hy
      rcases List.mem_append.1 hy with h | h
      · exact hl y (List.mem_of_mem_take h)
      · exact hl y (List.mem_of_mem_drop h), _, by rw [hlen]; exact hown, by
      rw [hfl]
      exact ((hall.take _).append (hall.drop _)).mono fun _ _ => hl0.fr⟩
  have hU : (fun o => o < 1 ∨ o = 1) = fun o => o < 2 := funext fun o => propext (by omega)
  have hH : upd (dropO (ofL [EO.row e es xs]) (some 0)) 1 (some (.row e es (xs.take i ++ xs.drop (i + 1)))) = ofO [none, some (.row e es (xs.take i ++ xs.drop (i + 1)))] := by
    funext o
    match o with
    | 0 => rfl
    | 1 => rfl
    | o + 2 => simp [upd, dropO, ofL, ofO]
  refine ⟨_, _, v', upd ρ 1 v', Φ, rfl, ⟨rfl, rfl⟩, by simp, ?_, ?_⟩
  · exact ⟨by show 1 < _; simp, a', xs.length - 1, n', by simp [upd_same, hv'.1], Nat.le_refl _, hv'.2, hv'.1⟩
  · have r2 : Rel w 1 ρ Φ _ { U := fun o => o < 1 ∨ o = 1, ρ := upd ρ 1 v', Φ := Φ, w := w' } := r'
    rw [hU] at r2
    have r3 := hH ▸ r2
    exact r3

end Go.EW

set_option linter.unusedVariables false
set_option linter.unusedSimpArgs false
namespace Go.Proofs.YtdeeophiffchjaaDoor
open Go.RowKit Go.Lib Go.EW
namespace InsS

theorem elem : ∃ ti z, ElemT Tryd.prog 29 54 33 40 ti z := elemT_of (by kernel_rfl) (by kernel_rfl) (by kernel_rfl) (by kernel_rfl) (by decide)
theorem fov (w : World) (a b : Value) : (callFunc 43 #[a, b]).run Tryd.prog w = ((Extern.SlicesOverlaps.overlaps #[29, 29] #[4] #[a, b]).run Tryd.prog w).andThen fun v w' => .ok (.value v) w' := by
  rw [run_callFunc_extern Tryd.func43 (by kernel_rfl) (by kernel_rfl) (by kernel_rfl) (e := Extern.SlicesOverlaps.overlaps #[29, 29] #[4]) (by kernel_rfl)]

set_option maxHeartbeats 4000000 in
set_option maxRecDepth 100000 in
theorem shift : InsShift Tryd.prog 28 43 29 33 := by
  intro g n c i vb mc W1 W2 w hi hroom hc63 hov hc1 hc2
  have hz2 : ¬ ((i : Int) = (n : Int)) := by omega
  have hw1 : IntKind.i64.wrap ((i : Int) + 1) = (i : Int) + 1 := by rw [IntKind.wrap_i64]; omega
  have hw2 : IntKind.i64.wrap ((n : Int) + 1) = (n : Int) + 1 := by rw [IntKind.wrap_i64]; omega
  have hb1 : (0 : Int) ≤ (i : Int) + 1 := by omega
  have hin : i ≤ n := by omega
  have htn : ((i : Int) + 1).toNat = i + 1 := by omega
  have hb2 : ¬ (c = i + 1) := by omega
  have hb3 : (i : Int) ≤ (n : Int) + 1 := by omega
  have hb4 : ¬ (c = i) := by omega
  go_enter Tryd.func28, Tryd.ntmps28
  go_wp2_with (simp only [hov])
  go_region_law (refine step_copy_runI rfl _ _ 29 29 rfl _ _ (by simp [Act.eval, Act.put]) (by simp [Act.eval, Act.put]) (hc1 _) ?_)
  go_wp2_with (at_builtin; refine wpList_copy_runI _ rfl _ _ 29 29 rfl _ _ rfl rfl (hc2 _) ?_)
  go_ret
  exact ⟨rfl, rfl⟩

set_option maxHeartbeats 4000000 in
set_option maxRecDepth 100000 in
theorem atEnd : InsEnd Tryd.prog 28 29 := by
  intro base n c vb m mc v' w W1 hnc hm hap
  have hz1 : ¬ ((m : Int) = 0) := by omega
  go_enter Tryd.func28, Tryd.ntmps28
  cases base with
  | none =>
    go_wp2_with (at_builtin; refine Lib.wpList_append_run _ rfl _ _ _ _ rfl _ _ rfl rfl _ _ hap ?_)
    go_ret
    exact ⟨rfl, rfl⟩
  | some a =>
    obtain ⟨ab, ao, asp⟩ := a
    go_wp2_with (at_builtin; refine Lib.wpList_append_run _ rfl _ _ _ _ rfl _ _ rfl rfl _ _ hap ?_)
    all_goals (go_ret; exact ⟨rfl, rfl⟩)

set_option maxHeartbeats 4000000 in
set_option maxRecDepth 100000 in
theorem grow : InsGrow Tryd.prog 28 29 3 33 := by
  intro g n c i vb mc g2 C W1 W2 W3 w hi hnc hroom hc63 hC hC63 hap hc1 hc2
  have hz2 : ¬ ((i : Int) = (n : Int)) := by omega
  have hz3 : (c : Int) < (n : Int) + 1 := by omega
  have hw1 : IntKind.i64.wrap ((i : Int) + 1) = (i : Int) + 1 := by rw [IntKind.wrap_i64]; omega
  have hw2 : IntKind.i64.wrap ((n : Int) + 1) = (n : Int) + 1 := by rw [IntKind.wrap_i64]; omega
  have hw3 : IntKind.i64.wrap ((n : Int) + 1 - (i : Int)) = (n : Int) + 1 - (i : Int) := by rw [IntKind.wrap_i64]; omega
  have hb1 : (0 : Int) ≤ (i : Int) + 1 := by omega
  have hin : i ≤ n := by omega
  have htn : ((i : Int) + 1).toNat = i + 1 := by omega
  have hb2 : ¬ (C = i + 1) := by omega
  have hb3 : (i : Int) ≤ (n : Int) := by omega
  have hb4 : ¬ (C = i) := by omega
  have hb5 : ¬ (c = i) := by omega
  have hb6 : (i : Int) ≤ (n : Int) + 1 := by omega
  go_enter Tryd.func28, Tryd.ntmps28
  go_wp2_with (first
    | (at_builtin; refine Lib.wpList_append_run _ rfl _ _ _ _ rfl _ _ rfl rfl _ _ (hap _) ?_)
    | (at_builtin; refine wpList_copy_runI _ rfl _ _ 29 29 rfl _ _ rfl rfl (hc1 _) ?_))
  go_region_law (refine step_copy_runI rfl _ _ 29 29 rfl _ _ (by simp [Act.eval, Act.put]) (by simp [Act.eval, Act.put]) (hc2 _) ?_)
  go_wp2
  go_ret
  exact ⟨rfl, rfl⟩

/-- slices.Insert of one element. -/
theorem ins_ok (xs : List (List FV)) (x : List FV) (i : Nat) (hin : i ≤ xs.length) (hn : xs.length + 1 ≤ 10000000) :
    ECalls Tryd.prog 28 [.v (.c (.row 0 xs.length)), .lit (.int .i64 i), .v (.c (.row 1 1))] [.row 54 33 xs, .row 54 33 [x]] fun y H' =>
      H' = [none, some (.row 54 33 [x]), some (.row 54 33 (xs.take i ++ x :: xs.drop i))] ∧ y = .v (.c (.row 2 (xs.length + 1))) := by
  obtain ⟨ti, z, E⟩ := elem
  exact ins_ecalls E (by kernel_rfl) shift atEnd grow fov xs x i hin (by omega) (by omega)

end InsS
end Go.Proofs.YtdeeophiffchjaaDoor
