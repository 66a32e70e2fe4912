import Derived.Test.YtoomdgmggkcgfaaDoorEnc5
import Derived.Test.YtoomdgmggkcgfaaDoorEwX
namespace Go.Proofs.YtoomdgmggkcgfaaDoor
open Go Go.EW
set_option linter.unusedSimpArgs false
set_option linter.unusedVariables false

@[simp] def l_Tspan_1 (_ : Unit) : List EOp := [⟨0, (some 1), none, (.q (.box 31 (.t 0))), []⟩, ⟨1, (some 2), none, (.q (.mov (.k (.int .i64 0)))), []⟩]
@[simp] def b_Tspan_2 (_ : Unit) : EB := reg0 (hid l_Tspan_1) 2
@[simp] def l_Tspan_4 (_ : Unit) : List EOp := [⟨6, (some 2), none, (.q (.mov (.t 8))), []⟩]
@[simp] def l_Tspan_3 (_ : Unit) : List EOp := ⟨0, (some 3), none, (.q (.fad 36 (.t 1))), []⟩ :: ⟨1, (some 4), none, (.q (.ldc (.t 3))), []⟩ :: ⟨2, (some 5), none, (.q (.fad 37 (.t 1))), []⟩ :: ⟨3, (some 6), none, (.q (.ldc (.t 5))), []⟩ :: ⟨4, (some 7), none, (.q (.bin .sub (.t 4) (.t 6))), []⟩ :: ⟨5, (some 8), none, (.q (.bin .add (.t 7) (.k (.int .i64 1)))), []⟩ :: hid l_Tspan_4
@[simp] def b_Tspan_5 (_ : Unit) : EB := reg0 (hid l_Tspan_3) 7
@[simp] def b_Tspan_6 (_ : Unit) : EB := .seq (hid b_Tspan_5) .ret
@[simp] def b_Tspan_7 (_ : Unit) : EB := .seq (hid b_Tspan_2) (hid b_Tspan_6)
def c_Tspan : EB × List QOp × Nat := ((hid b_Tspan_7), [(.mov (.t 2))], 9)
theorem k_Tspan : cfun Tryd.prog 36 = some c_Tspan := by kernel_rfl

@[simp] def l_Troom_1 (_ : Unit) : List EOp := [⟨0, (some 1), none, (.q (.box 31 (.t 0))), []⟩, ⟨1, (some 2), none, (.q (.mov (.k (.int .i64 0)))), []⟩]
@[simp] def b_Troom_2 (_ : Unit) : EB := reg0 (hid l_Troom_1) 2
@[simp] def l_Troom_4 (_ : Unit) : List EOp := [⟨6, (some 9), none, (.q (.bin .mul (.t 6) (.t 8))), []⟩, ⟨7, (some 10), none, (.q (.bin .sub (.t 4) (.t 9))), []⟩, ⟨8, (some 2), none, (.q (.mov (.t 10))), []⟩]
@[simp] def l_Troom_3 (_ : Unit) : List EOp := ⟨0, (some 3), none, (.q (.fad 33 (.t 1))), []⟩ :: ⟨1, (some 4), none, (.q (.ldc (.t 3))), []⟩ :: ⟨2, (some 5), none, (.q (.fad 35 (.t 1))), []⟩ :: ⟨3, (some 6), none, (.q (.ldc (.t 5))), []⟩ :: ⟨4, (some 7), none, (.q (.fad 39 (.t 1))), []⟩ :: ⟨5, (some 8), none, (.q (.ldc (.t 7))), []⟩ :: hid l_Troom_4
@[simp] def b_Troom_5 (_ : Unit) : EB := reg0 (hid l_Troom_3) 9
@[simp] def b_Troom_6 (_ : Unit) : EB := .seq (hid b_Troom_5) .ret
@[simp] def b_Troom_7 (_ : Unit) : EB := .seq (hid b_Troom_2) (hid b_Troom_6)
def c_Troom : EB × List QOp × Nat := ((hid b_Troom_7), [(.mov (.t 2))], 11)
theorem k_Troom : cfun Tryd.prog 35 = some c_Troom := by kernel_rfl

@[simp] def l_Tvers_1 (_ : Unit) : List EOp := [⟨0, (some 1), none, (.q (.box 31 (.t 0))), []⟩, ⟨1, (some 2), none, (.q (.mov (.k (.int .i64 0)))), []⟩]
@[simp] def b_Tvers_2 (_ : Unit) : EB := reg0 (hid l_Tvers_1) 2
@[simp] def l_Tvers_4 (_ : Unit) : List EOp := [⟨6, (some 9), none, (.q (.ldc (.t 8))), []⟩, ⟨7, (some 10), none, (.q (.bin .quo (.t 7) (.t 9))), []⟩, ⟨8, (some 2), none, (.q (.mov (.t 10))), []⟩]
@[simp] def l_Tvers_3 (_ : Unit) : List EOp := ⟨0, (some 3), none, (.q (.fad 36 (.t 1))), []⟩ :: ⟨1, (some 4), none, (.q (.ldc (.t 3))), []⟩ :: ⟨2, (some 5), none, (.q (.fad 37 (.t 1))), []⟩ :: ⟨3, (some 6), none, (.q (.ldc (.t 5))), []⟩ :: ⟨4, (some 7), none, (.q (.bin .sub (.t 4) (.t 6))), []⟩ :: ⟨5, (some 8), none, (.q (.fad 38 (.t 1))), []⟩ :: hid l_Tvers_4
@[simp] def b_Tvers_5 (_ : Unit) : EB := reg0 (hid l_Tvers_3) 9
@[simp] def b_Tvers_6 (_ : Unit) : EB := .seq (hid b_Tvers_5) .ret
@[simp] def b_Tvers_7 (_ : Unit) : EB := .seq (hid b_Tvers_2) (hid b_Tvers_6)
def c_Tvers : EB × List QOp × Nat := ((hid b_Tvers_7), [(.mov (.t 2))], 11)
theorem k_Tvers : cfun Tryd.prog 29 = some c_Tvers := by kernel_rfl

@[simp] def l_Tused_1 (_ : Unit) : List EOp := [⟨0, (some 2), none, (.q (.box 31 (.t 0))), []⟩, ⟨1, (some 4), none, (.q (.mov (.k (.int .i64 0)))), []⟩]
@[simp] def b_Tused_2 (_ : Unit) : EB := reg0 (hid l_Tused_1) 2
@[simp] def l_Tused_4 (_ : Unit) : List EOp := [⟨6, (some 11), none, (.q (.bin .quo (.t 8) (.t 10))), []⟩, ⟨7, (some 4), none, (.q (.mov (.t 11))), []⟩]
@[simp] def l_Tused_3 (_ : Unit) : List EOp := ⟨0, (some 5), none, (.q (.fad 36 (.t 2))), []⟩ :: ⟨1, (some 6), none, (.q (.ldc (.t 5))), []⟩ :: ⟨2, (some 7), none, (.q (.mov (.t 1))), []⟩ :: ⟨3, (some 8), none, (.q (.bin .sub (.t 6) (.t 7))), []⟩ :: ⟨4, (some 9), none, (.q (.fad 38 (.t 2))), []⟩ :: ⟨5, (some 10), none, (.q (.ldc (.t 9))), []⟩ :: hid l_Tused_4
@[simp] def b_Tused_5 (_ : Unit) : EB := reg0 (hid l_Tused_3) 8
@[simp] def b_Tused_6 (_ : Unit) : EB := .seq (hid b_Tused_5) .ret
@[simp] def b_Tused_7 (_ : Unit) : EB := .seq (hid b_Tused_2) (hid b_Tused_6)
def c_Tused : EB × List QOp × Nat := ((hid b_Tused_7), [(.mov (.t 4))], 12)
theorem k_Tused : cfun Tryd.prog 30 = some c_Tused := by kernel_rfl

@[simp] def l_Tparties_1 (_ : Unit) : List EOp := [⟨0, (some 2), none, (.q (.mov (.k (.bool false)))), []⟩]
@[simp] def b_Tparties_2 (_ : Unit) : EB := reg0 (hid l_Tparties_1) 1
@[simp] def l_Tparties_3 (_ : Unit) : List EOp := [⟨0, (some 3), none, (.q (.mov (.k (.int .i64 (-1))))), []⟩]
@[simp] def b_Tparties_4 (_ : Unit) : EB := reg0 (hid l_Tparties_3) 1
@[simp] def l_Tparties_5 (_ : Unit) : List EOp := [⟨0, (some 6), none, (.q (.mov (.t 0))), []⟩, ⟨1, (some 7), none, (.q (.len (.t 6))), []⟩, ⟨2, (some 8), none, (.q (.mov (.k (.int .i64 0)))), []⟩]
@[simp] def b_Tparties_6 (_ : Unit) : EB := reg0 (hid l_Tparties_5) 3
@[simp] def l_Tparties_7 (_ : Unit) : List EOp := [⟨0, (some 9), none, (.q (.bin .lss (.t 8) (.t 7))), []⟩]
@[simp] def b_Tparties_8 (_ : Unit) : EB := reg0 (hid l_Tparties_7) 1
@[simp] def b_Tparties_9 (_ : Unit) : EB := .cond (.t 9) .skip (.exit 0)
@[simp] def l_Tparties_10 (_ : Unit) : List EOp := [⟨0, (some 10), none, (.q (.isl 1 (.t 6) (.t 8))), []⟩, ⟨1, (some 11), none, (.q (.ldc (.t 10))), []⟩, ⟨2, (some 5), none, (.q (.mov (.t 11))), []⟩]
@[simp] def b_Tparties_11 (_ : Unit) : EB := reg0 (hid l_Tparties_10) 3
@[simp] def l_Tparties_13 (_ : Unit) : List EOp := [⟨6, (some 18), none, (.q (.pick (.t 15) (.k (.bool true)) (.t 17))), []⟩]
@[simp] def l_Tparties_12 (_ : Unit) : List EOp := ⟨0, (some 12), none, (.q (.mov (.t 5))), []⟩ :: ⟨1, (some 13), none, (.q (.mov (.t 3))), []⟩ :: ⟨2, (some 14), none, (.q (.bin .leq (.t 12) (.t 13))), []⟩ :: ⟨3, (some 15), none, (.q (.mov (.t 14))), []⟩ :: ⟨4, (some 16), (some (15, false)), (.q (.mov (.t 5))), []⟩ :: ⟨5, (some 17), (some (15, false)), (.q (.bin .geq (.t 16) (.k (.int .i64 16)))), []⟩ :: hid l_Tparties_13
@[simp] def b_Tparties_14 (_ : Unit) : EB := reg0 (hid l_Tparties_12) 7
@[simp] def l_Tparties_15 (_ : Unit) : List EOp := [⟨0, (some 2), none, (.q (.mov (.k (.bool false)))), []⟩]
@[simp] def b_Tparties_16 (_ : Unit) : EB := reg0 (hid l_Tparties_15) 1
@[simp] def b_Tparties_17 (_ : Unit) : EB := .seq (hid b_Tparties_16) .ret
@[simp] def b_Tparties_18 (_ : Unit) : EB := .cond (.t 18) (hid b_Tparties_17) .skip
@[simp] def b_Tparties_19 (_ : Unit) : EB := .seq (hid b_Tparties_14) (hid b_Tparties_18)
@[simp] def l_Tparties_20 (_ : Unit) : List EOp := [⟨0, (some 19), none, (.q (.mov (.t 5))), []⟩, ⟨1, (some 3), none, (.q (.mov (.t 19))), []⟩]
@[simp] def b_Tparties_21 (_ : Unit) : EB := reg0 (hid l_Tparties_20) 2
@[simp] def b_Tparties_22 (_ : Unit) : EB := .seq (hid b_Tparties_19) (hid b_Tparties_21)
@[simp] def b_Tparties_23 (_ : Unit) : EB := .seq (hid b_Tparties_11) (hid b_Tparties_22)
@[simp] def b_Tparties_24 (_ : Unit) : EB := .block 1 (hid b_Tparties_23)
@[simp] def l_Tparties_25 (_ : Unit) : List EOp := [⟨0, (some 20), none, (.q (.bin .add (.t 8) (.k (.int .i64 1)))), []⟩, ⟨1, (some 8), none, (.q (.mov (.t 20))), []⟩]
@[simp] def b_Tparties_26 (_ : Unit) : EB := reg0 (hid l_Tparties_25) 2
@[simp] def b_Tparties_27 (_ : Unit) : EB := .seq (hid b_Tparties_24) (hid b_Tparties_26)
@[simp] def b_Tparties_28 (_ : Unit) : EB := .seq (hid b_Tparties_9) (hid b_Tparties_27)
@[simp] def b_Tparties_29 (_ : Unit) : EB := .seq (hid b_Tparties_8) (hid b_Tparties_28)
@[simp] def b_Tparties_30 (_ : Unit) : EB := .loop (hid b_Tparties_29)
@[simp] def b_Tparties_31 (_ : Unit) : EB := .block 0 (hid b_Tparties_30)
@[simp] def b_Tparties_32 (_ : Unit) : EB := .seq (hid b_Tparties_6) (hid b_Tparties_31)
@[simp] def l_Tparties_33 (_ : Unit) : List EOp := [⟨0, (some 21), none, (.q (.mov (.t 0))), []⟩, ⟨1, (some 22), none, (.q (.len (.t 21))), []⟩, ⟨2, (some 23), none, (.q (.bin .geq (.t 22) (.k (.int .i64 2)))), []⟩, ⟨3, (some 2), none, (.q (.mov (.t 23))), []⟩]
@[simp] def b_Tparties_34 (_ : Unit) : EB := reg0 (hid l_Tparties_33) 4
@[simp] def b_Tparties_35 (_ : Unit) : EB := .seq (hid b_Tparties_34) .ret
@[simp] def b_Tparties_36 (_ : Unit) : EB := .seq (hid b_Tparties_32) (hid b_Tparties_35)
@[simp] def b_Tparties_37 (_ : Unit) : EB := .seq (hid b_Tparties_4) (hid b_Tparties_36)
@[simp] def b_Tparties_38 (_ : Unit) : EB := .seq (hid b_Tparties_2) (hid b_Tparties_37)
def c_Tparties : EB × List QOp × Nat := ((hid b_Tparties_38), [(.mov (.t 2))], 24)
theorem k_Tparties : cfun Tryd.prog 37 = some c_Tparties := by kernel_rfl


/-! ### trees: plain -/
structure Cfg where
  pt : List UInt8
  pn : Int
  am : Int
  keys : List Int
  dep : Int
  fst : Int
  lst : Int
  stp : Int
  fee : Int
def i64 (n : Int) : Prop := -9223372036854775808 ≤ n ∧ n ≤ 9223372036854775807
def intv (l : List Int) : List (List FV) := l.map fun k => [.lit (.int .i64 k)]
@[simp] theorem intv_len (l : List Int) : (intv l).length = l.length := by simp [intv]
theorem intv_get {l : List Int} {i : Nat} {k : Int} (h : l[i]? = some k) : (intv l)[i]? = some [.lit (.int .i64 k)] := by simp [intv, h]
def IL (l : List Int) : EV := .v (.c (.fz (.sl 1 (intv l))))
def cfgT (c : Cfg) : List EC := [.fz (.lit (.int .i64 c.pn)), .fz (.lit (.int .i64 c.am)), .fz (.sl 1 (intv c.keys)), .fz (.lit (.int .i64 c.dep)), .fz (.lit (.int .i64 c.fst)), .fz (.lit (.int .i64 c.lst)), .fz (.lit (.int .i64 c.stp)), .fz (.lit (.int .i64 c.fee))]
def cfgC (c : Cfg) : List EC := hc c.pt ++ cfgT c
def CV (c : Cfg) : EV := .v (.agg (cfgC c))
def Cfg.ok (c : Cfg) : Prop := c.pt.length = 32 ∧ i64 c.pn ∧ i64 c.am ∧ (∀ k ∈ c.keys, i64 k) ∧ i64 c.dep ∧ i64 c.fst ∧ i64 c.lst ∧ i64 c.stp ∧ i64 c.fee ∧ c.keys.length ≤ 100000000
theorem cfg_ix {x : List UInt8} (h : x.length = 32) (r : List EC) (i : Nat) : (hc x ++ r)[32 + i]? = r[i]? := by
  have h1 : (hc x).length = 32 := by rw [hc_len, h]
  rw [List.getElem?_append_right (by omega), h1]
  congr 1; omega

theorem tk40 {x : List UInt8} (h : x.length = 32) (a b c d e f g i : EC) : List.take 40 (hc x ++ [a, b, c, d, e, f, g, i]) = hc x ++ [a, b, c, d, e, f, g, i] :=
  List.take_of_length_le (by rw [List.length_append, hc_len, h]; simp)
@[simp] theorem conAll_hca (H : Nat → Option EO) (ids : List Nat) (l : List UInt8) (r : List EC) : conAll H ids (hc l ++ r) = (conAll H ids r).map (hc l ++ ·) := by
  induction l with
  | nil => cases h : conAll H ids r <;> simp [hc, hf, h]
  | cons b t ih =>
    have e : hc (b :: t) = .fz (.lit (.int .u8 (b.toNat : Int))) :: hc t := rfl
    rw [e, List.cons_append]
    simp only [conAll, ih]
    cases h : conAll H ids r <;> simp [h]
@[simp] theorem fz_hc (o es : Nat) (xs : List (List FV)) (l : List UInt8) : (hc l).map (fzE o es xs) = hc l := by
  induction l with
  | nil => rfl
  | cons b r ih =>
    have e : hc (b :: r) = .fz (.lit (.int .u8 (b.toNat : Int))) :: hc r := rfl
    rw [e, List.map_cons, ih]
    rfl

/-! ### what may be -/
def keysS : Int → List Int → Bool
  | _, [] => true
  | last, k :: r => decide (last < k ∧ k < 16) && keysS k r
def okR (c : Cfg) : Prop := 1 ≤ c.dep ∧ c.dep ≤ 8 ∧ 1 ≤ c.stp ∧ 1 ≤ c.lst ∧ c.lst ≤ c.fst ∧ c.fst ≤ 1099511627776 ∧ c.fst + c.dep * (c.fst - c.lst + 1) ≤ 1099511627776
def okA (c : Cfg) : Prop := (c.fst - c.lst) / c.stp ≤ 255 ∧ 0 ≤ c.fee ∧ c.fee ≤ 1125899906842624 ∧ 10 ≤ c.am ∧ c.am ≤ 1125899906842624
instance (c : Cfg) : Decidable (okR c) := inferInstanceAs (Decidable (_ ∧ _))
instance (c : Cfg) : Decidable (okA c) := inferInstanceAs (Decidable (_ ∧ _))
def chkT (c : Cfg) : Nat := if ¬ okR c then 1 else if ¬ okA c then 1 else if ¬ (keysS (-1) c.keys = true ∧ 2 ≤ c.keys.length) then 33 else if c.am - c.dep * c.fee < 10 then 27 else 0

theorem Tspan_ok (c : Cfg) (hc : c.ok) (h : 0 ≤ c.fst - c.lst) (h2 : c.fst ≤ 1099511627776 ∧ 1 ≤ c.lst) : ECalls Tryd.prog 36 [CV c] [] fun y H' => H' = [] ∧ y = I .i64 (c.fst - c.lst + 1) := by
  have h32 := hc.1
  have w1 : IntKind.i64.wrap (c.fst - c.lst) = c.fst - c.lst := wrap_i64 (by omega) (by omega)
  have w2 : IntKind.i64.wrap (c.fst - c.lst + 1) = c.fst - c.lst + 1 := wrap_i64 (by omega) (by omega)
  refine ecalls k_Tspan ?_
  simp [c_Tspan, CV, cfgC, cfgT, h32, w1, w2]
  exact fin [] (by decide) rfl rfl rfl ⟨rfl, rfl⟩

theorem Troom_ok (c : Cfg) (hc : c.ok) (h : 1 ≤ c.dep ∧ c.dep ≤ 8 ∧ 0 ≤ c.fee ∧ c.fee ≤ 1125899906842624 ∧ 10 ≤ c.am ∧ c.am ≤ 1125899906842624) : ECalls Tryd.prog 35 [CV c] [] fun y H' => H' = [] ∧ y = I .i64 (c.am - c.dep * c.fee) := by
  have h32 := hc.1
  obtain ⟨h1, h2, h3, h4, h5, h6⟩ := h
  have hm : 0 ≤ c.dep * c.fee ∧ c.dep * c.fee ≤ 8 * 1125899906842624 := ⟨Int.mul_nonneg (by omega) h3, Int.le_trans (Int.mul_le_mul_of_nonneg_right h2 h3) (Int.mul_le_mul_of_nonneg_left h4 (by omega))⟩
  obtain ⟨q, hq⟩ : ∃ q, c.dep * c.fee = q := ⟨_, rfl⟩
  rw [hq] at hm
  have w1 : IntKind.i64.wrap q = q := wrap_i64 (by omega) (by omega)
  have w2 : IntKind.i64.wrap (c.am - q) = c.am - q := wrap_i64 (by omega) (by omega)
  refine ecalls k_Troom ?_
  simp [c_Troom, CV, cfgC, cfgT, h32, hq, w1, w2]
  exact fin [] (by decide) rfl rfl rfl ⟨rfl, rfl⟩

/-- How often a rank can wait less. -/
def versT (c : Cfg) : Int := (c.fst - c.lst) / c.stp
theorem Tvers_ok (c : Cfg) (hc : c.ok) (h : okR c) : ECalls Tryd.prog 29 [CV c] [] fun y H' => H' = [] ∧ y = I .i64 (versT c) := by
  have h32 := hc.1
  obtain ⟨h1, h2, h3, h4, h5, h6, h7⟩ := h
  have w1 : IntKind.i64.wrap (c.fst - c.lst) = c.fst - c.lst := wrap_i64 (by omega) (by omega)
  have hd : (c.fst - c.lst).tdiv c.stp = versT c := Int.tdiv_eq_ediv_of_nonneg (by omega)
  have hb : 0 ≤ versT c ∧ versT c ≤ 1099511627776 := ⟨Int.ediv_nonneg (by omega) (by omega), Int.le_trans (Int.ediv_le_self _ (by omega)) (by omega)⟩
  have w2 : IntKind.i64.wrap (versT c) = versT c := wrap_i64 (by omega) (by omega)
  have hz : ¬ c.stp = 0 := by omega
  refine ecalls k_Tvers ?_
  simp [c_Tvers, CV, cfgC, cfgT, h32, w1, hz, hd, w2]
  exact fin [] (by decide) rfl rfl rfl ⟨rfl, rfl⟩

theorem Tused_ok (c : Cfg) (x : Int) (hc : c.ok) (h : okR c) (hx : c.lst ≤ x ∧ x ≤ c.fst) : ECalls Tryd.prog 30 [CV c, I .i64 x] [] fun y H' => H' = [] ∧ y = I .i64 ((c.fst - x) / c.stp) := by
  have h32 := hc.1
  obtain ⟨h1, h2, h3, h4, h5, h6, h7⟩ := h
  have w1 : IntKind.i64.wrap (c.fst - x) = c.fst - x := wrap_i64 (by omega) (by omega)
  have hd : (c.fst - x).tdiv c.stp = (c.fst - x) / c.stp := Int.tdiv_eq_ediv_of_nonneg (by omega)
  have hb : 0 ≤ (c.fst - x) / c.stp ∧ (c.fst - x) / c.stp ≤ 1099511627776 := ⟨Int.ediv_nonneg (by omega) (by omega), Int.le_trans (Int.ediv_le_self _ (by omega)) (by omega)⟩
  have w2 : IntKind.i64.wrap ((c.fst - x) / c.stp) = (c.fst - x) / c.stp := wrap_i64 (by omega) (by omega)
  have hz : ¬ c.stp = 0 := by omega
  refine ecalls k_Tused ?_
  simp [c_Tused, CV, cfgC, cfgT, I, h32, w1, hz, hd, w2]
  exact fin [] (by decide) rfl rfl rfl ⟨rfl, rfl⟩

theorem Tparties_ok (l : List Int) (hl : l.length ≤ 100000000) : ECalls Tryd.prog 37 [IL l] [] fun y H' => H' = [] ∧ y = .lit (.bool (decide (keysS (-1) l = true ∧ 2 ≤ l.length))) := by
  refine ecalls k_Tparties ?_
  simp [c_Tparties, IL]
  refine eloop (α := Nat × Int) (fun a => a.1 ≤ l.length ∧ keysS (-1) l = keysS a.2 (l.drop a.1)) (fun a => l.length - a.1)
    (fun a => [IL l, .any, .any, I .i64 a.2, .any, .any, IL l, I .i64 l.length, I .i64 a.1, .any, .any, .any, .any, .any, .any, .any, .any, .any, .any, .any, .any, .any, .any, .any]) (fun _ => []) (0, -1) []
    ⟨by simp, by simp⟩ (by simp [I, IL]) (by simp) (by simp) (by simp) (by simp) ?_
  rintro ⟨i, last⟩ ⟨hi, hk⟩
  simp only at hi hk
  simp [I, IL]
  refine alt (fun hlt => ?_) (fun hlt => ?_)
  · obtain ⟨k, hci⟩ : ∃ k, l[i]? = some k := ⟨l[i], by simp [hlt]⟩
    have hcb := intv_get hci
    have hd : l.drop i = k :: l.drop (i + 1) := by
      have h := List.getElem?_eq_some_iff.1 hci
      rw [List.drop_eq_getElem_cons h.1, h.2]
    rw [hd] at hk
    have w2 : IntKind.i64.wrap ((i : Int) + 1) = ((i + 1 : Nat) : Int) := wrap_i64 (by omega) (by omega)
    simp [hcb]
    by_cases hg : last < k ∧ k < 16
    · have g1 : ¬ k ≤ last := by omega
      have g2 : ¬ 16 ≤ k := by omega
      simp [g1, g2, hg.1, hg.2, w2, -Int.natCast_add]
      exact round (i + 1, k) [] ⟨by simp; omega, by simpa [keysS, hg] using hk⟩ (by simp; omega) (by simp) (by simp) (by simp) (by simp) (by simp)
    · have hf : keysS (-1) l = false := by rw [hk]; simp [keysS]; omega
      rw [hf]
      by_cases g1 : k ≤ last
      · have g1' : ¬ last < k := by omega
        simp [g1, g1']
        exact fin [] (by decide) rfl rfl rfl ⟨rfl, rfl⟩
      · have g1' : last < k := by omega
        have g2 : 16 ≤ k := by omega
        have g2' : ¬ k < 16 := by omega
        simp [g1, g1', g2, g2']
        exact fin [] (by decide) rfl rfl rfl ⟨rfl, rfl⟩
  · have hil : i = l.length := by omega
    subst hil
    have ht : keysS (-1) l = true := by rw [hk]; simp [keysS]
    rw [ht]
    simp
    exact fin [] (by decide) rfl rfl rfl ⟨rfl, by simp [EV.lit] <;> omega⟩

end Go.Proofs.YtoomdgmggkcgfaaDoor
