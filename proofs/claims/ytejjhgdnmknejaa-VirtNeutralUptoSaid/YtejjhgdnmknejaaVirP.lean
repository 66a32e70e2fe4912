import Derived.Test.YtejjhgdnmknejaaVirH
namespace Go.Proofs.Ytejjhgdnmknejaa
open Go Go.EW
set_option linter.unusedSimpArgs false
set_option linter.unusedVariables false

@[simp] def l_small_1 (_ : Unit) : List EOp := [⟨0, (some 2), none, (.q (.box 22 (.t 0))), []⟩, ⟨1, (some 3), none, (.q (.box 23 (.t 1))), []⟩, ⟨2, (some 4), none, (.q (.alloc 33 (zU8 ++ (([(.int .i64 0), (.int .i64 0), (.int .i64 0), (.int .i64 0), (.int .i64 0), (.int .i64 0)] : List Value) ++ zU8 ++ [(.int .i64 0), (.int .i64 0), (.int .i64 0), (.int .i64 0), (.int .i64 0), (.int .i64 0), (.int .i64 0), (.int .i64 0), (.int .i64 0), (.int .i64 0), (.int .i64 0)])))), []⟩, ⟨3, (some 5), none, (.q (.alloc 37 [(.int .i64 0), (.int .i64 0), (.int .i64 0), (.slice none 0 0), (.slice none 0 0)])), []⟩, ⟨4, (some 6), none, (.q (.alloc 37 [(.int .i64 0), (.int .i64 0), (.int .i64 0), (.slice none 0 0), (.slice none 0 0)])), []⟩]
@[simp] def b_small_2 (_ : Unit) : EB := reg0 (hid l_small_1) 5
@[simp] def l_small_5 (_ : Unit) : List EOp := [⟨12, (some 22), none, (.q (.build (zU8 ++ (([(.int .i64 0), (.int .i64 0), (.int .i64 0), (.int .i64 0), (.int .i64 0), (.int .i64 0)] : List Value) ++ zU8 ++ [(.int .i64 0), (.int .i64 0), (.int .i64 0), (.int .i64 0), (.int .i64 0), (.int .i64 0), (.int .i64 0), (.int .i64 0), (.int .i64 0), (.int .i64 0), (.int .i64 0)])) [(76, 3, (.t 10)), (79, 1, (.t 16)), (80, 1, (.t 21))])), []⟩, ⟨13, (some 7), none, (.q (.alloc 33 (zU8 ++ (([(.int .i64 0), (.int .i64 0), (.int .i64 0), (.int .i64 0), (.int .i64 0), (.int .i64 0)] : List Value) ++ zU8 ++ [(.int .i64 0), (.int .i64 0), (.int .i64 0), (.int .i64 0), (.int .i64 0), (.int .i64 0), (.int .i64 0), (.int .i64 0), (.int .i64 0), (.int .i64 0), (.int .i64 0)])))), []⟩, ⟨14, none, none, (.sto 81 (.t 7) (.t 22)), []⟩]
@[simp] def l_small_4 (_ : Unit) : List EOp := ⟨6, (some 16), none, (.q (.bin .add (.k (.int .i64 30)) (.t 15))), []⟩ :: ⟨7, (some 17), none, (.q (.iad 4 1 (.t 2) (.k (.int .i64 1)))), []⟩ :: ⟨8, (some 18), none, (.q (.ldc (.t 17))), []⟩ :: ⟨9, (some 19), none, (.q (.cnv .u64 (.t 18))), []⟩ :: ⟨10, (some 20), none, (.q (.bin .rem (.t 19) (.k (.int .u64 20)))), []⟩ :: ⟨11, (some 21), none, (.q (.cnv .i64 (.t 20))), []⟩ :: hid l_small_5
@[simp] def l_small_3 (_ : Unit) : List EOp := ⟨0, (some 10), none, (.q (.build [(.int .i64 0), (.int .i64 0), (.int .i64 0)] [(0, 1, (.k (.int .i64 1))), (1, 1, (.k (.int .i64 2))), (2, 1, (.k (.int .i64 3)))])), []⟩ :: ⟨1, (some 11), none, (.q (.iad 4 1 (.t 2) (.k (.int .i64 0)))), []⟩ :: ⟨2, (some 12), none, (.q (.ldc (.t 11))), []⟩ :: ⟨3, (some 13), none, (.q (.cnv .u64 (.t 12))), []⟩ :: ⟨4, (some 14), none, (.q (.bin .rem (.t 13) (.k (.int .u64 300)))), []⟩ :: ⟨5, (some 15), none, (.q (.cnv .i64 (.t 14))), []⟩ :: hid l_small_4
@[simp] def b_small_6 (_ : Unit) : EB := reg0 (hid l_small_3) 15
@[simp] def l_small_9 (_ : Unit) : List EOp := [⟨12, (some 35), none, (.q (.build [(.int .i64 0), (.int .i64 0)] [(0, 1, (.t 28)), (1, 1, (.t 34))])), []⟩, ⟨13, (some 36), none, (.q (.build [(.int .i64 0), (.int .i64 0), (.int .i64 0), (.slice none 0 0), (.slice none 0 0)] [(1, 2, (.t 35))])), []⟩, ⟨14, (some 8), none, (.q (.alloc 37 [(.int .i64 0), (.int .i64 0), (.int .i64 0), (.slice none 0 0), (.slice none 0 0)])), []⟩, ⟨15, none, none, (.fz (.sto 5 (.t 8) (.t 36))), []⟩]
@[simp] def l_small_8 (_ : Unit) : List EOp := ⟨6, (some 29), none, (.q (.iad 4 1 (.t 2) (.k (.int .i64 3)))), []⟩ :: ⟨7, (some 30), none, (.q (.ldc (.t 29))), []⟩ :: ⟨8, (some 31), none, (.q (.cnv .u64 (.t 30))), []⟩ :: ⟨9, (some 32), none, (.q (.bin .rem (.t 31) (.k (.int .u64 400)))), []⟩ :: ⟨10, (some 33), none, (.q (.cnv .i64 (.t 32))), []⟩ :: ⟨11, (some 34), none, (.q (.bin .add (.k (.int .i64 400)) (.t 33))), []⟩ :: hid l_small_9
@[simp] def l_small_7 (_ : Unit) : List EOp := ⟨0, (some 23), none, (.q (.iad 4 1 (.t 2) (.k (.int .i64 2)))), []⟩ :: ⟨1, (some 24), none, (.q (.ldc (.t 23))), []⟩ :: ⟨2, (some 25), none, (.q (.cnv .u64 (.t 24))), []⟩ :: ⟨3, (some 26), none, (.q (.bin .rem (.t 25) (.k (.int .u64 400)))), []⟩ :: ⟨4, (some 27), none, (.q (.cnv .i64 (.t 26))), []⟩ :: ⟨5, (some 28), none, (.q (.bin .add (.k (.int .i64 400)) (.t 27))), []⟩ :: hid l_small_8
@[simp] def b_small_10 (_ : Unit) : EB := reg0 (hid l_small_7) 16
@[simp] def l_small_13 (_ : Unit) : List EOp := [⟨12, (some 49), none, (.q (.build [(.int .i64 0), (.int .i64 0)] [(0, 1, (.t 42)), (1, 1, (.t 48))])), []⟩, ⟨13, (some 50), none, (.q (.build [(.int .i64 0), (.int .i64 0), (.int .i64 0), (.slice none 0 0), (.slice none 0 0)] [(1, 2, (.t 49))])), []⟩, ⟨14, (some 9), none, (.q (.alloc 37 [(.int .i64 0), (.int .i64 0), (.int .i64 0), (.slice none 0 0), (.slice none 0 0)])), []⟩, ⟨15, none, none, (.fz (.sto 5 (.t 9) (.t 50))), []⟩]
@[simp] def l_small_12 (_ : Unit) : List EOp := ⟨6, (some 43), none, (.q (.iad 4 1 (.t 2) (.k (.int .i64 2)))), []⟩ :: ⟨7, (some 44), none, (.q (.ldc (.t 43))), []⟩ :: ⟨8, (some 45), none, (.q (.cnv .u64 (.t 44))), []⟩ :: ⟨9, (some 46), none, (.q (.bin .rem (.t 45) (.k (.int .u64 300)))), []⟩ :: ⟨10, (some 47), none, (.q (.cnv .i64 (.t 46))), []⟩ :: ⟨11, (some 48), none, (.q (.bin .add (.k (.int .i64 400)) (.t 47))), []⟩ :: hid l_small_13
@[simp] def l_small_11 (_ : Unit) : List EOp := ⟨0, (some 37), none, (.q (.iad 4 1 (.t 2) (.k (.int .i64 3)))), []⟩ :: ⟨1, (some 38), none, (.q (.ldc (.t 37))), []⟩ :: ⟨2, (some 39), none, (.q (.cnv .u64 (.t 38))), []⟩ :: ⟨3, (some 40), none, (.q (.bin .rem (.t 39) (.k (.int .u64 300)))), []⟩ :: ⟨4, (some 41), none, (.q (.cnv .i64 (.t 40))), []⟩ :: ⟨5, (some 42), none, (.q (.bin .add (.k (.int .i64 400)) (.t 41))), []⟩ :: hid l_small_12
@[simp] def b_small_14 (_ : Unit) : EB := reg0 (hid l_small_11) 16
@[simp] def l_small_15 (_ : Unit) : List EOp := [⟨0, (some 51), none, (.q (.lda 5 (.t 8))), []⟩, ⟨1, (some 52), none, (.call 8 [(.t 51)]), []⟩, ⟨2, (some 53), none, (.q (.build [(.int .i64 0), (.int .i64 0)] [(0, 1, (.k (.int .i64 1))), (1, 1, (.k (.int .i64 2)))])), []⟩, ⟨3, (some 54), none, (.q (.build (zU8 ++ [(.int .i64 0), (.int .i64 0), (.int .i64 0), (.int .i64 0), (.int .i64 0), (.int .i64 0)]) [(33, 1, (.t 52)), (34, 2, (.t 53)), (36, 1, (.k (.int .i64 3))), (37, 1, (.k (.int .i64 5)))])), []⟩, ⟨4, (some 55), none, (.q (.fad 0 (.t 7))), []⟩, ⟨5, none, none, (.sto 38 (.t 55) (.t 54)), []⟩]
@[simp] def b_small_16 (_ : Unit) : EB := reg0 (hid l_small_15) 6
@[simp] def l_small_18 (_ : Unit) : List EOp := [⟨6, none, none, (.sto 38 (.t 61) (.t 60)), []⟩]
@[simp] def l_small_17 (_ : Unit) : List EOp := ⟨0, (some 56), none, (.q (.build (zU8 ++ [(.int .i64 0)]) [(32, 1, (.k (.int .i64 1)))])), []⟩ :: ⟨1, (some 57), none, (.q (.lda 5 (.t 9))), []⟩ :: ⟨2, (some 58), none, (.call 8 [(.t 57)]), []⟩ :: ⟨3, (some 59), none, (.q (.build [(.int .i64 0), (.int .i64 0)] [(0, 1, (.k (.int .i64 2))), (1, 1, (.k (.int .i64 3)))])), []⟩ :: ⟨4, (some 60), none, (.q (.build (zU8 ++ [(.int .i64 0), (.int .i64 0), (.int .i64 0), (.int .i64 0), (.int .i64 0), (.int .i64 0)]) [(0, 33, (.t 56)), (33, 1, (.t 58)), (34, 2, (.t 59)), (36, 1, (.k (.int .i64 3))), (37, 1, (.k (.int .i64 5)))])), []⟩ :: ⟨5, (some 61), none, (.q (.fad 38 (.t 7))), []⟩ :: hid l_small_18
@[simp] def b_small_19 (_ : Unit) : EB := reg0 (hid l_small_17) 7
@[simp] def l_small_20 (_ : Unit) : List EOp := [⟨0, (some 62), none, (.q (.iad 2 1 (.t 3) (.k (.int .i64 0)))), []⟩, ⟨1, (some 63), none, (.q (.ldc (.t 62))), []⟩]
@[simp] def b_small_21 (_ : Unit) : EB := reg0 (hid l_small_20) 2
@[simp] def l_small_22 (_ : Unit) : List EOp := [⟨0, (some 64), none, (.q (.build [(.int .i64 0), (.int .i64 0)] [(0, 1, (.k (.int .i64 2))), (1, 1, (.k (.int .i64 1)))])), []⟩, ⟨1, (some 65), none, (.q (.fad 0 (.t 7))), []⟩, ⟨2, (some 66), none, (.q (.fad 34 (.t 65))), []⟩, ⟨3, none, none, (.sto 2 (.t 66) (.t 64)), []⟩]
@[simp] def b_small_23 (_ : Unit) : EB := reg0 (hid l_small_22) 4
@[simp] def b_small_24 (_ : Unit) : EB := .cond (.t 63) (hid b_small_23) .skip
@[simp] def b_small_25 (_ : Unit) : EB := .seq (hid b_small_21) (hid b_small_24)
@[simp] def l_small_26 (_ : Unit) : List EOp := [⟨0, (some 67), none, (.q (.iad 2 1 (.t 3) (.k (.int .i64 1)))), []⟩, ⟨1, (some 68), none, (.q (.ldc (.t 67))), []⟩]
@[simp] def b_small_27 (_ : Unit) : EB := reg0 (hid l_small_26) 2
@[simp] def l_small_28 (_ : Unit) : List EOp := [⟨0, (some 69), none, (.q (.build [(.int .i64 0), (.int .i64 0)] [(0, 1, (.k (.int .i64 3))), (1, 1, (.k (.int .i64 2)))])), []⟩, ⟨1, (some 70), none, (.q (.fad 38 (.t 7))), []⟩, ⟨2, (some 71), none, (.q (.fad 34 (.t 70))), []⟩, ⟨3, none, none, (.sto 2 (.t 71) (.t 69)), []⟩]
@[simp] def b_small_29 (_ : Unit) : EB := reg0 (hid l_small_28) 4
@[simp] def b_small_30 (_ : Unit) : EB := .cond (.t 68) (hid b_small_29) .skip
@[simp] def b_small_31 (_ : Unit) : EB := .seq (hid b_small_27) (hid b_small_30)
@[simp] def l_small_32 (_ : Unit) : List EOp := [⟨0, (some 72), none, (.q (.lda 81 (.t 7))), []⟩, ⟨1, (some 73), none, (.q (.lda 5 (.t 8))), []⟩, ⟨2, (some 74), none, (.q (.lda 5 (.t 9))), []⟩, ⟨3, none, none, (.sto 81 (.t 4) (.t 72)), [1, 2]⟩, ⟨4, none, none, (.fz (.sto 5 (.t 5) (.t 73))), [2]⟩, ⟨5, none, none, (.fz (.sto 5 (.t 6) (.t 74))), []⟩]
@[simp] def b_small_33 (_ : Unit) : EB := reg1 (hid l_small_32) 6
@[simp] def b_small_34 (_ : Unit) : EB := .seq (hid b_small_33) .ret
@[simp] def b_small_35 (_ : Unit) : EB := .seq (hid b_small_31) (hid b_small_34)
@[simp] def b_small_36 (_ : Unit) : EB := .seq (hid b_small_25) (hid b_small_35)
@[simp] def b_small_37 (_ : Unit) : EB := .seq (hid b_small_19) (hid b_small_36)
@[simp] def b_small_38 (_ : Unit) : EB := .seq (hid b_small_16) (hid b_small_37)
@[simp] def b_small_39 (_ : Unit) : EB := .seq (hid b_small_14) (hid b_small_38)
@[simp] def b_small_40 (_ : Unit) : EB := .seq (hid b_small_10) (hid b_small_39)
@[simp] def b_small_41 (_ : Unit) : EB := .seq (hid b_small_6) (hid b_small_40)
@[simp] def b_small_42 (_ : Unit) : EB := .seq (hid b_small_2) (hid b_small_41)
def c_small : EB × List QOp × Nat := ((hid b_small_42), [(.lda 81 (.t 4)), (.lda 5 (.t 5)), (.lda 5 (.t 6))], 75)
theorem k_small : cfun Try.prog 4 = some c_small := by kernel_rfl

@[simp] def l_has_1 (_ : Unit) : List EOp := [⟨0, (some 3), none, (.q (.box 30 (.t 0))), []⟩, ⟨1, (some 4), none, (.q (.box 37 (.t 1))), []⟩, ⟨2, (some 6), none, (.q (.mov (.k (.int .i64 0)))), []⟩]
@[simp] def b_has_2 (_ : Unit) : EB := reg0 (hid l_has_1) 3
@[simp] def l_has_3 (_ : Unit) : List EOp := [⟨0, (some 7), none, (.q (.fad 34 (.t 3))), []⟩, ⟨1, (some 8), none, (.q (.iad 2 1 (.t 7) (.k (.int .i64 0)))), []⟩, ⟨2, (some 9), none, (.q (.ldc (.t 8))), []⟩, ⟨3, (some 10), none, (.q (.mov (.t 2))), []⟩, ⟨4, (some 11), none, (.q (.bin .eql (.t 9) (.t 10))), []⟩]
@[simp] def b_has_4 (_ : Unit) : EB := reg0 (hid l_has_3) 5
@[simp] def l_has_5 (_ : Unit) : List EOp := [⟨0, (some 12), none, (.q (.fad 1 (.t 4))), []⟩, ⟨1, (some 13), none, (.q (.iad 2 1 (.t 12) (.k (.int .i64 0)))), []⟩, ⟨2, (some 14), none, (.q (.ldc (.t 13))), []⟩, ⟨3, (some 6), none, (.q (.mov (.t 14))), []⟩]
@[simp] def b_has_6 (_ : Unit) : EB := reg0 (hid l_has_5) 4
@[simp] def b_has_7 (_ : Unit) : EB := .seq (hid b_has_6) .ret
@[simp] def b_has_8 (_ : Unit) : EB := .cond (.t 11) (hid b_has_7) .skip
@[simp] def b_has_9 (_ : Unit) : EB := .seq (hid b_has_4) (hid b_has_8)
@[simp] def l_has_10 (_ : Unit) : List EOp := [⟨0, (some 15), none, (.q (.fad 1 (.t 4))), []⟩, ⟨1, (some 16), none, (.q (.iad 2 1 (.t 15) (.k (.int .i64 1)))), []⟩, ⟨2, (some 17), none, (.q (.ldc (.t 16))), []⟩, ⟨3, (some 6), none, (.q (.mov (.t 17))), []⟩]
@[simp] def b_has_11 (_ : Unit) : EB := reg0 (hid l_has_10) 4
@[simp] def b_has_12 (_ : Unit) : EB := .seq (hid b_has_11) .ret
@[simp] def b_has_13 (_ : Unit) : EB := .seq (hid b_has_9) (hid b_has_12)
@[simp] def b_has_14 (_ : Unit) : EB := .seq (hid b_has_2) (hid b_has_13)
def c_has : EB × List QOp × Nat := ((hid b_has_14), [(.mov (.t 6))], 18)
theorem k_has : cfun Try.prog 7 = some c_has := by kernel_rfl


/-- One side's share. -/
def hasS (p : Prm) (s : Sta) (k : Int) : Int := if p.k0 = k then s.h0 else s.h1
set_option maxHeartbeats 2000000 in
theorem has_ok (p : Prm) (s : Sta) (k : Int) (hp : p.tx.length = 32) : ECalls Try.prog 7 [PVv p, SV s, I .i64 k] [] fun y H' => H' = [] ∧ y = I .i64 (hasS p s k) := by
  have h1 := prmC_len hp
  have h2 := pm_take hp
  have e34 := idx_of (pm_34 hp) (by omega)
  refine ecalls k_has ?_
  simp [c_has, PVv, SV, staC, I, h1, h2, e34, iC]
  by_cases c : p.k0 = k
  · have hv : hasS p s k = s.h0 := if_pos c
    rw [hv]
    simp [c, h1, h2, e34, iC]
    exact fin [] (by decide) rfl rfl rfl ⟨rfl, rfl⟩
  · have hv : hasS p s k = s.h1 := if_neg c
    rw [hv]
    simp [c, h1, h2, e34, iC]
    exact fin [] (by decide) rfl rfl rfl ⟨rfl, rfl⟩

/-- A number's remainder, as unsigned. -/
def md (k : Int) (m : Nat) : Int := (IntKind.u64.wrap k) % (m : Int)
theorem md_u (k : Int) : 0 ≤ IntKind.u64.wrap k := by rw [IntKind.wrap_u64]; omega
theorem md_lt (k : Int) {m : Nat} (h : 0 < m) : 0 ≤ md k m ∧ md k m < m := ⟨Int.emod_nonneg _ (by omega), Int.emod_lt_of_pos _ (by omega)⟩
def sma (x y : Int) : Sta := ⟨0, x, y, [], []⟩
def smR (x y u v am fe : Int) (b0 b1 : Bool) : Rte := ⟨⟨hz, 0, x + y, if b0 then 2 else 1, if b0 then 1 else 2, 3, 5⟩, ⟨hz, 1, u + v, if b1 then 3 else 2, if b1 then 2 else 3, 3, 5⟩, 1, 2, 3, am, fe⟩
theorem sma_may {x y : Int} (hx : 0 ≤ x ∧ x < 1000) (hy : 0 ≤ y ∧ y < 1000) : mayS (sma x y) = true := by
  simp [mayS, sma, payL, holL, total, sumP, sumH]
  omega
theorem sma_tot {x y : Int} (hx : 0 ≤ x ∧ x < 1000) (hy : 0 ≤ y ∧ y < 1000) : totS (sma x y) = x + y := by
  unfold totS
  rw [if_pos (sma_may hx hy)]
  simp [sma, total, sumP, sumH]
theorem sma_ok {x y : Int} (hx : 0 ≤ x ∧ x < 1000) (hy : 0 ≤ y ∧ y < 1000) : (sma x y).ok := by
  refine ⟨by simp [sma, i64], by simp only [sma, i64]; omega, by simp only [sma, i64]; omega, by simp [sma], by simp [sma], by simp [sma], by simp [sma]⟩

/-- What is said of parts with a slice of nothing is said of parts with a nil slice. -/
theorem ecalls_nilA {P : Program} {f : FuncId} {args : List EV} {H : List EO} {post : EV → List (Option EO) → Prop} (i k es : Nat) {cs : List EC} (hT : args[i]? = some (.v (.agg cs))) (hc : cs[k]? = some (.fz (.lit (.slice none 0 0))))
    (h : ECalls P f (args.set i (.v (.agg (cs.set k (.fz (.sl es [])))))) H post) : ECalls P f args H post := by
  intro ρ Φ w vals r ha
  refine h ρ Φ w vals r ⟨by rw [List.length_set]; exact ha.1, ?_⟩
  intro j x y hx hy
  rw [List.getElem?_set] at hx
  split at hx
  · rename_i hij
    subst hij
    split at hx
    · obtain rfl := Option.some.inj hx
      obtain ⟨vs, hv, ha'⟩ : VT _ (.agg cs) y := ha.2 i _ y hT hy
      refine ⟨vs, hv, by rw [List.length_set]; exact ha'.1, ?_⟩
      intro l x' y' hx' hy'
      rw [List.getElem?_set] at hx'
      split at hx'
      · rename_i hkl
        subst hkl
        split at hx'
        · obtain rfl := Option.some.inj hx'
          have h' : FR Φ w (.lit (.slice none 0 0)) y' := ha'.2 k _ y' hc hy'
          cases h'
          exact FR.emp es none 0
        · simp at hx'
      · exact ha'.2 l x' y' hx' hy'
    · simp at hx
  · exact ha.2 j x y hx hy
/-- The sample's state, its slices nil. -/
def nilS (x y : Int) : EV := .v (.agg [iC 0, iC x, iC y, .fz (.lit (.slice none 0 0)), .fz (.lit (.slice none 0 0))])
theorem tot_nil {x y : Int} (hx : 0 ≤ x ∧ x < 1000) (hy : 0 ≤ y ∧ y < 1000) : ECalls Try.prog 8 [nilS x y] [] fun z H' => H' = [] ∧ z = I .i64 (x + y) := by
  have h := Total_ok (sma x y) (sma_ok hx hy)
  rw [sma_tot hx hy] at h
  refine ecalls_nilA 0 3 36 rfl rfl (ecalls_nilA 0 4 3 rfl rfl ?_)
  exact h
/-- The hold of the sample. -/
def smH (am : Int) : Hol := ⟨1, am, [1, 2, 3]⟩
theorem srt_123 : srt [1, 2, 3] = [1, 2, 3] := by decide +kernel
theorem hol_sm (x y u v am fe : Int) (b0 b1 : Bool) : holV (smR x y u v am fe b0 b1) 1 = smH am := by
  show Hol.mk 1 am (srt [1, 2, 3]) = _
  rw [srt_123]
  rfl
theorem chk_sm {x y u v am fe : Int} (b0 b1 : Bool) (ha : 30 ≤ am ∧ am < 330) (hf : 0 ≤ fe ∧ fe < 20) : chkV (smR x y u v am fe b0 b1) = 0 := by
  have hp : prtV (smR x y u v am fe b0 b1) := by cases b0 <;> cases b1 <;> simp [prtV, smR, ofV]
  unfold chkV
  rw [if_neg (fun h => h hp), if_neg (by simp only [smR]; omega), if_neg (by simp only [smR]; omega)]
theorem sid0 (b : Bool) : sid (if b then 2 else 1) (if b then 1 else 2) 1 = if b then 1 else 0 := by cases b <;> rfl
theorem sid1 (b : Bool) : sid (if b then 3 else 2) (if b then 2 else 3) 2 = if b then 1 else 0 := by cases b <;> rfl
/-- The sample's state behind the hold. -/
def kept (b : Bool) (x y am : Int) : Sta := ⟨1, if b then x else x - am, if b then y - am else y, [], [smH am]⟩
theorem mayH_sm {am : Int} (ha : 30 ≤ am ∧ am < 330) : mayH (smH am) = true := by
  simp [mayH, smH, keysS]
  omega
theorem kee_sm {x y am : Int} (b : Bool) (hx : 400 ≤ x ∧ x < 1000) (hy : 400 ≤ y ∧ y < 1000) (ha : 30 ≤ am ∧ am < 330) : keeS (sma x y) (if b then 1 else 0) (smH am) = (kept b x y am, 0) := by
  have hm := @sma_may x y ⟨by omega, hx.2⟩ ⟨by omega, hy.2⟩
  have hn : (nxt (sma x y)).2 = 0 := by unfold nxt; rw [if_pos ⟨hm, by simp [sma]⟩]
  unfold keeS
  rw [if_neg (by rw [hn]; simp), if_neg (by cases b <;> simp), if_neg (by simp only [smH]; omega), if_neg (by rw [mayH_sm ha]; simp), if_neg (by simp [sma, fndI, posI]), if_neg (by simp [sma]),
    if_neg (by cases b <;> simp [sideS, sma, smH] <;> omega)]
  cases b <;> simp [kept, sma, smH, insA, posI]
theorem kept_may {b : Bool} {x y am : Int} (hx : 400 ≤ x ∧ x < 1000) (hy : 400 ≤ y ∧ y < 1000) (ha : 30 ≤ am ∧ am < 330) : mayS (kept b x y am) = true := by
  have hq : mayH ⟨1, am, [1, 2, 3]⟩ = true := mayH_sm ha
  cases b <;> simp [mayS, kept, payL, holL, aft, hq, total, sumP, sumH, smH] <;> omega
theorem fre_sm {b : Bool} {x y am a : Int} (hx : 400 ≤ x ∧ x < 1000) (hy : 400 ≤ y ∧ y < 1000) (ha : 30 ≤ am ∧ am < 330) (h0 : 0 ≤ a ∧ a ≤ am) : freS (kept b x y am) 1 a = (⟨2, (kept b x y am).h0 + a, (kept b x y am).h1 + (am - a), [], []⟩, 0) := by
  have hm := @kept_may b x y am hx hy ha
  have hn : (nxt (kept b x y am)).2 = 0 := by unfold nxt; rw [if_pos ⟨hm, by simp [kept]⟩]
  have hg : (kept b x y am).holds[posI ((kept b x y am).holds.map (·.id)) 1]? = some (smH am) := by simp [kept, smH, posI]
  unfold freS
  rw [if_neg (by rw [hn]; simp)]
  simp only [hg]
  rw [if_neg (by simp [smH]), if_neg (by simp only [smH]; omega)]
  simp [kept, smH, delA, posI]
theorem has_sm {b : Bool} {x y am : Int} {r : Rte} (hr : srt [r.a, r.b, r.c] = [1, 2, 3]) (ha : r.am = am) : hasV r (kept b x y am) 1 = true := by
  unfold hasV
  rw [hr, ha]
  simp [kept, smH, hitV]
/-- The sample's state at the end. -/
def frd (b : Bool) (x y p : Int) : Sta := ⟨2, if b then x + p else x - p, if b then y - p else y + p, [], []⟩
theorem opn_sm {x y u v am fe : Int} (b0 b1 : Bool) (hx : 400 ≤ x ∧ x < 1000) (hy : 400 ≤ y ∧ y < 1000) (hu : 400 ≤ u ∧ u < 1000) (hv : 400 ≤ v ∧ v < 1000) (ha : 30 ≤ am ∧ am < 330) (hf : 0 ≤ fe ∧ fe < 20) :
    opnS (smR x y u v am fe b0 b1) 1 (sma x y) (sma u v) = (kept b0 x y am, kept b1 u v am, 0) := by
  have s0 : sid (smR x y u v am fe b0 b1).f.k0 (smR x y u v am fe b0 b1).f.k1 (smR x y u v am fe b0 b1).a = if b0 then 1 else 0 := sid0 b0
  have s1 : sid (smR x y u v am fe b0 b1).s.k0 (smR x y u v am fe b0 b1).s.k1 (smR x y u v am fe b0 b1).b = if b1 then 1 else 0 := sid1 b1
  unfold opnS
  rw [s0, s1, hol_sm, chk_sm b0 b1 ha hf, kee_sm b0 hx hy ha, kee_sm b1 hu hv ha]
  simp
theorem fre_r {b : Bool} {x y am p : Int} {r : Rte} (har : r.am = am) (hx : 400 ≤ x ∧ x < 1000) (hy : 400 ≤ y ∧ y < 1000) (ha : 30 ≤ am ∧ am < 330) (hp : 0 ≤ p ∧ p ≤ am) : freV r (kept b x y am) 1 (if b then 1 else 0) p = (frd b x y p, 0) := by
  unfold freV
  rw [har]
  cases b
  · rw [if_pos (show (if false = true then (1 : Int) else 0) = 0 from rfl), fre_sm hx hy ha ⟨by omega, by omega⟩]
    simp [frd, kept]
    omega
  · rw [if_neg (show ¬ (if true = true then (1 : Int) else 0) = 0 by decide), fre_sm hx hy ha hp]
    simp [frd, kept]
    omega
theorem clo_sm {x y u v am fe p : Int} (b0 b1 : Bool) (hx : 400 ≤ x ∧ x < 1000) (hy : 400 ≤ y ∧ y < 1000) (hu : 400 ≤ u ∧ u < 1000) (hv : 400 ≤ v ∧ v < 1000) (ha : 30 ≤ am ∧ am < 330) (hf : 0 ≤ fe ∧ fe < 20) (hp : 0 ≤ p ∧ p ≤ am) :
    cloS (smR x y u v am fe b0 b1) 1 p (kept b0 x y am) (kept b1 u v am) = (frd b0 x y p, frd b1 u v p, 0) := by
  have s0 : sid (smR x y u v am fe b0 b1).f.k0 (smR x y u v am fe b0 b1).f.k1 (smR x y u v am fe b0 b1).a = if b0 then 1 else 0 := sid0 b0
  have s1 : sid (smR x y u v am fe b0 b1).s.k0 (smR x y u v am fe b0 b1).s.k1 (smR x y u v am fe b0 b1).b = if b1 then 1 else 0 := sid1 b1
  have h0 := @has_sm b0 x y am (smR x y u v am fe b0 b1) srt_123 rfl
  have h1 := @has_sm b1 u v am (smR x y u v am fe b0 b1) srt_123 rfl
  have f0 := @fre_r b0 x y am p (smR x y u v am fe b0 b1) rfl hx hy ha hp
  have f1 := @fre_r b1 u v am p (smR x y u v am fe b0 b1) rfl hu hv ha hp
  unfold cloS
  rw [s0, s1, chk_sm b0 b1 ha hf, h0, h1, f0, f1, if_neg (by simp), if_neg (by simp only [smR]; omega)]
  simp

set_option maxRecDepth 8000 in
set_option maxHeartbeats 8000000 in
theorem small_ok (k0 k1 k2 k3 : Int) (b0 b1 : Bool) : ECalls Try.prog 4 [.v (.agg [iC k0, iC k1, iC k2, iC k3]), .v (.agg [.fz (.lit (.bool b0)), .fz (.lit (.bool b1))])] [] fun y H' => H' = [] ∧
    y = .tup [.agg (rteC (smR (400 + md k2 400) (400 + md k3 400) (400 + md k3 300) (400 + md k2 300) (30 + md k0 300) (md k1 20) b0 b1)), .agg (staC (sma (400 + md k2 400) (400 + md k3 400))), .agg (staC (sma (400 + md k3 300) (400 + md k2 300)))] := by
  have u1 : ∀ (k : Int) (m : Nat), 0 < m → (IntKind.u64.wrap k).tmod (m : Int) = md k m := fun k m _ => Int.tmod_eq_emod_of_nonneg (md_u k)
  have m0 := md_lt k0 (m := 300) (by omega)
  have m1 := md_lt k1 (m := 20) (by omega)
  have m2 := md_lt k2 (m := 400) (by omega)
  have m3 := md_lt k3 (m := 400) (by omega)
  have m2' := md_lt k2 (m := 300) (by omega)
  have m3' := md_lt k3 (m := 300) (by omega)
  have d0 : (IntKind.u64.wrap k0).tmod 300 = md k0 300 := u1 k0 300 (by omega)
  have d1 : (IntKind.u64.wrap k1).tmod 20 = md k1 20 := u1 k1 20 (by omega)
  have d2 : (IntKind.u64.wrap k2).tmod 400 = md k2 400 := u1 k2 400 (by omega)
  have d3 : (IntKind.u64.wrap k3).tmod 400 = md k3 400 := u1 k3 400 (by omega)
  have d2' : (IntKind.u64.wrap k2).tmod 300 = md k2 300 := u1 k2 300 (by omega)
  have d3' : (IntKind.u64.wrap k3).tmod 300 = md k3 300 := u1 k3 300 (by omega)
  generalize hh0 : md k0 300 = e0 at *
  generalize hh1 : md k1 20 = e1 at *
  generalize hh2 : md k2 400 = e2 at *
  generalize hh3 : md k3 400 = e3 at *
  generalize hh4 : md k2 300 = e4 at *
  generalize hh5 : md k3 300 = e5 at *
  have w0 : IntKind.i64.wrap e0 = e0 := wrap_i64 (by omega) (by omega)
  have w1 : IntKind.i64.wrap e1 = e1 := wrap_i64 (by omega) (by omega)
  have w2 : IntKind.i64.wrap e2 = e2 := wrap_i64 (by omega) (by omega)
  have w3 : IntKind.i64.wrap e3 = e3 := wrap_i64 (by omega) (by omega)
  have w4 : IntKind.i64.wrap e4 = e4 := wrap_i64 (by omega) (by omega)
  have w5 : IntKind.i64.wrap e5 = e5 := wrap_i64 (by omega) (by omega)
  have v0 : IntKind.i64.wrap (30 + e0) = 30 + e0 := wrap_i64 (by omega) (by omega)
  have v2 : IntKind.i64.wrap (400 + e2) = 400 + e2 := wrap_i64 (by omega) (by omega)
  have v3 : IntKind.i64.wrap (400 + e3) = 400 + e3 := wrap_i64 (by omega) (by omega)
  have v4 : IntKind.i64.wrap (400 + e4) = 400 + e4 := wrap_i64 (by omega) (by omega)
  have v5 : IntKind.i64.wrap (400 + e5) = 400 + e5 := wrap_i64 (by omega) (by omega)
  have t0 := @tot_nil (400 + e2) (400 + e3) (by omega) (by omega)
  have t1 := @tot_nil (400 + e5) (400 + e4) (by omega) (by omega)
  have hz' : rteC (smR (400 + e2) (400 + e3) (400 + e5) (400 + e4) (30 + e0) e1 b0 b1) = List.replicate 32 (.fz (.lit (.int .u8 0))) ++ [iC 0, iC ((400 + e2) + (400 + e3)), iC (if b0 then 2 else 1), iC (if b0 then 1 else 2), iC 3, iC 5] ++
     (List.replicate 32 (.fz (.lit (.int .u8 0))) ++ [iC 1, iC ((400 + e5) + (400 + e4)), iC (if b1 then 3 else 2), iC (if b1 then 2 else 3), iC 3, iC 5]) ++ [iC 1, iC 2, iC 3, iC (30 + e0), iC e1] := by rfl
  rw [hz']
  clear hz'
  have hcz : hc hz = List.replicate 32 (.fz (.lit (.int .u8 0))) := by rfl
  refine ecalls k_small ?_
  simp [c_small, I, iC, d0, d1, d2, d3, d2', d3', w0, w1, w2, w3, w4, w5, v0, v2, v3, v4, v5]
  refine call0 t0 (by simp [nilS, iC]) ?_
  rintro yy H' ⟨rfl, rfl⟩
  refine ⟨.inl (by simp [I]), le_ok rfl, ?_⟩
  simp [I, iC, d0, d1, d2, d3, d2', d3', w0, w1, w2, w3, w4, w5, v0, v2, v3, v4, v5]
  refine call0 t1 (by simp [nilS, iC]) ?_
  rintro yy H' ⟨rfl, rfl⟩
  refine ⟨.inl (by simp [I]), le_ok rfl, ?_⟩
  cases b0 <;> cases b1
  all_goals
    simp [I, iC, d0, d1, d2, d3, d2', d3', w0, w1, w2, w3, w4, w5, v0, v2, v3, v4, v5, hcz]
    refine finW _ (weak_nlB (o := 48) (k := 3) 36 rfl rfl) (finW _ (weak_nlB (o := 48) (k := 4) 3 rfl rfl) (finW _ (weak_nlB (o := 64) (k := 3) 36 rfl rfl) (finW _ (weak_nlB (o := 64) (k := 4) 3 rfl rfl) ?_)))
    exact fin [] (by decide) rfl rfl rfl ⟨rfl, rfl⟩

end Go.Proofs.Ytejjhgdnmknejaa
