import Derived.Test.YtdeeophiffchjaaDoorAll10
import Derived.Test.YtdeeophiffchjaaDoorAll11
namespace Go.Proofs.YtdeeophiffchjaaDoor
open Go Go.EW
set_option linter.unusedSimpArgs false
set_option linter.unusedVariables false

@[simp] def l_LadderMakes_1 (_ : Unit) : List EOp := [⟨0, (some 2), none, (.q (.box 35 (.t 0))), []⟩, ⟨1, (some 4), none, (.q (.mov (.k (.bool false)))), []⟩]
@[simp] def b_LadderMakes_2 (_ : Unit) : EB := reg0 (hid l_LadderMakes_1) 2
@[simp] def l_LadderMakes_4 (_ : Unit) : List EOp := [⟨6, (some 5), none, (.q (.alloc 35 zU8)), []⟩, ⟨7, none, none, (.sto 32 (.t 5) (.t 13)), []⟩, ⟨8, (some 6), none, (.q (.mov (.t 14))), []⟩]
@[simp] def l_LadderMakes_3 (_ : Unit) : List EOp := ⟨0, (some 10), none, (.q (.lda 32 (.t 2))), []⟩ :: ⟨1, (some 11), none, (.q (.mov (.t 1))), []⟩ :: ⟨2, (some 12), none, (.call 11 [(.t 10), (.t 11)]), []⟩ :: ⟨3, (some 9), none, (.q (.mov (.t 12))), []⟩ :: ⟨4, (some 13), none, (.q (.ext 0 (.t 9))), []⟩ :: ⟨5, (some 14), none, (.q (.ext 1 (.t 9))), []⟩ :: hid l_LadderMakes_4
@[simp] def b_LadderMakes_5 (_ : Unit) : EB := reg0 (hid l_LadderMakes_3) 9
@[simp] def l_LadderMakes_7 (_ : Unit) : List EOp := [⟨6, (some 7), none, (.q (.alloc 35 zU8)), []⟩, ⟨7, none, none, (.sto 32 (.t 7) (.t 19)), []⟩, ⟨8, (some 8), none, (.q (.mov (.t 20))), []⟩]
@[simp] def l_LadderMakes_6 (_ : Unit) : List EOp := ⟨0, (some 16), none, (.q (.lda 32 (.t 2))), []⟩ :: ⟨1, (some 17), none, (.q (.mov (.t 1))), []⟩ :: ⟨2, (some 18), none, (.call 12 [(.t 16), (.t 17)]), []⟩ :: ⟨3, (some 15), none, (.q (.mov (.t 18))), []⟩ :: ⟨4, (some 19), none, (.q (.ext 0 (.t 15))), []⟩ :: ⟨5, (some 20), none, (.q (.ext 1 (.t 15))), []⟩ :: hid l_LadderMakes_7
@[simp] def b_LadderMakes_8 (_ : Unit) : EB := reg0 (hid l_LadderMakes_6) 9
@[simp] def l_LadderMakes_11 (_ : Unit) : List EOp := [⟨12, (some 4), none, (.q (.mov (.t 32))), []⟩]
@[simp] def l_LadderMakes_10 (_ : Unit) : List EOp := ⟨6, (some 27), (some (24, true)), (.q (.mov (.t 8))), []⟩ :: ⟨7, (some 28), (some (24, true)), (.q (.bin .eql (.t 26) (.t 27))), []⟩ :: ⟨8, (some 29), none, (.q (.pick (.t 24) (.t 28) (.k (.bool false)))), []⟩ :: ⟨9, (some 30), none, (.q (.mov (.t 29))), []⟩ :: ⟨10, (some 31), (some (30, true)), (.call 7 []), []⟩ :: ⟨11, (some 32), none, (.q (.pick (.t 30) (.t 31) (.k (.bool false)))), []⟩ :: hid l_LadderMakes_11
@[simp] def l_LadderMakes_9 (_ : Unit) : List EOp := ⟨0, (some 21), none, (.q (.lda 32 (.t 5))), []⟩ :: ⟨1, (some 22), none, (.q (.lda 32 (.t 7))), []⟩ :: ⟨2, (some 23), none, (.q (.eqa false 32 .u8 (.t 21) (.t 22))), []⟩ :: ⟨3, (some 24), none, (.q (.mov (.t 23))), []⟩ :: ⟨4, (some 25), (some (24, true)), (.q (.mov (.t 6))), []⟩ :: ⟨5, (some 26), (some (24, true)), (.call 13 [(.t 25)]), []⟩ :: hid l_LadderMakes_10
@[simp] def b_LadderMakes_12 (_ : Unit) : EB := reg0 (hid l_LadderMakes_9) 13
@[simp] def b_LadderMakes_13 (_ : Unit) : EB := .seq (hid b_LadderMakes_12) .ret
@[simp] def b_LadderMakes_14 (_ : Unit) : EB := .seq (hid b_LadderMakes_8) (hid b_LadderMakes_13)
@[simp] def b_LadderMakes_15 (_ : Unit) : EB := .seq (hid b_LadderMakes_5) (hid b_LadderMakes_14)
@[simp] def b_LadderMakes_16 (_ : Unit) : EB := .seq (hid b_LadderMakes_2) (hid b_LadderMakes_15)
def c_LadderMakes : EB × List QOp × Nat := ((hid b_LadderMakes_16), [(.mov (.t 4))], 33)
theorem k_LadderMakes : cfun Tryd.prog 4 = some c_LadderMakes := by kernel_rfl

@[simp] def l_LadderGets_1 (_ : Unit) : List EOp := [⟨0, (some 2), none, (.q (.box 24 (.t 0))), []⟩, ⟨1, (some 4), none, (.q (.mov (.k (.bool false)))), []⟩]
@[simp] def b_LadderGets_2 (_ : Unit) : EB := reg0 (hid l_LadderGets_1) 2
@[simp] def l_LadderGets_3 (_ : Unit) : List EOp := [⟨0, (some 9), none, (.q (.fad 1 (.t 2))), []⟩, ⟨1, (some 10), none, (.q (.ldc (.t 9))), []⟩, ⟨2, (some 11), none, (.q (.len (.t 10))), []⟩, ⟨3, (some 12), none, (.q (.bin .gtr (.t 11) (.k (.int .i64 60)))), []⟩]
@[simp] def b_LadderGets_4 (_ : Unit) : EB := reg0 (hid l_LadderGets_3) 4
@[simp] def l_LadderGets_5 (_ : Unit) : List EOp := [⟨0, (some 13), none, (.call 7 []), []⟩, ⟨1, (some 4), none, (.q (.mov (.t 13))), []⟩]
@[simp] def b_LadderGets_6 (_ : Unit) : EB := reg0 (hid l_LadderGets_5) 2
@[simp] def b_LadderGets_7 (_ : Unit) : EB := .seq (hid b_LadderGets_6) .ret
@[simp] def b_LadderGets_8 (_ : Unit) : EB := .cond (.t 12) (hid b_LadderGets_7) .skip
@[simp] def b_LadderGets_9 (_ : Unit) : EB := .seq (hid b_LadderGets_4) (hid b_LadderGets_8)
@[simp] def l_LadderGets_11 (_ : Unit) : List EOp := [⟨6, (some 20), none, (.q (.ext 1 (.t 14))), []⟩, ⟨7, (some 5), none, (.q (.alloc 35 zU8)), []⟩, ⟨8, none, none, (.sto 32 (.t 5) (.t 19)), []⟩, ⟨9, (some 6), none, (.q (.mov (.t 20))), []⟩]
@[simp] def l_LadderGets_10 (_ : Unit) : List EOp := ⟨0, (some 15), none, (.q (.lda 2 (.t 2))), []⟩ :: ⟨1, (some 16), none, (.call 9 [(.t 15)]), []⟩ :: ⟨2, (some 17), none, (.q (.mov (.t 1))), []⟩ :: ⟨3, (some 18), none, (.call 17 [(.t 16), (.t 17)]), []⟩ :: ⟨4, (some 14), none, (.q (.mov (.t 18))), []⟩ :: ⟨5, (some 19), none, (.q (.ext 0 (.t 14))), []⟩ :: hid l_LadderGets_11
@[simp] def b_LadderGets_12 (_ : Unit) : EB := reg0 (hid l_LadderGets_10) 10
@[simp] def l_LadderGets_14 (_ : Unit) : List EOp := [⟨6, (some 7), none, (.q (.alloc 35 zU8)), []⟩, ⟨7, none, none, (.sto 32 (.t 7) (.t 25)), []⟩, ⟨8, (some 8), none, (.q (.mov (.t 26))), []⟩]
@[simp] def l_LadderGets_13 (_ : Unit) : List EOp := ⟨0, (some 22), none, (.q (.lda 2 (.t 2))), []⟩ :: ⟨1, (some 23), none, (.q (.mov (.t 1))), []⟩ :: ⟨2, (some 24), none, (.call 18 [(.t 22), (.t 23)]), []⟩ :: ⟨3, (some 21), none, (.q (.mov (.t 24))), []⟩ :: ⟨4, (some 25), none, (.q (.ext 0 (.t 21))), []⟩ :: ⟨5, (some 26), none, (.q (.ext 1 (.t 21))), []⟩ :: hid l_LadderGets_14
@[simp] def b_LadderGets_15 (_ : Unit) : EB := reg0 (hid l_LadderGets_13) 9
@[simp] def l_LadderGets_18 (_ : Unit) : List EOp := [⟨12, (some 4), none, (.q (.mov (.t 38))), []⟩]
@[simp] def l_LadderGets_17 (_ : Unit) : List EOp := ⟨6, (some 33), (some (30, true)), (.q (.mov (.t 8))), []⟩ :: ⟨7, (some 34), (some (30, true)), (.q (.bin .eql (.t 32) (.t 33))), []⟩ :: ⟨8, (some 35), none, (.q (.pick (.t 30) (.t 34) (.k (.bool false)))), []⟩ :: ⟨9, (some 36), none, (.q (.mov (.t 35))), []⟩ :: ⟨10, (some 37), (some (36, true)), (.call 7 []), []⟩ :: ⟨11, (some 38), none, (.q (.pick (.t 36) (.t 37) (.k (.bool false)))), []⟩ :: hid l_LadderGets_18
@[simp] def l_LadderGets_16 (_ : Unit) : List EOp := ⟨0, (some 27), none, (.q (.lda 32 (.t 5))), []⟩ :: ⟨1, (some 28), none, (.q (.lda 32 (.t 7))), []⟩ :: ⟨2, (some 29), none, (.q (.eqa false 32 .u8 (.t 27) (.t 28))), []⟩ :: ⟨3, (some 30), none, (.q (.mov (.t 29))), []⟩ :: ⟨4, (some 31), (some (30, true)), (.q (.mov (.t 6))), []⟩ :: ⟨5, (some 32), (some (30, true)), (.call 13 [(.t 31)]), []⟩ :: hid l_LadderGets_17
@[simp] def b_LadderGets_19 (_ : Unit) : EB := reg0 (hid l_LadderGets_16) 13
@[simp] def b_LadderGets_20 (_ : Unit) : EB := .seq (hid b_LadderGets_19) .ret
@[simp] def b_LadderGets_21 (_ : Unit) : EB := .seq (hid b_LadderGets_15) (hid b_LadderGets_20)
@[simp] def b_LadderGets_22 (_ : Unit) : EB := .seq (hid b_LadderGets_12) (hid b_LadderGets_21)
@[simp] def b_LadderGets_23 (_ : Unit) : EB := .seq (hid b_LadderGets_9) (hid b_LadderGets_22)
@[simp] def b_LadderGets_24 (_ : Unit) : EB := .seq (hid b_LadderGets_2) (hid b_LadderGets_23)
def c_LadderGets : EB × List QOp × Nat := ((hid b_LadderGets_24), [(.mov (.t 4))], 39)
theorem k_LadderGets : cfun Tryd.prog 6 = some c_LadderGets := by kernel_rfl


theorem num_e (e : Nat) : ECalls Tryd.prog 13 [.lit (errV e)] [] fun y H' => H' = [] ∧ y = NV e := by
  have h := num_ok (e : Int)
  have e1 : EN (e : Int) = .lit (errV e) := by
    unfold EN errV
    by_cases h : e = 0
    · subst h; rfl
    · rw [if_neg (by omega), if_neg h]
  rw [e1] at h
  exact h
theorem makS_len {h : List UInt8} (n : Int) (h32 : h.length = 32) : (makS h n).1.length = 32 := by
  unfold makS
  split
  · rfl
  · exact clS_len _ _ _ h32
theorem getA_len {n : Nat} : ∀ {l : List Stp} {h : List UInt8}, (∀ s ∈ l, s.sec.length = 32) → getA n l = some h → h.length = 32
  | [], h, _, e => by simp [getA] at e
  | a :: r, h, hs, e => by
    unfold getA at e
    split at e
    · obtain rfl := Option.some.inj e
      unfold ofS
      exact clS_len _ _ _ (hs a List.mem_cons_self)
    · exact getA_len (fun s hs' => hs s (List.mem_cons_of_mem _ hs')) e
theorem getL_len {l : Lad} (n : Int) (hl : l.ok) : (getL l n).1.length = 32 := by
  unfold getL
  split
  · rfl
  split
  · rfl
  split
  · rfl
  split
  · rename_i h e
    exact getA_len (fun s hs => (hl.st s hs).2) e
  · rfl

set_option maxHeartbeats 4000000 in
theorem LadderMakes_ok (h : List UInt8) (n : Int) (h32 : h.length = 32) (hn : -9223372036854775808 ≤ n ∧ n ≤ 9223372036854775807) : ECalls Tryd.prog 4 [HV h, NV n] [] fun y H' => H' = [] ∧ y = .lit (.bool true) := by
  have ht32 : List.take 32 (hc h) = hc h := List.take_of_length_le (by rw [hc_len]; omega)
  have t32 : List.take 32 h = h := List.take_of_length_le (by omega)
  have hcn : hc [] = [] := rfl
  have h1 := LMake_ok h n h32 hn
  have h2 := RMake_ok h n h32 hn
  have hl := makS_len n h32
  obtain ⟨q, hq⟩ : ∃ q, makS h n = q := ⟨_, rfl⟩
  rw [hq] at h1 h2 hl
  obtain ⟨S, e⟩ := q
  dsimp only at h1 h2 hl
  have tS : List.take 32 S = S := List.take_of_length_le (by omega)
  refine ecalls k_LadderMakes ?_
  simp [c_LadderMakes, HV, NV, h32, t32, ht32, -errV_0]
  refine call0 h1 (by simp [HV, NV]) ?_
  rintro y H' ⟨rfl, rfl⟩
  refine ⟨.inl (by simp), le_ok rfl, ?_⟩
  simp [HV, NV, h32, t32, ht32, hl, tS, hcn, -errV_0]
  refine call0 h2 (by simp [HV, NV]) ?_
  rintro y H' ⟨rfl, rfl⟩
  refine ⟨.inl (by simp), le_ok rfl, ?_⟩
  simp [HV, NV, hl, tS, hcn, -errV_0]
  refine call0 (num_e e) (by simp) ?_
  rintro y H' ⟨rfl, rfl⟩
  refine ⟨.inl (by simp [NV]), le_ok rfl, ?_⟩
  simp [NV]
  refine call0 sure_ok (by simp) ?_
  rintro y H' ⟨rfl, rfl⟩
  refine ⟨.inl (by simp), le_ok rfl, ?_⟩
  simp
  exact fin [] (by decide) rfl rfl rfl ⟨rfl, rfl⟩

set_option maxHeartbeats 4000000 in
theorem LadderGets_ok (l : Lad) (n : Int) (hl : l.ok) (hn : -9223372036854775808 ≤ n ∧ n ≤ 9223372036854775807) : ECalls Tryd.prog 6 [LV l, NV n] [] fun y H' => H' = [] ∧ y = .lit (.bool true) := by
  have hcn : hc [] = [] := rfl
  have h1 := LGet_ok l n hl hn
  have h2 := RGet_ok l n hl hn
  have hlen := getL_len n hl
  obtain ⟨q, hq⟩ : ∃ q, getL l n = q := ⟨_, rfl⟩
  rw [hq] at h1 h2 hlen
  obtain ⟨S, e⟩ := q
  dsimp only at h1 h2 hlen
  have tS : List.take 32 S = S := List.take_of_length_le (by omega)
  refine ecalls k_LadderGets ?_
  simp [c_LadderGets, LV, ladC, NV, -errV_0]
  by_cases h60 : 60 < l.steps.length
  · have h60' : (60 : Int) < (l.steps.length : Int) := by omega
    simp [h60, h60']
    refine call0 sure_ok (by simp) ?_
    rintro y H' ⟨rfl, rfl⟩
    refine ⟨.inl (by simp), le_ok rfl, ?_⟩
    simp
    exact fin [] (by decide) rfl rfl rfl ⟨rfl, rfl⟩
  have h60' : ¬ (60 : Int) < (l.steps.length : Int) := by omega
  simp [h60, h60', -errV_0]
  refine call0 (give_ok l hl (by omega)) (by simp [LV, ladC]) ?_
  rintro y H' ⟨rfl, rfl⟩
  refine ⟨.inl (by simp [LV, ladC]), le_ok rfl, ?_⟩
  simp [LV, ladC, NV, -errV_0]
  refine call0 h1 (by simp [LV, ladC, NV]) ?_
  rintro y H' ⟨rfl, rfl⟩
  refine ⟨.inl (by simp [HE]), le_ok rfl, ?_⟩
  simp [HE, LV, ladC, NV, hlen, tS, hcn, -errV_0]
  refine call0 h2 (by simp [LV, ladC, NV]) ?_
  rintro y H' ⟨rfl, rfl⟩
  refine ⟨.inl (by simp [RHE]), le_ok rfl, ?_⟩
  simp [RHE, NV, hlen, tS, hcn, -errV_0]
  refine call0 (num_e e) (by simp) ?_
  rintro y H' ⟨rfl, rfl⟩
  refine ⟨.inl (by simp [NV]), le_ok rfl, ?_⟩
  simp [NV]
  refine call0 sure_ok (by simp) ?_
  rintro y H' ⟨rfl, rfl⟩
  refine ⟨.inl (by simp), le_ok rfl, ?_⟩
  simp
  exact fin [] (by decide) rfl rfl rfl ⟨rfl, rfl⟩

end Go.Proofs.YtdeeophiffchjaaDoor

namespace Go.Proofs.YtdeeophiffchjaaDoor
open Go Go.EW
set_option linter.unusedSimpArgs false
set_option linter.unusedVariables false

@[simp] def l_same_1 (_ : Unit) : List EOp := [⟨0, (some 2), none, (.q (.box 31 (.t 0))), []⟩, ⟨1, (some 3), none, (.q (.box 24 (.t 1))), []⟩, ⟨2, (some 4), none, (.q (.mov (.k (.bool false)))), []⟩]
@[simp] def b_same_2 (_ : Unit) : EB := reg0 (hid l_same_1) 3
@[simp] def l_same_5 (_ : Unit) : List EOp := [⟨12, (some 18), (some (11, false)), (.q (.bin .neq (.t 14) (.t 17))), []⟩, ⟨13, (some 19), none, (.q (.pick (.t 11) (.k (.bool true)) (.t 18))), []⟩]
@[simp] def l_same_4 (_ : Unit) : List EOp := ⟨6, (some 12), (some (11, false)), (.q (.fad 1 (.t 2))), []⟩ :: ⟨7, (some 13), (some (11, false)), (.q (.ldc (.t 12))), []⟩ :: ⟨8, (some 14), (some (11, false)), (.q (.len (.t 13))), []⟩ :: ⟨9, (some 15), (some (11, false)), (.q (.fad 1 (.t 3))), []⟩ :: ⟨10, (some 16), (some (11, false)), (.q (.ldc (.t 15))), []⟩ :: ⟨11, (some 17), (some (11, false)), (.q (.len (.t 16))), []⟩ :: hid l_same_5
@[simp] def l_same_3 (_ : Unit) : List EOp := ⟨0, (some 6), none, (.q (.fad 0 (.t 2))), []⟩ :: ⟨1, (some 7), none, (.q (.ldc (.t 6))), []⟩ :: ⟨2, (some 8), none, (.q (.fad 0 (.t 3))), []⟩ :: ⟨3, (some 9), none, (.q (.ldc (.t 8))), []⟩ :: ⟨4, (some 10), none, (.q (.bin .neq (.t 7) (.t 9))), []⟩ :: ⟨5, (some 11), none, (.q (.mov (.t 10))), []⟩ :: hid l_same_4
@[simp] def b_same_6 (_ : Unit) : EB := reg0 (hid l_same_3) 14
@[simp] def l_same_7 (_ : Unit) : List EOp := [⟨0, (some 4), none, (.q (.mov (.k (.bool false)))), []⟩]
@[simp] def b_same_8 (_ : Unit) : EB := reg0 (hid l_same_7) 1
@[simp] def b_same_9 (_ : Unit) : EB := .seq (hid b_same_8) .ret
@[simp] def b_same_10 (_ : Unit) : EB := .cond (.t 19) (hid b_same_9) .skip
@[simp] def b_same_11 (_ : Unit) : EB := .seq (hid b_same_6) (hid b_same_10)
@[simp] def l_same_12 (_ : Unit) : List EOp := [⟨0, (some 5), none, (.q (.mov (.k (.int .i64 0)))), []⟩]
@[simp] def b_same_13 (_ : Unit) : EB := reg0 (hid l_same_12) 1
@[simp] def l_same_14 (_ : Unit) : List EOp := [⟨0, (some 20), none, (.q (.mov (.t 5))), []⟩, ⟨1, (some 21), none, (.q (.fad 1 (.t 2))), []⟩, ⟨2, (some 22), none, (.q (.ldc (.t 21))), []⟩, ⟨3, (some 23), none, (.q (.len (.t 22))), []⟩, ⟨4, (some 24), none, (.q (.bin .lss (.t 20) (.t 23))), []⟩]
@[simp] def b_same_15 (_ : Unit) : EB := reg0 (hid l_same_14) 5
@[simp] def b_same_16 (_ : Unit) : EB := .cond (.t 24) .skip (.exit 0)
@[simp] def b_same_17 (_ : Unit) : EB := .seq (hid b_same_15) (hid b_same_16)
@[simp] def l_same_19 (_ : Unit) : List EOp := [⟨6, (some 33), none, (.q (.ldc (.t 32))), []⟩, ⟨7, (some 34), none, (.q (.mov (.t 5))), []⟩, ⟨8, (some 35), none, (.q (.isl 33 (.t 33) (.t 34))), []⟩, ⟨9, (some 36), none, (.q (.lda 33 (.t 35))), []⟩, ⟨10, (some 37), none, (.q (.eqs true .i64 32 .u8 (.t 31) (.t 36))), []⟩]
@[simp] def l_same_18 (_ : Unit) : List EOp := ⟨0, (some 27), none, (.q (.fad 1 (.t 2))), []⟩ :: ⟨1, (some 28), none, (.q (.ldc (.t 27))), []⟩ :: ⟨2, (some 29), none, (.q (.mov (.t 5))), []⟩ :: ⟨3, (some 30), none, (.q (.isl 33 (.t 28) (.t 29))), []⟩ :: ⟨4, (some 31), none, (.q (.lda 33 (.t 30))), []⟩ :: ⟨5, (some 32), none, (.q (.fad 1 (.t 3))), []⟩ :: hid l_same_19
@[simp] def b_same_20 (_ : Unit) : EB := reg0 (hid l_same_18) 11
@[simp] def l_same_21 (_ : Unit) : List EOp := [⟨0, (some 4), none, (.q (.mov (.k (.bool false)))), []⟩]
@[simp] def b_same_22 (_ : Unit) : EB := reg0 (hid l_same_21) 1
@[simp] def b_same_23 (_ : Unit) : EB := .seq (hid b_same_22) .ret
@[simp] def b_same_24 (_ : Unit) : EB := .cond (.t 37) (hid b_same_23) .skip
@[simp] def b_same_25 (_ : Unit) : EB := .seq (hid b_same_20) (hid b_same_24)
@[simp] def b_same_26 (_ : Unit) : EB := .block 1 (hid b_same_25)
@[simp] def l_same_27 (_ : Unit) : List EOp := [⟨0, (some 25), none, (.q (.mov (.t 5))), []⟩, ⟨1, (some 26), none, (.q (.bin .add (.t 25) (.k (.int .i64 1)))), []⟩, ⟨2, (some 5), none, (.q (.mov (.t 26))), []⟩]
@[simp] def b_same_28 (_ : Unit) : EB := reg0 (hid l_same_27) 3
@[simp] def b_same_29 (_ : Unit) : EB := .seq (hid b_same_26) (hid b_same_28)
@[simp] def b_same_30 (_ : Unit) : EB := .seq (hid b_same_17) (hid b_same_29)
@[simp] def b_same_31 (_ : Unit) : EB := .loop (hid b_same_30)
@[simp] def b_same_32 (_ : Unit) : EB := .block 0 (hid b_same_31)
@[simp] def b_same_33 (_ : Unit) : EB := .seq (hid b_same_13) (hid b_same_32)
@[simp] def l_same_34 (_ : Unit) : List EOp := [⟨0, (some 4), none, (.q (.mov (.k (.bool true)))), []⟩]
@[simp] def b_same_35 (_ : Unit) : EB := reg0 (hid l_same_34) 1
@[simp] def b_same_36 (_ : Unit) : EB := .seq (hid b_same_35) .ret
@[simp] def b_same_37 (_ : Unit) : EB := .seq (hid b_same_33) (hid b_same_36)
@[simp] def b_same_38 (_ : Unit) : EB := .seq (hid b_same_11) (hid b_same_37)
@[simp] def b_same_39 (_ : Unit) : EB := .seq (hid b_same_2) (hid b_same_38)
def c_same : EB × List QOp × Nat := ((hid b_same_39), [(.mov (.t 4))], 38)
theorem k_same : cfun Tryd.prog 16 = some c_same := by kernel_rfl

@[simp] def l_RAdd_1 (_ : Unit) : List EOp := [⟨0, (some 2), none, (.q (.box 24 (.t 0))), []⟩, ⟨1, (some 3), none, (.q (.box 35 (.t 1))), []⟩, ⟨2, (some 4), none, (.q (.alloc 24 [(.int .i64 0), (.slice none 0 0)])), []⟩, ⟨3, (some 5), none, (.q (.mov (.k (.int .i64 0)))), []⟩]
@[simp] def b_RAdd_2 (_ : Unit) : EB := reg0 (hid l_RAdd_1) 4
@[simp] def l_RAdd_3 (_ : Unit) : List EOp := [⟨0, (some 14), none, (.q (.lda 2 (.t 2))), []⟩, ⟨1, (some 15), none, (.call 10 [(.t 14)]), []⟩, ⟨2, (some 16), none, (.q (.un .not (.t 15))), []⟩]
@[simp] def b_RAdd_4 (_ : Unit) : EB := reg0 (hid l_RAdd_3) 3
@[simp] def l_RAdd_5 (_ : Unit) : List EOp := [⟨0, (some 17), none, (.q (.build [(.int .i64 0), (.slice none 0 0)] [])), []⟩, ⟨1, none, none, (.fz (.sto 2 (.t 4) (.t 17))), []⟩, ⟨2, (some 5), none, (.q (.mov (.k (.int .i64 1)))), []⟩]
@[simp] def b_RAdd_6 (_ : Unit) : EB := reg0 (hid l_RAdd_5) 3
@[simp] def b_RAdd_7 (_ : Unit) : EB := .seq (hid b_RAdd_6) .ret
@[simp] def b_RAdd_8 (_ : Unit) : EB := .cond (.t 16) (hid b_RAdd_7) .skip
@[simp] def b_RAdd_9 (_ : Unit) : EB := .seq (hid b_RAdd_4) (hid b_RAdd_8)
@[simp] def l_RAdd_10 (_ : Unit) : List EOp := [⟨0, (some 18), none, (.q (.fad 0 (.t 2))), []⟩, ⟨1, (some 19), none, (.q (.ldc (.t 18))), []⟩, ⟨2, (some 20), none, (.q (.bin .eql (.t 19) (.k (.int .i64 (-1))))), []⟩]
@[simp] def b_RAdd_11 (_ : Unit) : EB := reg0 (hid l_RAdd_10) 3
@[simp] def l_RAdd_12 (_ : Unit) : List EOp := [⟨0, (some 21), none, (.q (.build [(.int .i64 0), (.slice none 0 0)] [])), []⟩, ⟨1, none, none, (.fz (.sto 2 (.t 4) (.t 21))), []⟩, ⟨2, (some 5), none, (.q (.mov (.k (.int .i64 31)))), []⟩]
@[simp] def b_RAdd_13 (_ : Unit) : EB := reg0 (hid l_RAdd_12) 3
@[simp] def b_RAdd_14 (_ : Unit) : EB := .seq (hid b_RAdd_13) .ret
@[simp] def b_RAdd_15 (_ : Unit) : EB := .cond (.t 20) (hid b_RAdd_14) .skip
@[simp] def b_RAdd_16 (_ : Unit) : EB := .seq (hid b_RAdd_11) (hid b_RAdd_15)
@[simp] def l_RAdd_17 (_ : Unit) : List EOp := [⟨0, (some 22), none, (.q (.fad 0 (.t 2))), []⟩, ⟨1, (some 23), none, (.q (.ldc (.t 22))), []⟩, ⟨2, (some 24), none, (.q (.lda 32 (.t 3))), []⟩, ⟨3, (some 25), none, (.q (.build (([(.int .i64 0)] : List Value) ++ zU8) [(0, 1, (.t 23)), (1, 32, (.t 24))])), []⟩, ⟨4, (some 6), none, (.q (.alloc 55 (([(.int .i64 0)] : List Value) ++ zU8))), []⟩, ⟨5, none, none, (.sto 33 (.t 6) (.t 25)), []⟩]
@[simp] def b_RAdd_18 (_ : Unit) : EB := reg0 (hid l_RAdd_17) 6
@[simp] def l_RAdd_19 (_ : Unit) : List EOp := [⟨0, (some 26), none, (.q (.fad 0 (.t 6))), []⟩, ⟨1, (some 27), none, (.q (.ldc (.t 26))), []⟩, ⟨2, (some 28), none, (.call 29 [(.t 27)]), []⟩, ⟨3, (some 7), none, (.q (.mov (.t 28))), []⟩]
@[simp] def b_RAdd_20 (_ : Unit) : EB := reg0 (hid l_RAdd_19) 4
@[simp] def l_RAdd_21 (_ : Unit) : List EOp := [⟨0, (some 8), none, (.q (.mov (.k (.slice none 0 0)))), []⟩, ⟨1, (some 9), none, (.q (.mov (.k (.slice none 0 0)))), []⟩]
@[simp] def b_RAdd_22 (_ : Unit) : EB := reg0 (hid l_RAdd_21) 2
@[simp] def l_RAdd_23 (_ : Unit) : List EOp := [⟨0, (some 10), none, (.q (.mov (.k (.int .i64 0)))), []⟩]
@[simp] def b_RAdd_24 (_ : Unit) : EB := reg0 (hid l_RAdd_23) 1
@[simp] def l_RAdd_25 (_ : Unit) : List EOp := [⟨0, (some 29), none, (.q (.mov (.t 10))), []⟩, ⟨1, (some 30), none, (.q (.fad 1 (.t 2))), []⟩, ⟨2, (some 31), none, (.q (.ldc (.t 30))), []⟩, ⟨3, (some 32), none, (.q (.len (.t 31))), []⟩, ⟨4, (some 33), none, (.q (.bin .lss (.t 29) (.t 32))), []⟩]
@[simp] def b_RAdd_26 (_ : Unit) : EB := reg0 (hid l_RAdd_25) 5
@[simp] def b_RAdd_27 (_ : Unit) : EB := .cond (.t 33) .skip (.exit 0)
@[simp] def b_RAdd_28 (_ : Unit) : EB := .seq (hid b_RAdd_26) (hid b_RAdd_27)
@[simp] def l_RAdd_30 (_ : Unit) : List EOp := [⟨6, none, none, (.sto 33 (.t 11) (.t 40)), []⟩]
@[simp] def l_RAdd_29 (_ : Unit) : List EOp := ⟨0, (some 36), none, (.q (.fad 1 (.t 2))), []⟩ :: ⟨1, (some 37), none, (.q (.ldc (.t 36))), []⟩ :: ⟨2, (some 38), none, (.q (.mov (.t 10))), []⟩ :: ⟨3, (some 39), none, (.q (.isl 33 (.t 37) (.t 38))), []⟩ :: ⟨4, (some 40), none, (.q (.lda 33 (.t 39))), []⟩ :: ⟨5, (some 11), none, (.q (.alloc 55 (([(.int .i64 0)] : List Value) ++ zU8))), []⟩ :: hid l_RAdd_30
@[simp] def b_RAdd_31 (_ : Unit) : EB := reg0 (hid l_RAdd_29) 7
@[simp] def l_RAdd_32 (_ : Unit) : List EOp := [⟨0, (some 41), none, (.q (.fad 0 (.t 11))), []⟩, ⟨1, (some 42), none, (.q (.ldc (.t 41))), []⟩, ⟨2, (some 43), none, (.call 29 [(.t 42)]), []⟩, ⟨3, (some 44), none, (.q (.mov (.t 7))), []⟩, ⟨4, (some 45), none, (.q (.bin .gtr (.t 43) (.t 44))), []⟩]
@[simp] def b_RAdd_33 (_ : Unit) : EB := reg0 (hid l_RAdd_32) 5
@[simp] def l_RAdd_34 (_ : Unit) : List EOp := [⟨0, (some 46), none, (.q (.mov (.t 9))), []⟩, ⟨1, (some 47), none, (.q (.lda 33 (.t 11))), []⟩, ⟨2, (some 48), none, (.q (.bsl 33 (([(.int .i64 0)] : List Value) ++ zU8) 1 [(0, (.t 47))])), []⟩, ⟨3, (some 49), none, (.app 55 33 40 (.t 46) (.t 48)), []⟩, ⟨4, (some 9), none, (.q (.mov (.t 49))), []⟩]
@[simp] def b_RAdd_35 (_ : Unit) : EB := reg0 (hid l_RAdd_34) 5
@[simp] def b_RAdd_36 (_ : Unit) : EB := .cond (.t 45) (hid b_RAdd_35) .skip
@[simp] def b_RAdd_37 (_ : Unit) : EB := .seq (hid b_RAdd_33) (hid b_RAdd_36)
@[simp] def l_RAdd_38 (_ : Unit) : List EOp := [⟨0, (some 50), none, (.q (.fad 0 (.t 11))), []⟩, ⟨1, (some 51), none, (.q (.ldc (.t 50))), []⟩, ⟨2, (some 52), none, (.call 29 [(.t 51)]), []⟩, ⟨3, (some 53), none, (.q (.mov (.t 7))), []⟩, ⟨4, (some 54), none, (.q (.bin .lss (.t 52) (.t 53))), []⟩]
@[simp] def b_RAdd_39 (_ : Unit) : EB := reg0 (hid l_RAdd_38) 5
@[simp] def l_RAdd_41 (_ : Unit) : List EOp := [⟨6, (some 61), none, (.q (.ext 1 (.t 55))), []⟩, ⟨7, (some 12), none, (.q (.alloc 35 zU8)), []⟩, ⟨8, none, none, (.sto 32 (.t 12) (.t 60)), []⟩, ⟨9, (some 13), none, (.q (.mov (.t 61))), []⟩]
@[simp] def l_RAdd_40 (_ : Unit) : List EOp := ⟨0, (some 56), none, (.q (.lda 33 (.t 6))), []⟩ :: ⟨1, (some 57), none, (.q (.fad 0 (.t 11))), []⟩ :: ⟨2, (some 58), none, (.q (.ldc (.t 57))), []⟩ :: ⟨3, (some 59), none, (.call 22 [(.t 56), (.t 58)]), []⟩ :: ⟨4, (some 55), none, (.q (.mov (.t 59))), []⟩ :: ⟨5, (some 60), none, (.q (.ext 0 (.t 55))), []⟩ :: hid l_RAdd_41
@[simp] def b_RAdd_42 (_ : Unit) : EB := reg0 (hid l_RAdd_40) 10
@[simp] def l_RAdd_44 (_ : Unit) : List EOp := [⟨6, (some 68), none, (.q (.pick (.t 63) (.t 67) (.k (.bool false)))), []⟩]
@[simp] def l_RAdd_43 (_ : Unit) : List EOp := ⟨0, (some 62), none, (.q (.mov (.t 13))), []⟩ :: ⟨1, (some 63), none, (.q (.mov (.t 62))), []⟩ :: ⟨2, (some 64), (some (63, true)), (.q (.lda 32 (.t 12))), []⟩ :: ⟨3, (some 65), (some (63, true)), (.q (.fad 1 (.t 11))), []⟩ :: ⟨4, (some 66), (some (63, true)), (.q (.lda 32 (.t 65))), []⟩ :: ⟨5, (some 67), (some (63, true)), (.q (.eqa true 32 .u8 (.t 64) (.t 66))), []⟩ :: hid l_RAdd_44
@[simp] def b_RAdd_45 (_ : Unit) : EB := reg0 (hid l_RAdd_43) 7
@[simp] def l_RAdd_46 (_ : Unit) : List EOp := [⟨0, (some 69), none, (.q (.build [(.int .i64 0), (.slice none 0 0)] [])), []⟩, ⟨1, none, none, (.fz (.sto 2 (.t 4) (.t 69))), []⟩, ⟨2, (some 5), none, (.q (.mov (.k (.int .i64 11)))), []⟩]
@[simp] def b_RAdd_47 (_ : Unit) : EB := reg0 (hid l_RAdd_46) 3
@[simp] def b_RAdd_48 (_ : Unit) : EB := .seq (hid b_RAdd_47) .ret
@[simp] def b_RAdd_49 (_ : Unit) : EB := .cond (.t 68) (hid b_RAdd_48) .skip
@[simp] def b_RAdd_50 (_ : Unit) : EB := .seq (hid b_RAdd_45) (hid b_RAdd_49)
@[simp] def l_RAdd_51 (_ : Unit) : List EOp := [⟨0, (some 70), none, (.q (.mov (.t 8))), []⟩, ⟨1, (some 71), none, (.q (.lda 33 (.t 11))), []⟩, ⟨2, (some 72), none, (.q (.bsl 33 (([(.int .i64 0)] : List Value) ++ zU8) 1 [(0, (.t 71))])), []⟩, ⟨3, (some 73), none, (.app 55 33 40 (.t 70) (.t 72)), []⟩, ⟨4, (some 8), none, (.q (.mov (.t 73))), []⟩]
@[simp] def b_RAdd_52 (_ : Unit) : EB := reg0 (hid l_RAdd_51) 5
@[simp] def b_RAdd_53 (_ : Unit) : EB := .seq (hid b_RAdd_50) (hid b_RAdd_52)
@[simp] def b_RAdd_54 (_ : Unit) : EB := .seq (hid b_RAdd_42) (hid b_RAdd_53)
@[simp] def b_RAdd_55 (_ : Unit) : EB := .cond (.t 54) (hid b_RAdd_54) .skip
@[simp] def b_RAdd_56 (_ : Unit) : EB := .seq (hid b_RAdd_39) (hid b_RAdd_55)
@[simp] def b_RAdd_57 (_ : Unit) : EB := .seq (hid b_RAdd_37) (hid b_RAdd_56)
@[simp] def b_RAdd_58 (_ : Unit) : EB := .seq (hid b_RAdd_31) (hid b_RAdd_57)
@[simp] def b_RAdd_59 (_ : Unit) : EB := .block 1 (hid b_RAdd_58)
@[simp] def l_RAdd_60 (_ : Unit) : List EOp := [⟨0, (some 34), none, (.q (.mov (.t 10))), []⟩, ⟨1, (some 35), none, (.q (.bin .add (.t 34) (.k (.int .i64 1)))), []⟩, ⟨2, (some 10), none, (.q (.mov (.t 35))), []⟩]
@[simp] def b_RAdd_61 (_ : Unit) : EB := reg0 (hid l_RAdd_60) 3
@[simp] def b_RAdd_62 (_ : Unit) : EB := .seq (hid b_RAdd_59) (hid b_RAdd_61)
@[simp] def b_RAdd_63 (_ : Unit) : EB := .seq (hid b_RAdd_28) (hid b_RAdd_62)
@[simp] def b_RAdd_64 (_ : Unit) : EB := .loop (hid b_RAdd_63)
@[simp] def b_RAdd_65 (_ : Unit) : EB := .block 0 (hid b_RAdd_64)
@[simp] def b_RAdd_66 (_ : Unit) : EB := .seq (hid b_RAdd_24) (hid b_RAdd_65)
@[simp] def l_RAdd_68 (_ : Unit) : List EOp := [⟨7, (some 81), none, (.q (.mov (.t 9))), []⟩, ⟨6, (some 80), none, (.app 55 33 40 (.t 77) (.t 79)), [0, 1, 2, 7]⟩, ⟨8, (some 82), none, (.app 55 33 40 (.t 80) (.t 81)), [0, 1, 2]⟩, ⟨9, (some 83), none, (.q (.build [(.int .i64 0), (.slice none 0 0)] [(0, 1, (.t 76)), (1, 1, (.t 82))])), []⟩, ⟨10, none, none, (.fz (.sto 2 (.t 4) (.t 83))), []⟩, ⟨11, (some 5), none, (.q (.mov (.k (.int .i64 0)))), []⟩]
@[simp] def l_RAdd_67 (_ : Unit) : List EOp := ⟨0, (some 74), none, (.q (.fad 0 (.t 2))), []⟩ :: ⟨1, (some 75), none, (.q (.ldc (.t 74))), []⟩ :: ⟨2, (some 76), none, (.q (.bin .sub (.t 75) (.k (.int .i64 1)))), []⟩ :: ⟨3, (some 77), none, (.q (.mov (.t 8))), []⟩ :: ⟨4, (some 78), none, (.q (.lda 33 (.t 6))), []⟩ :: ⟨5, (some 79), none, (.q (.bsl 33 (([(.int .i64 0)] : List Value) ++ zU8) 1 [(0, (.t 78))])), []⟩ :: hid l_RAdd_68
@[simp] def b_RAdd_69 (_ : Unit) : EB := reg1 (hid l_RAdd_67) 12
@[simp] def b_RAdd_70 (_ : Unit) : EB := .seq (hid b_RAdd_69) .ret
@[simp] def b_RAdd_71 (_ : Unit) : EB := .seq (hid b_RAdd_66) (hid b_RAdd_70)
@[simp] def b_RAdd_72 (_ : Unit) : EB := .seq (hid b_RAdd_22) (hid b_RAdd_71)
@[simp] def b_RAdd_73 (_ : Unit) : EB := .seq (hid b_RAdd_20) (hid b_RAdd_72)
@[simp] def b_RAdd_74 (_ : Unit) : EB := .seq (hid b_RAdd_18) (hid b_RAdd_73)
@[simp] def b_RAdd_75 (_ : Unit) : EB := .seq (hid b_RAdd_16) (hid b_RAdd_74)
@[simp] def b_RAdd_76 (_ : Unit) : EB := .seq (hid b_RAdd_9) (hid b_RAdd_75)
@[simp] def b_RAdd_77 (_ : Unit) : EB := .seq (hid b_RAdd_2) (hid b_RAdd_76)
def c_RAdd : EB × List QOp × Nat := ((hid b_RAdd_77), [(.lda 2 (.t 4)), (.mov (.t 5))], 84)
theorem k_RAdd : cfun Tryd.prog 15 = some c_RAdd := by kernel_rfl


theorem intS2_stp (s : Stp) : intS2 .i64 .u8 (stpC s) = some (s.num, s.sec.map fun b => (b.toNat : Int)) := by
  simp [stpC, intS2]

set_option maxHeartbeats 4000000 in
theorem same_ok (l : Lad) (hl : l.ok) : ECalls Tryd.prog 16 [LV l, LV l] [] fun y H' => H' = [] ∧ y = .lit (.bool true) := by
  obtain ⟨⟨nx0, nx1⟩, hst, hlen⟩ := id hl
  refine ecalls k_same ?_
  simp [c_same, LV, ladC]
  refine eloop (α := Nat) (fun i => i ≤ l.steps.length) (fun i => l.steps.length - i)
    (fun i => [.any, .any, .v (.c (.ptr 0 0)), .v (.c (.ptr 1 0)), .any, NV i, .any, .any, .any, .any, .any, .any, .any, .any, .any, .any, .any, .any, .any, .any, .any, .any, .any, .any, .any, .any, .any, .any, .any, .any, .any, .any, .any, .any, .any, .any, .any, .any]) (fun _ => [some (.box 31 (ladC l)), some (.box 24 (ladC l))]) 0 [0, 16]
    (Nat.zero_le _) (by simp [NV]) (by simp [ladC]) (by simp [ladC]) (by simp) (by simp) ?_
  intro i hi
  by_cases hlt : i < l.steps.length
  · have hli : (i : Int) < (l.steps.length : Int) := by omega
    obtain ⟨x, hx⟩ : ∃ x, l.steps[i]? = some x := ⟨l.steps[i], by simp [hlt]⟩
    have hge : (stpv l.steps)[i]'(by simp [hlt]) = stpF x := by
      have e := stpv_get hx
      rw [List.getElem?_eq_getElem (by simp [hlt])] at e
      exact Option.some.inj e
    have hx32 := (hst x (List.mem_of_getElem? hx)).2
    have hfl := stpF_len hx32
    have hcl := stpC_len hx32
    have hct := stpC_take hx32
    have hin := intS2_stp x
    have w2 : IntKind.i64.wrap ((i : Int) + 1) = ((i + 1 : Nat) : Int) := wrap_i64 (by omega) (by omega)
    simp [NV, ladC, hlt, hli, hge, hfl, hcl, hct, stpF_fz, hin, hx32, w2, -Int.natCast_add, -intS2]
    exact round (i + 1) [0, 1] (by omega) (by omega) (by simp [NV]) (by simp [ladC]) (by simp [ladC]) (by simp) (by simp)
  · have hie : i = l.steps.length := by omega
    subst hie
    simp [NV, ladC]
    exact fin [] (by decide) rfl rfl rfl ⟨rfl, rfl⟩

theorem addL_okq {l : Lad} {h : List UInt8} (hl : l.ok) (h32 : h.length = 32) (hlen : l.steps.length ≤ 60) : (addL l h).1.ok := by
  have hz : zLad.ok := ⟨by simp [zLad], by simp [zLad], by simp [zLad]⟩
  unfold addL
  split
  · exact hz
  split
  · exact hz
  split
  · exact hz
  rename_i h1 h2 h3
  have hm : mayL l := Classical.not_not.1 h1
  have h4 : (lwrS (rkI l.nxt) l.steps).length ≤ l.steps.length := List.length_filter_le _ _
  have h5 : (highS (rkI l.nxt) l.steps).length ≤ l.steps.length := List.length_filter_le _ _
  have h6 := hm.2.1
  refine ⟨by dsimp only; omega, ?_, by simp; omega⟩
  intro s hs
  rcases List.mem_append.1 hs with hs | hs
  · exact hl.st s (List.mem_filter.1 hs).1
  · rcases List.mem_cons.1 hs with rfl | hs
    · exact ⟨hl.nx, h32⟩
    · exact hl.st s (List.mem_filter.1 hs).1

def RAE (q : Lad × Nat) : EV := .tup [.agg (ladC q.1), .c (.fz (.lit (.int .i64 q.2)))]

set_option maxHeartbeats 8000000 in
theorem RAdd_ok (l : Lad) (h : List UInt8) (hl : l.ok) (h32 : h.length = 32) (hlen : l.steps.length ≤ 60) : ECalls Tryd.prog 15 [LV l, HV h] [] fun y H' => H' = [] ∧ y = RAE (addL l h) := by
  obtain ⟨⟨nx0, nx1⟩, hst, _⟩ := id hl
  have t32 : List.take 32 h = h := List.take_of_length_le (by omega)
  have hcn : hc [] = [] := rfl
  have ht32 : List.take 32 (hc h) = hc h := List.take_of_length_le (by rw [hc_len]; omega)
  have hcl0 : (hc h).length = 32 := by rw [hc_len, h32]
  refine ecalls k_RAdd ?_
  simp [c_RAdd, LV, ladC, HV, h32, t32, ht32]
  refine call0 (RMay_ok l hl) (by simp [LV, ladC]) ?_
  rintro y H' ⟨rfl, rfl⟩
  refine ⟨.inl (by simp), le_ok rfl, ?_⟩
  by_cases hm : mayL l
  rotate_left
  · have ha : addL l h = (zLad, 1) := by unfold addL; rw [if_pos hm]
    rw [ha, mayB_f hm]
    simp [RAE, ladC, zLad, stpv]
    refine finW _ (weak_nlB (o := 32) (k := 1) 33 rfl rfl) ?_
    exact fin [] (by decide) rfl rfl rfl ⟨rfl, rfl⟩
  rw [mayB_t hm]
  have hm0 := hm.1
  by_cases hn : l.nxt = -1
  · have ha : addL l h = (zLad, 31) := by unfold addL; rw [if_neg (fun q => q hm), if_pos (by omega)]
    rw [ha]
    simp [RAE, ladC, zLad, stpv, hn]
    refine finW _ (weak_nlB (o := 32) (k := 1) 33 rfl rfl) ?_
    exact fin [] (by decide) rfl rfl rfl ⟨rfl, rfl⟩
  have ha : addL l h = if agrS ⟨l.nxt, h⟩ (lwrS (rkI l.nxt) l.steps) = false then (zLad, 11) else (⟨l.nxt - 1, lwrS (rkI l.nxt) l.steps ++ ⟨l.nxt, h⟩ :: highS (rkI l.nxt) l.steps⟩, 0) := by unfold addL; rw [if_neg (fun q => q hm), if_neg (by omega)]
  have hnp : 0 ≤ l.nxt := by omega
  have hmx := hm.2.1
  obtain ⟨a, haN⟩ : ∃ a : Nat, l.nxt.toNat = a := ⟨_, rfl⟩
  have han : l.nxt = (a : Int) := by omega
  have hso : (Stp.mk l.nxt h).ok := ⟨hnp, by dsimp only; omega, h32⟩
  have hsteps := may_ok' hl hm
  obtain ⟨r, hr⟩ : ∃ r, rkI l.nxt = r := ⟨_, rfl⟩
  have hra : rk a = r := by rw [← hr]; unfold rkI; rw [haN]
  have hLr := RRank_ok a (by omega)
  rw [hra, ← han] at hLr
  rw [ha]
  rw [hr]
  have hz32 : List.drop 32 hz = [] := rfl
  obtain ⟨Q, hQ⟩ : ∃ Q, RAE (if agrS { num := l.nxt, sec := h } (lwrS r l.steps) = false then (zLad, 11) else ({ nxt := l.nxt - 1, steps := lwrS r l.steps ++ { num := l.nxt, sec := h } :: highS r l.steps }, 0)) = Q := ⟨_, rfl⟩
  simp only [hQ]
  simp [hn, hnp, h32, t32, hcn, hz32]
  refine call0 hLr (by simp [NV]) ?_
  rintro y H' ⟨rfl, rfl⟩
  refine ⟨.inl (by simp [NV]), le_ok rfl, ?_⟩
  simp [NV]
  refine loopW _ (weak_nilR 8 55 33 rfl (by decide)) (loopW _ (weak_nilR 9 55 33 rfl (by decide)) ?_)
  simp
  have scl := stpC_len hso.sec
  have sct := stpC_take hso.sec
  obtain ⟨S, hS⟩ : ∃ S : Stp, ⟨l.nxt, h⟩ = S := ⟨_, rfl⟩
  have hSc : stpC S = .fz (.lit (.int .i64 l.nxt)) :: hc h := by rw [← hS]; rfl
  rw [hS] at scl sct hso hQ
  refine eloop (α := Nat) (fun i => i ≤ l.steps.length ∧ ∀ z ∈ lwrS r (l.steps.take i), badS S z = false) (fun i => l.steps.length - i)
    (fun i => [.any, .any, .v (.c (.ptr 0 0)), .any, .v (.c (.ptr 1 0)), .any, .v (.c (.ptr 2 0)), NV r, .v (.c (.row 3 (lwrS r (l.steps.take i)).length)), .v (.c (.row 4 (highS r (l.steps.take i)).length)), NV i, .any, .any, .any, .any, .any, .any, .any, .any, .any, .any, .any, .any, .any, .any, .any, .any, .any, .any, .any, .any, .any, .any, .any, .any, .any, .any, .any, .any, .any, .any, .any, .any, .any, .any, .any, .any, .any, .any, .any, .any, .any, .any, .any, .any, .any, .any, .any, .any, .any, .any, .any, .any, .any, .any, .any, .any, .any, .any, .any, .any, .any, .any, .any, .any, .any, .any, .any, .any, .any, .any, .any, .any, .any])
    (fun i => [some (.box 24 (ladC l)), some (.box 24 [.fz (.lit (.int .i64 0)), .fz (.lit (.slice none 0 0))]), some (.box 55 (stpC S)), some (.row 55 33 (stpv (lwrS r (l.steps.take i)))), some (.row 55 33 (stpv (highS r (l.steps.take i))))]) 0 [0, 32, 224, 368, 369]
    ⟨Nat.zero_le _, by simp [lwrS]⟩ (by simp [NV, highS, lwrS]) (by simp [ladC, hSc, highS, lwrS, stpv]) (by simp [ladC]) (by simp) (by simp) ?_
  rintro i ⟨hi, hno⟩
  by_cases hlt : i < l.steps.length
  · have hli : (i : Int) < (l.steps.length : Int) := by omega
    obtain ⟨x, hx⟩ : ∃ x, l.steps[i]? = some x := ⟨l.steps[i], by simp [hlt]⟩
    have hge : (stpv l.steps)[i]'(by simp [hlt]) = stpF x := by
      have e := stpv_get hx
      rw [List.getElem?_eq_getElem (by simp [hlt])] at e
      exact Option.some.inj e
    have hxo := hsteps x (List.mem_of_getElem? hx)
    have hx32 := hxo.sec
    have hxlo := hxo.lo
    have hxhi := hxo.hi
    have hfl := stpF_len hx32
    have hcl := stpC_len hx32
    have hct := stpC_take hx32
    obtain ⟨b, hb⟩ : ∃ b : Nat, x.num.toNat = b := ⟨_, rfl⟩
    have hbn : x.num = (b : Int) := by omega
    obtain ⟨q, hq⟩ : ∃ q, rkI x.num = q := ⟨_, rfl⟩
    have hqb : rk b = q := by rw [← hq]; unfold rkI; rw [hb]
    have hLx := RRank_ok b (by omega)
    rw [hqb, ← hbn] at hLx
    have w2 : IntKind.i64.wrap ((i : Int) + 1) = ((i + 1 : Nat) : Int) := wrap_i64 (by omega) (by omega)
    have hs1 : highS r (l.steps.take (i + 1)) = highS r (l.steps.take i) ++ if decide (r < q) = true then [x] else [] := by have := filt_succ (fun z : Stp => decide (r < rkI z.num)) hx; simp only [hq] at this; exact this
    have hs2 : lwrS r (l.steps.take (i + 1)) = lwrS r (l.steps.take i) ++ if decide (q < r) = true then [x] else [] := by have := filt_succ (fun z : Stp => decide (rkI z.num < r)) hx; simp only [hq] at this; exact this
    have hol : (highS r (l.steps.take i)).length ≤ 60 := Nat.le_trans (List.length_filter_le _ _) (by rw [List.length_take]; omega)
    have hwl : (lwrS r (l.steps.take i)).length ≤ 60 := Nat.le_trans (List.length_filter_le _ _) (by rw [List.length_take]; omega)
    simp [NV, ladC, hlt, hli, hge, hfl, hcl, hct, stpF_fz, hcn, se0, sp0]
    refine call0 hLx (by simp [NV]) ?_
    rintro y H' ⟨rfl, rfl⟩
    refine ⟨.inl (by simp [NV]), le_ok rfl, ?_⟩
    rcases Nat.lt_trichotomy q r with hqr | hqr | hqr
    · rw [if_neg (by simp; omega), List.append_nil] at hs1
      rw [if_pos (decide_eq_true hqr)] at hs2
      have n1 : ¬ r < q := by omega
      simp [NV, n1, hcn, se0, sp0]
      refine call0 hLx (by simp [NV]) ?_
      rintro y H' ⟨rfl, rfl⟩
      refine ⟨.inl (by simp [NV]), le_ok rfl, ?_⟩
      simp [NV, hqr, hcn, se0, sp0, scl, sct]
      have hmk := RMk_ok S b hso (by omega)
      rw [← hbn] at hmk
      have hbad : badS S x = (mkS S b && decide (ofS S b ≠ x.sec)) := by unfold badS; rw [hb]
      have hofl : (ofS S b).length = 32 := by unfold ofS; exact clS_len _ _ _ hso.sec
      obtain ⟨M, hM⟩ : ∃ M, mkS S b = M := ⟨_, rfl⟩
      obtain ⟨O, hO⟩ : ∃ O, ofS S b = O := ⟨_, rfl⟩
      rw [hM, hO] at hmk hbad
      rw [hO] at hofl
      have hbM : badS S x = (M && !decide (O = x.sec)) := by rw [hbad]; simp
      have hx32t : List.take 32 x.sec = x.sec := List.take_of_length_le (by omega)
      have tO : List.take 32 (List.map (fun b : UInt8 => (b.toNat : Int)) O) = List.map (fun b : UInt8 => (b.toNat : Int)) O := List.take_of_length_le (by rw [List.length_map]; omega)
      have tO2 : List.take 32 O = O := List.take_of_length_le (by omega)
      have hqn := nat_inj (x := O) (y := x.sec)
      have tsx := st32 hx32
      have hl2 : (lwrS r (l.steps.take (i + 1))).length = (lwrS r (l.steps.take i)).length + 1 := by rw [hs2]; simp
      have hv2 : stpv (lwrS r (l.steps.take (i + 1))) = stpv (lwrS r (l.steps.take i)) ++ [stpF x] := by rw [hs2]; simp [stpv]
      have hno2 : badS S x = false → ∀ z ∈ lwrS r (l.steps.take (i + 1)), badS S z = false := by
        intro hb0 z hz
        rw [hs2] at hz
        rcases List.mem_append.1 hz with hz | hz
        · exact hno z hz
        · rw [List.mem_singleton] at hz
          rw [hz]
          exact hb0
      refine call0 hmk (by simp [NV]) ?_
      rintro y H' ⟨rfl, rfl⟩
      refine ⟨.inl (by simp), le_ok rfl, ?_⟩
      cases M with
      | false =>
        have hb0 : badS S x = false := by rw [hbM]; rfl
        simp [NV, w2, hcn, hcl, hct, hfl, -Int.natCast_add]
        refine ⟨by omega, ?_⟩
        exact round (i + 1) [0, 1, 2, 677, 4] ⟨by omega, hno2 hb0⟩ (by omega) (by simp [NV, hl2, hs1]) (by simp [ladC, hv2, hs1]) (by simp [ladC]) (by simp) (by simp)
      | true =>
        by_cases he : O = x.sec
        · have hb0 : badS S x = false := by rw [hbM, decide_eq_true he]; rfl
          simp [NV, w2, hcn, hcl, hct, hfl, hofl, he, hx32, hx32t, sd1, sd1', tsx, -Int.natCast_add]
          refine ⟨by omega, ?_⟩
          exact round (i + 1) [0, 1, 2, 677, 4] ⟨by omega, hno2 hb0⟩ (by omega) (by simp [NV, hl2, hs1]) (by simp [ladC, hv2, hs1]) (by simp [ladC]) (by simp) (by simp)
        · have hb1 : badS S x = true := by rw [hbM, decide_eq_false he]; rfl
          have hag : agrS S (lwrS r l.steps) = false := by
            unfold agrS
            have : (lwrS r l.steps).any (badS S) = true := List.any_eq_true.2 ⟨x, List.mem_filter.2 ⟨List.mem_of_getElem? hx, by simp [hq, hqr]⟩, hb1⟩
            rw [this]
            rfl
          rw [hag, if_pos rfl] at hQ
          rw [← hQ]
          simp [NV, w2, hcn, hcl, hct, hfl, hofl, he, hqn, tO, tO2, hx32, hx32t, sd1, sd1', tsx, RAE, ladC, zLad, stpv, -Int.natCast_add]
          refine finW _ (weak_nlB (o := 1) (k := 1) 33 rfl rfl) ?_
          exact fin [] (by decide) rfl rfl rfl ⟨rfl, rfl⟩
    · subst hqr
      rw [if_neg (by simp), List.append_nil] at hs1 hs2
      simp [NV, hcn, se0, sp0]
      refine call0 hLx (by simp [NV]) ?_
      rintro y H' ⟨rfl, rfl⟩
      refine ⟨.inl (by simp [NV]), le_ok rfl, ?_⟩
      simp [NV, w2, -Int.natCast_add]
      exact round (i + 1) [0, 1, 2, 3, 4] ⟨by omega, by rw [hs2]; exact hno⟩ (by omega) (by simp [NV, hs1, hs2]) (by simp [ladC, hs1, hs2]) (by simp [ladC]) (by simp) (by simp)
    · rw [if_pos (decide_eq_true hqr)] at hs1
      rw [if_neg (by simp; omega), List.append_nil] at hs2
      have hl1 : (highS r (l.steps.take (i + 1))).length = (highS r (l.steps.take i)).length + 1 := by rw [hs1]; simp
      have hv1 : stpv (highS r (l.steps.take (i + 1))) = stpv (highS r (l.steps.take i)) ++ [stpF x] := by rw [hs1]; simp [stpv]
      have n2 : ¬ q < r := by omega
      simp [NV, hqr, hcn, hcl, hct, hfl]
      refine ⟨by omega, ?_⟩
      simp [NV, hcn, se0, sp0]
      refine call0 hLx (by simp [NV]) ?_
      rintro y H' ⟨rfl, rfl⟩
      refine ⟨.inl (by simp [NV]), le_ok rfl, ?_⟩
      simp [NV, n2, w2, -Int.natCast_add]
      exact round (i + 1) [0, 1, 2, 3, 325] ⟨by omega, by rw [hs2]; exact hno⟩ (by omega) (by simp [NV, hl1, hs2]) (by simp [ladC, hv1, hs2]) (by simp [ladC]) (by simp) (by simp)
  · have hie : i = l.steps.length := by omega
    subst hie
    rw [List.take_length] at hno
    obtain ⟨Hh, hH⟩ : ∃ Hh, highS r l.steps = Hh := ⟨_, rfl⟩
    have hoL : (lwrS r l.steps).length ≤ 60 := Nat.le_trans (List.length_filter_le _ _) hlen
    have hoH : (highS r l.steps).length ≤ 60 := Nat.le_trans (List.length_filter_le _ _) hlen
    obtain ⟨Ll, hL⟩ : ∃ Ll, lwrS r l.steps = Ll := ⟨_, rfl⟩
    rw [hL] at hno hoL
    rw [hH] at hoH
    rw [hL, hH] at hQ
    have hag : agrS S Ll = true := by
      unfold agrS
      have : Ll.any (badS S) = false := by
        rw [List.any_eq_false]
        intro z hz
        rw [hno z hz]
        simp
      rw [this]
      rfl
    rw [hag, if_neg (by simp)] at hQ
    rw [← hQ]
    have w1 : IntKind.i64.wrap (l.nxt - 1) = l.nxt - 1 := wrap_i64 (by omega) (by omega)
    have tH : List.take Hh.length (stpv Hh) = stpv Hh := List.take_of_length_le (by simp)
    have tA : List.take (Ll.length + 1 + Hh.length) (stpv (Ll ++ S :: Hh)) = stpv (Ll ++ S :: Hh) := List.take_of_length_le (by simp; omega)
    have eA : stpv Ll ++ stpF S :: stpv Hh = stpv (Ll ++ S :: Hh) := by simp [stpv]
    simp [NV, ladC, hL, hH, scl, sct, w1, tH, eA]
    refine ⟨stpF_len hso.sec, by omega, by omega, ?_⟩
    refine finW _ (weak_frz (o := 213) (ty := 55) (es := 33) (xs := stpv (Ll ++ S :: Hh)) rfl) ?_
    exact fin [] (by decide) rfl rfl rfl ⟨rfl, by simp [RAE, ladC, tA]⟩

@[simp] def l_LadderAdds_1 (_ : Unit) : List EOp := [⟨0, (some 2), none, (.q (.box 24 (.t 0))), []⟩, ⟨1, (some 3), none, (.q (.box 35 (.t 1))), []⟩, ⟨2, (some 4), none, (.q (.mov (.k (.bool false)))), []⟩]
@[simp] def b_LadderAdds_2 (_ : Unit) : EB := reg0 (hid l_LadderAdds_1) 3
@[simp] def l_LadderAdds_3 (_ : Unit) : List EOp := [⟨0, (some 10), none, (.q (.fad 1 (.t 2))), []⟩, ⟨1, (some 11), none, (.q (.ldc (.t 10))), []⟩, ⟨2, (some 12), none, (.q (.len (.t 11))), []⟩, ⟨3, (some 13), none, (.q (.bin .gtr (.t 12) (.k (.int .i64 60)))), []⟩]
@[simp] def b_LadderAdds_4 (_ : Unit) : EB := reg0 (hid l_LadderAdds_3) 4
@[simp] def l_LadderAdds_5 (_ : Unit) : List EOp := [⟨0, (some 14), none, (.call 7 []), []⟩, ⟨1, (some 4), none, (.q (.mov (.t 14))), []⟩]
@[simp] def b_LadderAdds_6 (_ : Unit) : EB := reg0 (hid l_LadderAdds_5) 2
@[simp] def b_LadderAdds_7 (_ : Unit) : EB := .seq (hid b_LadderAdds_6) .ret
@[simp] def b_LadderAdds_8 (_ : Unit) : EB := .cond (.t 13) (hid b_LadderAdds_7) .skip
@[simp] def b_LadderAdds_9 (_ : Unit) : EB := .seq (hid b_LadderAdds_4) (hid b_LadderAdds_8)
@[simp] def l_LadderAdds_10 (_ : Unit) : List EOp := [⟨0, (some 15), none, (.q (.lda 2 (.t 2))), []⟩, ⟨1, (some 16), none, (.call 9 [(.t 15)]), []⟩, ⟨2, (some 5), none, (.q (.alloc 31 [(.int .i64 0), (.slice none 0 0)])), []⟩, ⟨3, none, none, (.fz (.sto 2 (.t 5) (.t 16))), []⟩]
@[simp] def b_LadderAdds_11 (_ : Unit) : EB := reg0 (hid l_LadderAdds_10) 4
@[simp] def l_LadderAdds_13 (_ : Unit) : List EOp := [⟨6, (some 6), none, (.q (.alloc 31 [(.int .i64 0), (.slice none 0 0)])), []⟩, ⟨7, none, none, (.fz (.sto 2 (.t 6) (.t 21))), []⟩, ⟨8, (some 7), none, (.q (.mov (.t 22))), []⟩]
@[simp] def l_LadderAdds_12 (_ : Unit) : List EOp := ⟨0, (some 18), none, (.q (.lda 2 (.t 5))), []⟩ :: ⟨1, (some 19), none, (.q (.lda 32 (.t 3))), []⟩ :: ⟨2, (some 20), none, (.call 14 [(.t 18), (.t 19)]), []⟩ :: ⟨3, (some 17), none, (.q (.mov (.t 20))), []⟩ :: ⟨4, (some 21), none, (.q (.ext 0 (.t 17))), []⟩ :: ⟨5, (some 22), none, (.q (.ext 1 (.t 17))), []⟩ :: hid l_LadderAdds_13
@[simp] def b_LadderAdds_14 (_ : Unit) : EB := reg0 (hid l_LadderAdds_12) 9
@[simp] def l_LadderAdds_16 (_ : Unit) : List EOp := [⟨6, (some 8), none, (.q (.alloc 24 [(.int .i64 0), (.slice none 0 0)])), []⟩, ⟨7, none, none, (.fz (.sto 2 (.t 8) (.t 27))), []⟩, ⟨8, (some 9), none, (.q (.mov (.t 28))), []⟩]
@[simp] def l_LadderAdds_15 (_ : Unit) : List EOp := ⟨0, (some 24), none, (.q (.lda 2 (.t 2))), []⟩ :: ⟨1, (some 25), none, (.q (.lda 32 (.t 3))), []⟩ :: ⟨2, (some 26), none, (.call 15 [(.t 24), (.t 25)]), []⟩ :: ⟨3, (some 23), none, (.q (.mov (.t 26))), []⟩ :: ⟨4, (some 27), none, (.q (.ext 0 (.t 23))), []⟩ :: ⟨5, (some 28), none, (.q (.ext 1 (.t 23))), []⟩ :: hid l_LadderAdds_16
@[simp] def b_LadderAdds_17 (_ : Unit) : EB := reg0 (hid l_LadderAdds_15) 9
@[simp] def l_LadderAdds_22 (_ : Unit) : List EOp := [⟨24, (some 53), none, (.q (.pick (.t 51) (.t 52) (.k (.bool false)))), []⟩, ⟨25, (some 4), none, (.q (.mov (.t 53))), []⟩]
@[simp] def l_LadderAdds_21 (_ : Unit) : List EOp := ⟨18, (some 47), (some (46, true)), (.q (.lda 2 (.t 5))), []⟩ :: ⟨19, (some 48), (some (46, true)), (.q (.lda 2 (.t 2))), []⟩ :: ⟨20, (some 49), (some (46, true)), (.call 16 [(.t 47), (.t 48)]), []⟩ :: ⟨21, (some 50), none, (.q (.pick (.t 46) (.t 49) (.k (.bool false)))), []⟩ :: ⟨22, (some 51), none, (.q (.mov (.t 50))), []⟩ :: ⟨23, (some 52), (some (51, true)), (.call 7 []), []⟩ :: hid l_LadderAdds_22
@[simp] def l_LadderAdds_20 (_ : Unit) : List EOp := ⟨12, (some 41), (some (40, true)), (.q (.mov (.t 7))), []⟩ :: ⟨14, (some 43), (some (40, true)), (.q (.mov (.t 9))), []⟩ :: ⟨13, (some 42), (some (40, true)), (.call 13 [(.t 41)]), [14]⟩ :: ⟨15, (some 44), (some (40, true)), (.q (.bin .eql (.t 42) (.t 43))), []⟩ :: ⟨16, (some 45), none, (.q (.pick (.t 40) (.t 44) (.k (.bool false)))), []⟩ :: ⟨17, (some 46), none, (.q (.mov (.t 45))), []⟩ :: hid l_LadderAdds_21
@[simp] def l_LadderAdds_19 (_ : Unit) : List EOp := ⟨6, (some 35), none, (.q (.mov (.t 34))), []⟩ :: ⟨7, (some 36), (some (35, true)), (.q (.lda 2 (.t 6))), []⟩ :: ⟨8, (some 37), (some (35, true)), (.q (.lda 2 (.t 8))), []⟩ :: ⟨9, (some 38), (some (35, true)), (.call 16 [(.t 36), (.t 37)]), []⟩ :: ⟨10, (some 39), none, (.q (.pick (.t 35) (.t 38) (.k (.bool false)))), []⟩ :: ⟨11, (some 40), none, (.q (.mov (.t 39))), []⟩ :: hid l_LadderAdds_20
@[simp] def l_LadderAdds_18 (_ : Unit) : List EOp := ⟨0, (some 29), none, (.q (.lda 2 (.t 5))), []⟩ :: ⟨3, (some 32), none, (.q (.lda 2 (.t 2))), []⟩ :: ⟨1, (some 30), none, (.call 8 [(.t 29)]), [3]⟩ :: ⟨2, (some 31), none, (.q (.eqi false (.t 30))), []⟩ :: ⟨4, (some 33), none, (.call 10 [(.t 32)]), [2]⟩ :: ⟨5, (some 34), none, (.q (.eqb false (.t 31) (.t 33))), []⟩ :: hid l_LadderAdds_19
@[simp] def b_LadderAdds_23 (_ : Unit) : EB := reg1 (hid l_LadderAdds_18) 26
@[simp] def b_LadderAdds_24 (_ : Unit) : EB := .seq (hid b_LadderAdds_23) .ret
@[simp] def b_LadderAdds_25 (_ : Unit) : EB := .seq (hid b_LadderAdds_17) (hid b_LadderAdds_24)
@[simp] def b_LadderAdds_26 (_ : Unit) : EB := .seq (hid b_LadderAdds_14) (hid b_LadderAdds_25)
@[simp] def b_LadderAdds_27 (_ : Unit) : EB := .seq (hid b_LadderAdds_11) (hid b_LadderAdds_26)
@[simp] def b_LadderAdds_28 (_ : Unit) : EB := .seq (hid b_LadderAdds_9) (hid b_LadderAdds_27)
@[simp] def b_LadderAdds_29 (_ : Unit) : EB := .seq (hid b_LadderAdds_2) (hid b_LadderAdds_28)
def c_LadderAdds : EB × List QOp × Nat := ((hid b_LadderAdds_29), [(.mov (.t 4))], 54)
theorem k_LadderAdds : cfun Tryd.prog 5 = some c_LadderAdds := by kernel_rfl


set_option maxHeartbeats 4000000 in
theorem LadderAdds_ok (l : Lad) (h : List UInt8) (hl : l.ok) (h32 : h.length = 32) : ECalls Tryd.prog 5 [LV l, HV h] [] fun y H' => H' = [] ∧ y = .lit (.bool true) := by
  have t32 : List.take 32 h = h := List.take_of_length_le (by omega)
  have hcn : hc [] = [] := rfl
  have ht32 : List.take 32 (hc h) = hc h := List.take_of_length_le (by rw [hc_len]; omega)
  refine ecalls k_LadderAdds ?_
  simp [c_LadderAdds, LV, ladC, HV, h32, t32, ht32, -errV_0]
  by_cases h60 : 60 < l.steps.length
  · have h60' : (60 : Int) < (l.steps.length : Int) := by omega
    simp [h60, h60']
    refine call0 sure_ok (by simp) ?_
    rintro y H' ⟨rfl, rfl⟩
    refine ⟨.inl (by simp), le_ok rfl, ?_⟩
    simp
    exact fin [] (by decide) rfl rfl rfl ⟨rfl, rfl⟩
  have h60' : ¬ (60 : Int) < (l.steps.length : Int) := by omega
  have hA := LAdd_ok l h hl h32 (by omega)
  have hR := RAdd_ok l h hl h32 (by omega)
  obtain ⟨q, hq⟩ : ∃ q, addL l h = q := ⟨_, rfl⟩
  have hqo := addL_okq (h := h) hl h32 (by omega)
  rw [hq] at hA hR hqo
  obtain ⟨t, e⟩ := q
  dsimp only at hqo
  simp [h60, h60', -errV_0]
  refine call0 (give_ok l hl (by omega)) (by simp [LV, ladC]) ?_
  rintro y H' ⟨rfl, rfl⟩
  refine ⟨.inl (by simp [LV, ladC]), le_ok rfl, ?_⟩
  simp [LV, ladC, HV, h32, t32, ht32, -errV_0]
  refine call0 hA (by simp [LV, ladC, HV]) ?_
  rintro y H' ⟨rfl, rfl⟩
  refine ⟨.inl (by simp [LAE, ladC]), le_ok rfl, ?_⟩
  simp [LAE, LV, ladC, HV, h32, t32, ht32, -errV_0]
  refine call0 hR (by simp [LV, ladC, HV]) ?_
  rintro y H' ⟨rfl, rfl⟩
  refine ⟨.inl (by simp [RAE, ladC]), le_ok rfl, ?_⟩
  simp [RAE, LV, ladC, -errV_0]
  refine call0 (LCheck_ok l hl) (by simp [LV, ladC]) ?_
  rintro y H' ⟨rfl, rfl⟩
  refine ⟨.inl (by simp), le_ok rfl, ?_⟩
  have hrm := RMay_ok l hl
  have hs1 := same_ok t hqo
  have hs2 := same_ok l hl
  cases hB : mayB l with
  | true =>
    rw [hB] at hrm
    simp [LV, ladC, -errV_0]
    refine call0 hrm (by simp [LV, ladC]) ?_
    rintro y H' ⟨rfl, rfl⟩
    refine ⟨.inl (by simp), le_ok rfl, ?_⟩
    simp [LV, ladC]
    refine call0 hs1 (by simp [LV, ladC]) ?_
    rintro y H' ⟨rfl, rfl⟩
    refine ⟨.inl (by simp), le_ok rfl, ?_⟩
    simp [LV, ladC]
    refine call0 (num_e e) (by simp) ?_
    rintro y H' ⟨rfl, rfl⟩
    refine ⟨.inl (by simp [NV]), le_ok rfl, ?_⟩
    simp [NV, LV, ladC]
    refine call0 hs2 (by simp [LV, ladC]) ?_
    rintro y H' ⟨rfl, rfl⟩
    refine ⟨.inl (by simp), le_ok rfl, ?_⟩
    simp
    refine call0 sure_ok (by simp) ?_
    rintro y H' ⟨rfl, rfl⟩
    refine ⟨.inl (by simp), le_ok rfl, ?_⟩
    simp
    exact fin [] (by decide) rfl rfl rfl ⟨rfl, rfl⟩
  | false =>
    rw [hB] at hrm
    simp [LV, ladC, -errV_0]
    refine call0 hrm (by simp [LV, ladC]) ?_
    rintro y H' ⟨rfl, rfl⟩
    refine ⟨.inl (by simp), le_ok rfl, ?_⟩
    simp [LV, ladC]
    refine call0 hs1 (by simp [LV, ladC]) ?_
    rintro y H' ⟨rfl, rfl⟩
    refine ⟨.inl (by simp), le_ok rfl, ?_⟩
    simp [LV, ladC]
    refine call0 (num_e e) (by simp) ?_
    rintro y H' ⟨rfl, rfl⟩
    refine ⟨.inl (by simp [NV]), le_ok rfl, ?_⟩
    simp [NV, LV, ladC]
    refine call0 hs2 (by simp [LV, ladC]) ?_
    rintro y H' ⟨rfl, rfl⟩
    refine ⟨.inl (by simp), le_ok rfl, ?_⟩
    simp
    refine call0 sure_ok (by simp) ?_
    rintro y H' ⟨rfl, rfl⟩
    refine ⟨.inl (by simp), le_ok rfl, ?_⟩
    simp
    exact fin [] (by decide) rfl rfl rfl ⟨rfl, rfl⟩

end Go.Proofs.YtdeeophiffchjaaDoor
