import Derived.Test.YtdeeophiffchjaaDoorAll10
import Derived.Test.YtdeeophiffchjaaDoorAll11
namespace Go.Proofs.YtdeeophiffchjaaDoor
open Go Go.EW
set_option linter.unusedSimpArgs false
set_option linter.unusedVariables false

@[simp] def l_LadderMakes_1 (_ : Unit) : List EOp := [⟨0, (some 2), none, (.q (.box 35 (.t 0))), []⟩, ⟨1, (some 4), none, (.q (.mov (.k (.bool false)))), []⟩]
@[simp] def b_LadderMakes_2 (_ : Unit) : EB := reg0 (hid l_LadderMakes_1) 2
@[simp] def l_LadderMakes_4 (_ : Unit) : List EOp := [⟨6, (some 5), none, (.q (.alloc 35 zU8)), []⟩, ⟨7, none, none, (.sto 32 (.t 5) (.t 13)), []⟩, ⟨8, (some 6), none, (.q (.mov (.t 14))), []⟩]
@[simp] def l_LadderMakes_3 (_ : Unit) : List EOp := ⟨0, (some 10), none, (.q (.lda 32 (.t 2))), []⟩ :: ⟨1, (some 11), none, (.q (.mov (.t 1))), []⟩ :: ⟨2, (some 12), none, (.call 11 [(.t 10), (.t 11)]), []⟩ :: ⟨3, (some 9), none, (.q (.mov (.t 12))), []⟩ :: ⟨4, (some 13), none, (.q (.ext 0 (.t 9))), []⟩ :: ⟨5, (some 14), none, (.q (.ext 1 (.t 9))), []⟩ :: hid l_LadderMakes_4
@[simp] def b_LadderMakes_5 (_ : Unit) : EB := reg0 (hid l_LadderMakes_3) 9
@[simp] def l_LadderMakes_7 (_ : Unit) : List EOp := [⟨6, (some 7), none, (.q (.alloc 35 zU8)), []⟩, ⟨7, none, none, (.sto 32 (.t 7) (.t 19)), []⟩, ⟨8, (some 8), none, (.q (.mov (.t 20))), []⟩]
@[simp] def l_LadderMakes_6 (_ : Unit) : List EOp := ⟨0, (some 16), none, (.q (.lda 32 (.t 2))), []⟩ :: ⟨1, (some 17), none, (.q (.mov (.t 1))), []⟩ :: ⟨2, (some 18), none, (.call 12 [(.t 16), (.t 17)]), []⟩ :: ⟨3, (some 15), none, (.q (.mov (.t 18))), []⟩ :: ⟨4, (some 19), none, (.q (.ext 0 (.t 15))), []⟩ :: ⟨5, (some 20), none, (.q (.ext 1 (.t 15))), []⟩ :: hid l_LadderMakes_7
@[simp] def b_LadderMakes_8 (_ : Unit) : EB := reg0 (hid l_LadderMakes_6) 9
@[simp] def l_LadderMakes_11 (_ : Unit) : List EOp := [⟨12, (some 4), none, (.q (.mov (.t 32))), []⟩]
@[simp] def l_LadderMakes_10 (_ : Unit) : List EOp := ⟨6, (some 27), (some (24, true)), (.q (.mov (.t 8))), []⟩ :: ⟨7, (some 28), (some (24, true)), (.q (.bin .eql (.t 26) (.t 27))), []⟩ :: ⟨8, (some 29), none, (.q (.pick (.t 24) (.t 28) (.k (.bool false)))), []⟩ :: ⟨9, (some 30), none, (.q (.mov (.t 29))), []⟩ :: ⟨10, (some 31), (some (30, true)), (.call 7 []), []⟩ :: ⟨11, (some 32), none, (.q (.pick (.t 30) (.t 31) (.k (.bool false)))), []⟩ :: hid l_LadderMakes_11
@[simp] def l_LadderMakes_9 (_ : Unit) : List EOp := ⟨0, (some 21), none, (.q (.lda 32 (.t 5))), []⟩ :: ⟨1, (some 22), none, (.q (.lda 32 (.t 7))), []⟩ :: ⟨2, (some 23), none, (.q (.eqa false 32 .u8 (.t 21) (.t 22))), []⟩ :: ⟨3, (some 24), none, (.q (.mov (.t 23))), []⟩ :: ⟨4, (some 25), (some (24, true)), (.q (.mov (.t 6))), []⟩ :: ⟨5, (some 26), (some (24, true)), (.call 13 [(.t 25)]), []⟩ :: hid l_LadderMakes_10
@[simp] def b_LadderMakes_12 (_ : Unit) : EB := reg0 (hid l_LadderMakes_9) 13
@[simp] def b_LadderMakes_13 (_ : Unit) : EB := .seq (hid b_LadderMakes_12) .ret
@[simp] def b_LadderMakes_14 (_ : Unit) : EB := .seq (hid b_LadderMakes_8) (hid b_LadderMakes_13)
@[simp] def b_LadderMakes_15 (_ : Unit) : EB := .seq (hid b_LadderMakes_5) (hid b_LadderMakes_14)
@[simp] def b_LadderMakes_16 (_ : Unit) : EB := .seq (hid b_LadderMakes_2) (hid b_LadderMakes_15)
def c_LadderMakes : EB × List QOp × Nat := ((hid b_LadderMakes_16), [(.mov (.t 4))], 33)
theorem k_LadderMakes : cfun Tryd.prog 4 = some c_LadderMakes := by kernel_rfl

@[simp] def l_LadderGets_1 (_ : Unit) : List EOp := [⟨0, (some 2), none, (.q (.box 24 (.t 0))), []⟩, ⟨1, (some 4), none, (.q (.mov (.k (.bool false)))), []⟩]
@[simp] def b_LadderGets_2 (_ : Unit) : EB := reg0 (hid l_LadderGets_1) 2
@[simp] def l_LadderGets_3 (_ : Unit) : List EOp := [⟨0, (some 9), none, (.q (.fad 1 (.t 2))), []⟩, ⟨1, (some 10), none, (.q (.ldc (.t 9))), []⟩, ⟨2, (some 11), none, (.q (.len (.t 10))), []⟩, ⟨3, (some 12), none, (.q (.bin .gtr (.t 11) (.k (.int .i64 60)))), []⟩]
@[simp] def b_LadderGets_4 (_ : Unit) : EB := reg0 (hid l_LadderGets_3) 4
@[simp] def l_LadderGets_5 (_ : Unit) : List EOp := [⟨0, (some 13), none, (.call 7 []), []⟩, ⟨1, (some 4), none, (.q (.mov (.t 13))), []⟩]
@[simp] def b_LadderGets_6 (_ : Unit) : EB := reg0 (hid l_LadderGets_5) 2
@[simp] def b_LadderGets_7 (_ : Unit) : EB := .seq (hid b_LadderGets_6) .ret
@[simp] def b_LadderGets_8 (_ : Unit) : EB := .cond (.t 12) (hid b_LadderGets_7) .skip
@[simp] def b_LadderGets_9 (_ : Unit) : EB := .seq (hid b_LadderGets_4) (hid b_LadderGets_8)
@[simp] def l_LadderGets_11 (_ : Unit) : List EOp := [⟨6, (some 20), none, (.q (.ext 1 (.t 14))), []⟩, ⟨7, (some 5), none, (.q (.alloc 35 zU8)), []⟩, ⟨8, none, none, (.sto 32 (.t 5) (.t 19)), []⟩, ⟨9, (some 6), none, (.q (.mov (.t 20))), []⟩]
@[simp] def l_LadderGets_10 (_ : Unit) : List EOp := ⟨0, (some 15), none, (.q (.lda 2 (.t 2))), []⟩ :: ⟨1, (some 16), none, (.call 9 [(.t 15)]), []⟩ :: ⟨2, (some 17), none, (.q (.mov (.t 1))), []⟩ :: ⟨3, (some 18), none, (.call 17 [(.t 16), (.t 17)]), []⟩ :: ⟨4, (some 14), none, (.q (.mov (.t 18))), []⟩ :: ⟨5, (some 19), none, (.q (.ext 0 (.t 14))), []⟩ :: hid l_LadderGets_11
@[simp] def b_LadderGets_12 (_ : Unit) : EB := reg0 (hid l_LadderGets_10) 10
@[simp] def l_LadderGets_14 (_ : Unit) : List EOp := [⟨6, (some 7), none, (.q (.alloc 35 zU8)), []⟩, ⟨7, none, none, (.sto 32 (.t 7) (.t 25)), []⟩, ⟨8, (some 8), none, (.q (.mov (.t 26))), []⟩]
@[simp] def l_LadderGets_13 (_ : Unit) : List EOp := ⟨0, (some 22), none, (.q (.lda 2 (.t 2))), []⟩ :: ⟨1, (some 23), none, (.q (.mov (.t 1))), []⟩ :: ⟨2, (some 24), none, (.call 18 [(.t 22), (.t 23)]), []⟩ :: ⟨3, (some 21), none, (.q (.mov (.t 24))), []⟩ :: ⟨4, (some 25), none, (.q (.ext 0 (.t 21))), []⟩ :: ⟨5, (some 26), none, (.q (.ext 1 (.t 21))), []⟩ :: hid l_LadderGets_14
@[simp] def b_LadderGets_15 (_ : Unit) : EB := reg0 (hid l_LadderGets_13) 9
@[simp] def l_LadderGets_18 (_ : Unit) : List EOp := [⟨12, (some 4), none, (.q (.mov (.t 38))), []⟩]
@[simp] def l_LadderGets_17 (_ : Unit) : List EOp := ⟨6, (some 33), (some (30, true)), (.q (.mov (.t 8))), []⟩ :: ⟨7, (some 34), (some (30, true)), (.q (.bin .eql (.t 32) (.t 33))), []⟩ :: ⟨8, (some 35), none, (.q (.pick (.t 30) (.t 34) (.k (.bool false)))), []⟩ :: ⟨9, (some 36), none, (.q (.mov (.t 35))), []⟩ :: ⟨10, (some 37), (some (36, true)), (.call 7 []), []⟩ :: ⟨11, (some 38), none, (.q (.pick (.t 36) (.t 37) (.k (.bool false)))), []⟩ :: hid l_LadderGets_18
@[simp] def l_LadderGets_16 (_ : Unit) : List EOp := ⟨0, (some 27), none, (.q (.lda 32 (.t 5))), []⟩ :: ⟨1, (some 28), none, (.q (.lda 32 (.t 7))), []⟩ :: ⟨2, (some 29), none, (.q (.eqa false 32 .u8 (.t 27) (.t 28))), []⟩ :: ⟨3, (some 30), none, (.q (.mov (.t 29))), []⟩ :: ⟨4, (some 31), (some (30, true)), (.q (.mov (.t 6))), []⟩ :: ⟨5, (some 32), (some (30, true)), (.call 13 [(.t 31)]), []⟩ :: hid l_LadderGets_17
@[simp] def b_LadderGets_19 (_ : Unit) : EB := reg0 (hid l_LadderGets_16) 13
@[simp] def b_LadderGets_20 (_ : Unit) : EB := .seq (hid b_LadderGets_19) .ret
@[simp] def b_LadderGets_21 (_ : Unit) : EB := .seq (hid b_LadderGets_15) (hid b_LadderGets_20)
@[simp] def b_LadderGets_22 (_ : Unit) : EB := .seq (hid b_LadderGets_12) (hid b_LadderGets_21)
@[simp] def b_LadderGets_23 (_ : Unit) : EB := .seq (hid b_LadderGets_9) (hid b_LadderGets_22)
@[simp] def b_LadderGets_24 (_ : Unit) : EB := .seq (hid b_LadderGets_2) (hid b_LadderGets_23)
def c_LadderGets : EB × List QOp × Nat := ((hid b_LadderGets_24), [(.mov (.t 4))], 39)
theorem k_LadderGets : cfun Tryd.prog 6 = some c_LadderGets := by kernel_rfl


theorem num_e (e : Nat) : ECalls Tryd.prog 13 [.lit (errV e)] [] fun y H' => H' = [] ∧ y = NV e := by
  have h := num_ok (e : Int)
  have e1 : EN (e : Int) = .lit (errV e) := by
    unfold EN errV
    by_cases h : e = 0
    · subst h; rfl
    · rw [if_neg (by omega), if_neg h]
  rw [e1] at h
  exact h
theorem makS_len {h : List UInt8} (n : Int) (h32 : h.length = 32) : (makS h n).1.length = 32 := by
  unfold makS
  split
  · rfl
  · exact clS_len _ _ _ h32
theorem getA_len {n : Nat} : ∀ {l : List Stp} {h : List UInt8}, (∀ s ∈ l, s.sec.length = 32) → getA n l = some h → h.length = 32
  | [], h, _, e => by simp [getA] at e
  | a :: r, h, hs, e => by
    unfold getA at e
    split at e
    · obtain rfl := Option.some.inj e
      unfold ofS
      exact clS_len _ _ _ (hs a List.mem_cons_self)
    · exact getA_len (fun s hs' => hs s (List.mem_cons_of_mem _ hs')) e
theorem getL_len {l : Lad} (n : Int) (hl : l.ok) : (getL l n).1.length = 32 := by
  unfold getL
  split
  · rfl
  split
  · rfl
  split
  · rfl
  split
  · rename_i h e
    exact getA_len (fun s hs => (hl.st s hs).2) e
  · rfl

set_option maxHeartbeats 4000000 in
theorem LadderMakes_ok (h : List UInt8) (n : Int) (h32 : h.length = 32) (hn : -9223372036854775808 ≤ n ∧ n ≤ 9223372036854775807) : ECalls Tryd.prog 4 [HV h, NV n] [] fun y H' => H' = [] ∧ y = .lit (.bool true) := by
  have ht32 : List.take 32 (hc h) = hc h := List.take_of_length_le (by rw [hc_len]; omega)
  have t32 : List.take 32 h = h := List.take_of_length_le (by omega)
  have hcn : hc [] = [] := rfl
  have h1 := LMake_ok h n h32 hn
  have h2 := RMake_ok h n h32 hn
  have hl := makS_len n h32
  obtain ⟨q, hq⟩ : ∃ q, makS h n = q := ⟨_, rfl⟩
  rw [hq] at h1 h2 hl
  obtain ⟨S, e⟩ := q
  dsimp only at h1 h2 hl
  have tS : List.take 32 S = S := List.take_of_length_le (by omega)
  refine ecalls k_LadderMakes ?_
  simp [c_LadderMakes, HV, NV, h32, t32, ht32, -errV_0]
  refine call0 h1 (by simp [HV, NV]) ?_
  rintro y H' ⟨rfl, rfl⟩
  refine ⟨.inl (by simp), le_ok rfl, ?_⟩
  simp [HV, NV, h32, t32, ht32, hl, tS, hcn, -errV_0]
  refine call0 h2 (by simp [HV, NV]) ?_
  rintro y H' ⟨rfl, rfl⟩
  refine ⟨.inl (by simp), le_ok rfl, ?_⟩
  simp [HV, NV, hl, tS, hcn, -errV_0]
  refine call0 (num_e e) (by simp) ?_
  rintro y H' ⟨rfl, rfl⟩
  refine ⟨.inl (by simp [NV]), le_ok rfl, ?_⟩
  simp [NV]
  refine call0 sure_ok (by simp) ?_
  rintro y H' ⟨rfl, rfl⟩
  refine ⟨.inl (by simp), le_ok rfl, ?_⟩
  simp
  exact fin [] (by decide) rfl rfl rfl ⟨rfl, rfl⟩

set_option maxHeartbeats 4000000 in
theorem LadderGets_ok (l : Lad) (n : Int) (hl : l.ok) (hn : -9223372036854775808 ≤ n ∧ n ≤ 9223372036854775807) : ECalls Tryd.prog 6 [LV l, NV n] [] fun y H' => H' = [] ∧ y = .lit (.bool true) := by
  have hcn : hc [] = [] := rfl
  have h1 := LGet_ok l n hl hn
  have h2 := RGet_ok l n hl hn
  have hlen := getL_len n hl
  obtain ⟨q, hq⟩ : ∃ q, getL l n = q := ⟨_, rfl⟩
  rw [hq] at h1 h2 hlen
  obtain ⟨S, e⟩ := q
  dsimp only at h1 h2 hlen
  have tS : List.take 32 S = S := List.take_of_length_le (by omega)
  refine ecalls k_LadderGets ?_
  simp [c_LadderGets, LV, ladC, NV, -errV_0]
  by_cases h60 : 60 < l.steps.length
  · have h60' : (60 : Int) < (l.steps.length : Int) := by omega
    simp [h60, h60']
    refine call0 sure_ok (by simp) ?_
    rintro y H' ⟨rfl, rfl⟩
    refine ⟨.inl (by simp), le_ok rfl, ?_⟩
    simp
    exact fin [] (by decide) rfl rfl rfl ⟨rfl, rfl⟩
  have h60' : ¬ (60 : Int) < (l.steps.length : Int) := by omega
  simp [h60, h60', -errV_0]
  refine call0 (give_ok l hl (by omega)) (by simp [LV, ladC]) ?_
  rintro y H' ⟨rfl, rfl⟩
  refine ⟨.inl (by simp [LV, ladC]), le_ok rfl, ?_⟩
  simp [LV, ladC, NV, -errV_0]
  refine call0 h1 (by simp [LV, ladC, NV]) ?_
  rintro y H' ⟨rfl, rfl⟩
  refine ⟨.inl (by simp [HE]), le_ok rfl, ?_⟩
  simp [HE, LV, ladC, NV, hlen, tS, hcn, -errV_0]
  refine call0 h2 (by simp [LV, ladC, NV]) ?_
  rintro y H' ⟨rfl, rfl⟩
  refine ⟨.inl (by simp [RHE]), le_ok rfl, ?_⟩
  simp [RHE, NV, hlen, tS, hcn, -errV_0]
  refine call0 (num_e e) (by simp) ?_
  rintro y H' ⟨rfl, rfl⟩
  refine ⟨.inl (by simp [NV]), le_ok rfl, ?_⟩
  simp [NV]
  refine call0 sure_ok (by simp) ?_
  rintro y H' ⟨rfl, rfl⟩
  refine ⟨.inl (by simp), le_ok rfl, ?_⟩
  simp
  exact fin [] (by decide) rfl rfl rfl ⟨rfl, rfl⟩

end Go.Proofs.YtdeeophiffchjaaDoor
