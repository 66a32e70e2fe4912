import Derived.Test.YtbbcofojjgofmaaEnc4
namespace Go.Proofs.Ytbbcofojjgofmaa
open Go Go.EW
set_option linter.unusedSimpArgs false

@[simp] def l_EncLays_1 (_ : Unit) : List EOp := [⟨0, (some 2), none, (.q (.mov (.k (.bool false)))), []⟩]
@[simp] def b_EncLays_2 (_ : Unit) : EB := reg0 (hid l_EncLays_1) 1
@[simp] def l_EncLays_3 (_ : Unit) : List EOp := [⟨0, (some 3), none, (.q (.mov (.k (.pointer none)))), []⟩]
@[simp] def b_EncLays_4 (_ : Unit) : EB := reg0 (hid l_EncLays_3) 1
@[simp] def l_EncLays_5 (_ : Unit) : List EOp := [⟨0, (some 7), none, (.call 6 []), []⟩, ⟨1, (some 4), none, (.q (.mov (.t 7))), []⟩]
@[simp] def b_EncLays_6 (_ : Unit) : EB := reg0 (hid l_EncLays_5) 2
@[simp] def l_EncLays_7 (_ : Unit) : List EOp := [⟨0, (some 5), none, (.q (.mov (.k (.slice none 0 0)))), []⟩]
@[simp] def b_EncLays_8 (_ : Unit) : EB := reg0 (hid l_EncLays_7) 1
@[simp] def l_EncLays_9 (_ : Unit) : List EOp := [⟨0, (some 6), none, (.q (.mov (.k (.int .i64 0)))), []⟩]
@[simp] def b_EncLays_10 (_ : Unit) : EB := reg0 (hid l_EncLays_9) 1
@[simp] def l_EncLays_12 (_ : Unit) : List EOp := [⟨6, (some 14), (some (12, true)), (.q (.bin .lss (.t 13) (.k (.int .i64 200)))), []⟩, ⟨7, (some 15), none, (.q (.pick (.t 12) (.t 14) (.k (.bool false)))), []⟩]
@[simp] def l_EncLays_11 (_ : Unit) : List EOp := ⟨0, (some 8), none, (.q (.mov (.t 6))), []⟩ :: ⟨1, (some 9), none, (.q (.mov (.t 0))), []⟩ :: ⟨2, (some 10), none, (.q (.len (.t 9))), []⟩ :: ⟨3, (some 11), none, (.q (.bin .lss (.t 8) (.t 10))), []⟩ :: ⟨4, (some 12), none, (.q (.mov (.t 11))), []⟩ :: ⟨5, (some 13), (some (12, true)), (.q (.mov (.t 6))), []⟩ :: hid l_EncLays_12
@[simp] def b_EncLays_13 (_ : Unit) : EB := reg0 (hid l_EncLays_11) 8
@[simp] def b_EncLays_14 (_ : Unit) : EB := .cond (.t 15) .skip (.exit 0)
@[simp] def b_EncLays_15 (_ : Unit) : EB := .seq (hid b_EncLays_13) (hid b_EncLays_14)
@[simp] def l_EncLays_17 (_ : Unit) : List EOp := [⟨6, (some 4), none, (.q (.mov (.t 23))), []⟩]
@[simp] def l_EncLays_16 (_ : Unit) : List EOp := ⟨0, (some 18), none, (.q (.mov (.t 4))), []⟩ :: ⟨1, (some 19), none, (.q (.mov (.t 0))), []⟩ :: ⟨2, (some 20), none, (.q (.mov (.t 6))), []⟩ :: ⟨3, (some 21), none, (.q (.isl 35 (.t 19) (.t 20))), []⟩ :: ⟨4, (some 22), none, (.q (.lda 35 (.t 21))), []⟩ :: ⟨5, (some 23), none, (.call 7 [(.t 18), (.t 22)]), []⟩ :: hid l_EncLays_17
@[simp] def b_EncLays_18 (_ : Unit) : EB := reg0 (hid l_EncLays_16) 7
@[simp] def l_EncLays_20 (_ : Unit) : List EOp := [⟨6, (some 5), none, (.q (.mov (.t 29))), []⟩]
@[simp] def l_EncLays_19 (_ : Unit) : List EOp := ⟨0, (some 24), none, (.q (.mov (.t 5))), []⟩ :: ⟨1, (some 25), none, (.q (.mov (.t 0))), []⟩ :: ⟨2, (some 26), none, (.q (.mov (.t 6))), []⟩ :: ⟨3, (some 27), none, (.q (.isl 35 (.t 25) (.t 26))), []⟩ :: ⟨4, (some 28), none, (.q (.lda 35 (.t 27))), []⟩ :: ⟨5, (some 29), none, (.call 8 [(.t 24), (.t 28)]), []⟩ :: hid l_EncLays_20
@[simp] def b_EncLays_21 (_ : Unit) : EB := reg0 (hid l_EncLays_19) 7
@[simp] def l_EncLays_23 (_ : Unit) : List EOp := [⟨6, (some 36), none, (.q (.eqp true (.t 35))), []⟩]
@[simp] def l_EncLays_22 (_ : Unit) : List EOp := ⟨0, (some 30), none, (.q (.mov (.t 3))), []⟩ :: ⟨1, (some 31), none, (.q (.mov (.t 0))), []⟩ :: ⟨2, (some 32), none, (.q (.mov (.t 6))), []⟩ :: ⟨3, (some 33), none, (.q (.isl 35 (.t 31) (.t 32))), []⟩ :: ⟨4, (some 34), none, (.q (.lda 35 (.t 33))), []⟩ :: ⟨5, (some 35), none, (.call 7 [(.t 30), (.t 34)]), []⟩ :: hid l_EncLays_23
@[simp] def b_EncLays_24 (_ : Unit) : EB := reg0 (hid l_EncLays_22) 7
@[simp] def l_EncLays_25 (_ : Unit) : List EOp := [⟨0, (some 2), none, (.q (.mov (.k (.bool false)))), []⟩]
@[simp] def b_EncLays_26 (_ : Unit) : EB := reg0 (hid l_EncLays_25) 1
@[simp] def b_EncLays_27 (_ : Unit) : EB := .seq (hid b_EncLays_26) .ret
@[simp] def b_EncLays_28 (_ : Unit) : EB := .cond (.t 36) (hid b_EncLays_27) .skip
@[simp] def b_EncLays_29 (_ : Unit) : EB := .seq (hid b_EncLays_24) (hid b_EncLays_28)
@[simp] def b_EncLays_30 (_ : Unit) : EB := .seq (hid b_EncLays_21) (hid b_EncLays_29)
@[simp] def b_EncLays_31 (_ : Unit) : EB := .seq (hid b_EncLays_18) (hid b_EncLays_30)
@[simp] def b_EncLays_32 (_ : Unit) : EB := .block 1 (hid b_EncLays_31)
@[simp] def l_EncLays_33 (_ : Unit) : List EOp := [⟨0, (some 16), none, (.q (.mov (.t 6))), []⟩, ⟨1, (some 17), none, (.q (.bin .add (.t 16) (.k (.int .i64 1)))), []⟩, ⟨2, (some 6), none, (.q (.mov (.t 17))), []⟩]
@[simp] def b_EncLays_34 (_ : Unit) : EB := reg0 (hid l_EncLays_33) 3
@[simp] def b_EncLays_35 (_ : Unit) : EB := .seq (hid b_EncLays_32) (hid b_EncLays_34)
@[simp] def b_EncLays_36 (_ : Unit) : EB := .seq (hid b_EncLays_15) (hid b_EncLays_35)
@[simp] def b_EncLays_37 (_ : Unit) : EB := .loop (hid b_EncLays_36)
@[simp] def b_EncLays_38 (_ : Unit) : EB := .block 0 (hid b_EncLays_37)
@[simp] def b_EncLays_39 (_ : Unit) : EB := .seq (hid b_EncLays_10) (hid b_EncLays_38)
@[simp] def l_EncLays_42 (_ : Unit) : List EOp := [⟨12, (some 49), none, (.q (.mov (.t 48))), []⟩, ⟨13, (some 50), (some (49, true)), (.call 10 []), []⟩, ⟨14, (some 51), none, (.q (.pick (.t 49) (.t 50) (.k (.bool false)))), []⟩, ⟨15, (some 2), none, (.q (.mov (.t 51))), []⟩]
@[simp] def l_EncLays_41 (_ : Unit) : List EOp := ⟨6, (some 43), none, (.q (.mov (.t 42))), []⟩ :: ⟨7, (some 44), (some (43, true)), (.q (.mov (.t 3))), []⟩ :: ⟨8, (some 45), (some (43, true)), (.call 9 [(.t 44)]), []⟩ :: ⟨9, (some 46), (some (43, true)), (.q (.len (.t 45))), []⟩ :: ⟨10, (some 47), (some (43, true)), (.q (.bin .eql (.t 46) (.k (.int .i64 0)))), []⟩ :: ⟨11, (some 48), none, (.q (.pick (.t 43) (.t 47) (.k (.bool false)))), []⟩ :: hid l_EncLays_42
@[simp] def l_EncLays_40 (_ : Unit) : List EOp := ⟨0, (some 37), none, (.q (.mov (.t 4))), []⟩ :: ⟨3, (some 40), none, (.q (.mov (.t 5))), []⟩ :: ⟨4, (some 41), none, (.q (.b2s (.t 40))), []⟩ :: ⟨1, (some 38), none, (.call 9 [(.t 37)]), [3, 4]⟩ :: ⟨2, (some 39), none, (.q (.b2s (.t 38))), []⟩ :: ⟨5, (some 42), none, (.q (.bin .eql (.t 39) (.t 41))), []⟩ :: hid l_EncLays_41
@[simp] def b_EncLays_43 (_ : Unit) : EB := reg1 (hid l_EncLays_40) 16
@[simp] def b_EncLays_44 (_ : Unit) : EB := .seq (hid b_EncLays_43) .ret
@[simp] def b_EncLays_45 (_ : Unit) : EB := .seq (hid b_EncLays_39) (hid b_EncLays_44)
@[simp] def b_EncLays_46 (_ : Unit) : EB := .seq (hid b_EncLays_8) (hid b_EncLays_45)
@[simp] def b_EncLays_47 (_ : Unit) : EB := .seq (hid b_EncLays_6) (hid b_EncLays_46)
@[simp] def b_EncLays_48 (_ : Unit) : EB := .seq (hid b_EncLays_4) (hid b_EncLays_47)
@[simp] def b_EncLays_49 (_ : Unit) : EB := .seq (hid b_EncLays_2) (hid b_EncLays_48)
def c_EncLays : EB × List QOp × Nat := ((hid b_EncLays_49), [(.mov (.t 2))], 52)
theorem k_EncLays : cfun Try.prog 3 = some c_EncLays := by kernel_rfl


def thF (x : Th) : List FV := .lit (.int .i64 x.kind) :: .lit (.int .i64 x.n) :: .sl 1 (bsv x.b) :: hf x.h
/-- Things, as they are handed in. -/
def Ths (l : List Th) : EV := .v (.c (.fz (.sl 35 (l.map thF))))
def laysB (l : List Th) : List UInt8 := l.flatMap layB
theorem lays_snoc (l : List Th) (x : Th) : laysB (l ++ [x]) = laysB l ++ layB x := by simp [laysB]
theorem uintB_len {n : Nat} (h : n < 18446744073709551616) : (uintB n).length ≤ 9 := by have := nb_8 h; simp [uintB, dg_len]; omega
theorem intB_len {n : Int} (h0 : -9223372036854775808 ≤ n) (h1 : n ≤ 9223372036854775807) : (intB n).length ≤ 9 := by
  unfold intB
  split
  · have := nb_8 (show (-n - 1).toNat < 18446744073709551616 by omega)
    rw [List.length_cons, List.length_map, dg_len]; omega
  · have := nb_8 (show n.toNat < 18446744073709551616 by omega); simp [dg_len]; omega
theorem layB_len {x : Th} (hx : x.ok) : (layB x).length ≤ 40 + 2 * x.b.length := by
  obtain ⟨h1, h2, h3, h4, h5, h6⟩ := hx
  unfold layB
  split
  · have := uintB_len (u64n_lt x.n); omega
  · split
    · have := intB_len h3 h4; omega
    · split
      · have := stuff_len x.b; simp [bytesB]; omega
      · omega
def bulk : List Th → Nat
  | [] => 0
  | x :: r => 40 + 2 * x.b.length + bulk r
theorem lays_len : ∀ (l : List Th) (_ : ∀ x ∈ l, x.ok), (laysB l).length ≤ bulk l
  | [], _ => by simp [laysB, bulk]
  | x :: r, h => by
    have h1 := layB_len (h x (by simp))
    have h2 := lays_len r (fun y hy => h y (by simp [hy]))
    have : laysB (x :: r) = layB x ++ laysB r := by simp [laysB]
    rw [this, List.length_append, bulk]
    omega
theorem bulk_take (l : List Th) (n : Nat) : bulk (l.take n) ≤ bulk l := by
  induction l generalizing n with
  | nil => simp [bulk]
  | cons x r ih => cases n with
    | zero => simp [bulk]
    | succ n => have := ih n; simp [bulk]; omega

theorem thF_len {x : Th} (hx : x.ok) : (thF x).length = 35 := by have := hx.2.2.2.2.2; simp [thF, this]
theorem thF_take {x : Th} (hx : x.ok) : List.take 35 (List.map EC.fz (thF x)) = thC x := by
  rw [List.take_of_length_le (by simp [thF_len hx])]
  simp [thF, thC]

set_option maxHeartbeats 2000000 in
theorem EncLays_ok (l : List Th) (hl : ∀ x ∈ l, x.ok) (hb : bulk (l.take 200) ≤ 800000000) :
    ECalls Try.prog 3 [Ths l] [] fun y H' => H' = [] ∧ y = .lit (.bool true) := by
  refine ecalls k_EncLays ?_
  simp [c_EncLays, Ths]
  refine call0 New_ok rfl ?_
  rintro y H' ⟨rfl, rfl⟩
  refine ⟨.inl rfl, le_ok rfl, ?_⟩
  simp [Ptr, WO, RO]
  refine loopW _ (weak_nilR 5 5 1 rfl (by omega)) ?_
  refine eloop (α := Nat) (fun i => i ≤ l.length ∧ i ≤ 200) (fun i => 200 - i)
    (fun i => [Ths l, .any, .any, NP, Ptr 0, R 2 (laysB (l.take i)), I .i64 i, .any, .any, .any, .any, .any, .any, .any, .any, .any, .any, .any, .any, .any, .any, .any, .any, .any, .any, .any, .any, .any, .any, .any, .any, .any, .any, .any, .any, .any, .any, .any, .any, .any, .any, .any, .any, .any, .any, .any, .any, .any, .any, .any, .any, .any]) (fun i => [some (WO 1 (laysB (l.take i))), some (RO (laysB (l.take i))), some (RO (laysB (l.take i)))]) 0 [32, 33, 96]
    (by simp) (by simp [Ths, NP, Ptr, R, I, laysB]) (by simp [WO, RO, laysB]) (by simp) (by simp) (by simp) ?_
  rintro i ⟨hi, hi2⟩
  by_cases hr : i < l.length ∧ (i : Int) < 200
  · obtain ⟨hp, hq⟩ := hr
    obtain ⟨x, hx⟩ : ∃ x, l[i]? = some x := ⟨l[i], by simp [hp]⟩
    have hxo := hl x (List.mem_of_getElem? hx)
    have hts : l.take (i + 1) = l.take i ++ [x] := by rw [List.take_add_one, hx]; rfl
    have hxe : l[i] = x := by rw [List.getElem?_eq_getElem hp] at hx; exact Option.some.inj hx
    have e1 := thF_len hxo
    have e2 := thF_take hxo
    have hlb : (laysB (l.take i)).length ≤ 800000000 := by
      have h1 := lays_len (l.take i) (fun y hy => hl y (List.mem_of_mem_take hy))
      have h2 := bulk_take (l.take 200) i
      rw [List.take_take, show min i 200 = i by omega] at h2
      omega
    simp [Ths, NP, Ptr, R, I, WO, RO, hp, hq, hxe, e1, e2]
    refine callH [0, 1] (lay_ok (laysB (l.take i)) x hxo (by omega)) (by simp [Ptr, thC]) (by simp [WO, RO]) (by simp) (by simp) (by simp) ?_
    rintro y H' ⟨rfl, rfl⟩
    refine ⟨.inl (by simp [thC]), le_ok rfl, ?_⟩
    simp [hxe, e1, e2, hp, Ptr, WO, RO]
    refine call0 (laid_ok (laysB (l.take i)) x hxo (by omega)) (by simp [Bs, thC]) ?_
    rintro y H' ⟨rfl, rfl⟩
    refine ⟨.inr ⟨rfl, by simp [RO, bsv, cb]⟩, le_ok rfl, ?_⟩
    simp [hxe, e1, e2, hp, R, RO]
    refine call0 (lay_nil x hxo) (by simp [NP, thC]) ?_
    rintro y H' ⟨rfl, rfl⟩
    refine ⟨.inl (by simp [thC]), le_ok rfl, ?_⟩
    have w1 : IntKind.i64.wrap ((i : Int) + 1) = ((i + 1 : Nat) : Int) := wrap_i64 (by omega) (by omega)
    simp [NP, w1, -Int.natCast_add]
    have hls : laysB (l.take (i + 1)) = laysB (l.take i) ++ layB x := by rw [hts, lays_snoc]
    exact round (i + 1) [0, 211, 323] ⟨by omega, by omega⟩ (by omega) (by simp [hls]) (by simp [hls]) (by simp) (by simp) (by simp)
  · have hd : ¬ (i < l.length) ∨ i < l.length ∧ ¬ ((i : Int) < 200) := by omega
    have hlb : (laysB (l.take i)).length ≤ 800000000 := by
      have h1 := lays_len (l.take i) (fun y hy => hl y (List.mem_of_mem_take hy))
      have h2 := bulk_take (l.take 200) i
      rw [List.take_take, show min i 200 = i by omega] at h2
      omega
    rcases hd with hd | ⟨hp, hq⟩
    · simp [Ths, NP, Ptr, R, I, WO, RO, hd]
      refine callH [0, 1] (WDone_ok (laysB (l.take i)) (by omega)) (by simp [Ptr]) (by simp [WO, RO]) (by simp) (by simp) (by simp [Wok]) ?_
      rintro y H' ⟨rfl, rfl⟩
      refine ⟨.inl (by simp), le_ok rfl, ?_⟩
      simp [R, RO, WO]
      refine call0 WDone_nil rfl ?_
      rintro y H' ⟨rfl, rfl⟩
      refine ⟨.inl rfl, le_ok rfl, ?_⟩
      simp
      refine call0 sure_ok rfl ?_
      rintro y H' ⟨rfl, rfl⟩
      refine ⟨.inl rfl, le_ok rfl, ?_⟩
      simp
      exact fin [] (by decide) rfl rfl rfl ⟨rfl, rfl⟩
    · simp [Ths, NP, Ptr, R, I, WO, RO, hp, hq]
      refine callH [0, 1] (WDone_ok (laysB (l.take i)) (by omega)) (by simp [Ptr]) (by simp [WO, RO]) (by simp) (by simp) (by simp [Wok]) ?_
      rintro y H' ⟨rfl, rfl⟩
      refine ⟨.inl (by simp), le_ok rfl, ?_⟩
      simp [R, RO, WO]
      refine call0 WDone_nil rfl ?_
      rintro y H' ⟨rfl, rfl⟩
      refine ⟨.inl rfl, le_ok rfl, ?_⟩
      simp
      refine call0 sure_ok rfl ?_
      rintro y H' ⟨rfl, rfl⟩
      refine ⟨.inl rfl, le_ok rfl, ?_⟩
      simp
      exact fin [] (by decide) rfl rfl rfl ⟨rfl, rfl⟩

end Go.Proofs.Ytbbcofojjgofmaa
