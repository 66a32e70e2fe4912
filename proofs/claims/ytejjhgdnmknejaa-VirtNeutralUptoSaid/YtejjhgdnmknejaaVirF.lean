import Derived.Test.YtejjhgdnmknejaaVirE
import Derived.Test.YtejjhgdnmknejaaStateO
import Derived.Test.YtejjhgdnmknejaaRbFz
namespace Go.Proofs.Ytejjhgdnmknejaa
open Go Go.EW
set_option linter.unusedSimpArgs false
set_option linter.unusedVariables false

@[simp] def l_VOpen_1 (_ : Unit) : List EOp := [⟨0, (some 4), none, (.q (.box 33 (.t 0))), []⟩, ⟨1, (some 6), none, (.q (.box 37 (.t 2))), []⟩, ⟨2, (some 7), none, (.q (.box 37 (.t 3))), []⟩, ⟨3, (some 8), none, (.q (.alloc 37 [(.int .i64 0), (.int .i64 0), (.int .i64 0), (.slice none 0 0), (.slice none 0 0)])), []⟩, ⟨4, (some 9), none, (.q (.alloc 37 [(.int .i64 0), (.int .i64 0), (.int .i64 0), (.slice none 0 0), (.slice none 0 0)])), []⟩, ⟨5, (some 10), none, (.q (.mov (.k .nilIface))), []⟩]
@[simp] def b_VOpen_2 (_ : Unit) : EB := reg0 (hid l_VOpen_1) 6
@[simp] def l_VOpen_3 (_ : Unit) : List EOp := [⟨0, (some 17), none, (.q (.lda 81 (.t 4))), []⟩, ⟨1, (some 18), none, (.call 10 [(.t 17)]), []⟩, ⟨2, (some 11), none, (.q (.mov (.t 18))), []⟩]
@[simp] def b_VOpen_4 (_ : Unit) : EB := reg0 (hid l_VOpen_3) 3
@[simp] def l_VOpen_5 (_ : Unit) : List EOp := [⟨0, (some 19), none, (.q (.mov (.t 11))), []⟩, ⟨1, (some 20), none, (.q (.eqi true (.t 19))), []⟩]
@[simp] def b_VOpen_6 (_ : Unit) : EB := reg0 (hid l_VOpen_5) 2
@[simp] def l_VOpen_7 (_ : Unit) : List EOp := [⟨0, (some 21), none, (.q (.build [(.int .i64 0), (.int .i64 0), (.int .i64 0), (.slice none 0 0), (.slice none 0 0)] [])), []⟩, ⟨1, (some 22), none, (.q (.build [(.int .i64 0), (.int .i64 0), (.int .i64 0), (.slice none 0 0), (.slice none 0 0)] [])), []⟩, ⟨2, (some 23), none, (.q (.mov (.t 11))), []⟩, ⟨3, none, none, (.fz (.sto 5 (.t 8) (.t 21))), []⟩, ⟨4, none, none, (.fz (.sto 5 (.t 9) (.t 22))), []⟩, ⟨5, (some 10), none, (.q (.mov (.t 23))), []⟩]
@[simp] def b_VOpen_8 (_ : Unit) : EB := reg0 (hid l_VOpen_7) 6
@[simp] def b_VOpen_9 (_ : Unit) : EB := .seq (hid b_VOpen_8) .ret
@[simp] def b_VOpen_10 (_ : Unit) : EB := .cond (.t 20) (hid b_VOpen_9) .skip
@[simp] def b_VOpen_11 (_ : Unit) : EB := .seq (hid b_VOpen_6) (hid b_VOpen_10)
@[simp] def b_VOpen_12 (_ : Unit) : EB := .seq (hid b_VOpen_4) (hid b_VOpen_11)
@[simp] def l_VOpen_14 (_ : Unit) : List EOp := [⟨6, (some 13), none, (.q (.mov (.t 28))), []⟩]
@[simp] def l_VOpen_13 (_ : Unit) : List EOp := ⟨0, (some 25), none, (.q (.lda 81 (.t 4))), []⟩ :: ⟨1, (some 26), none, (.call 11 [(.t 25)]), []⟩ :: ⟨2, (some 24), none, (.q (.mov (.t 26))), []⟩ :: ⟨3, (some 27), none, (.q (.ext 0 (.t 24))), []⟩ :: ⟨4, (some 28), none, (.q (.ext 1 (.t 24))), []⟩ :: ⟨5, (some 12), none, (.q (.mov (.t 27))), []⟩ :: hid l_VOpen_14
@[simp] def b_VOpen_15 (_ : Unit) : EB := reg0 (hid l_VOpen_13) 7
@[simp] def l_VOpen_17 (_ : Unit) : List EOp := [⟨5, (some 35), none, (.call 12 [(.t 30), (.t 31), (.t 34)]), [9]⟩, ⟨6, (some 29), none, (.q (.mov (.t 35))), []⟩, ⟨7, (some 36), none, (.q (.ext 0 (.t 29))), []⟩, ⟨8, (some 37), none, (.q (.ext 1 (.t 29))), []⟩, ⟨10, none, none, (.fz (.sto 5 (.t 14) (.t 36))), [8]⟩, ⟨11, (some 15), none, (.q (.mov (.t 37))), []⟩]
@[simp] def l_VOpen_16 (_ : Unit) : List EOp := ⟨0, (some 30), none, (.q (.lda 5 (.t 6))), []⟩ :: ⟨1, (some 31), none, (.q (.mov (.t 12))), []⟩ :: ⟨2, (some 32), none, (.q (.lda 81 (.t 4))), []⟩ :: ⟨3, (some 33), none, (.q (.mov (.t 1))), []⟩ :: ⟨9, (some 14), none, (.q (.alloc 37 [(.int .i64 0), (.int .i64 0), (.int .i64 0), (.slice none 0 0), (.slice none 0 0)])), []⟩ :: ⟨4, (some 34), none, (.call 13 [(.t 32), (.t 33)]), [0, 1, 9]⟩ :: hid l_VOpen_17
@[simp] def b_VOpen_18 (_ : Unit) : EB := reg1 (hid l_VOpen_16) 12
@[simp] def l_VOpen_19 (_ : Unit) : List EOp := [⟨0, (some 38), none, (.q (.mov (.t 15))), []⟩, ⟨1, (some 39), none, (.q (.eqi true (.t 38))), []⟩]
@[simp] def b_VOpen_20 (_ : Unit) : EB := reg0 (hid l_VOpen_19) 2
@[simp] def l_VOpen_21 (_ : Unit) : List EOp := [⟨0, (some 40), none, (.q (.build [(.int .i64 0), (.int .i64 0), (.int .i64 0), (.slice none 0 0), (.slice none 0 0)] [])), []⟩, ⟨1, (some 41), none, (.q (.build [(.int .i64 0), (.int .i64 0), (.int .i64 0), (.slice none 0 0), (.slice none 0 0)] [])), []⟩, ⟨2, (some 42), none, (.q (.mov (.t 15))), []⟩, ⟨3, none, none, (.fz (.sto 5 (.t 8) (.t 40))), []⟩, ⟨4, none, none, (.fz (.sto 5 (.t 9) (.t 41))), []⟩, ⟨5, (some 10), none, (.q (.mov (.t 42))), []⟩]
@[simp] def b_VOpen_22 (_ : Unit) : EB := reg0 (hid l_VOpen_21) 6
@[simp] def b_VOpen_23 (_ : Unit) : EB := .seq (hid b_VOpen_22) .ret
@[simp] def b_VOpen_24 (_ : Unit) : EB := .cond (.t 39) (hid b_VOpen_23) .skip
@[simp] def b_VOpen_25 (_ : Unit) : EB := .seq (hid b_VOpen_20) (hid b_VOpen_24)
@[simp] def l_VOpen_27 (_ : Unit) : List EOp := [⟨5, (some 49), none, (.call 12 [(.t 44), (.t 45), (.t 48)]), [9]⟩, ⟨6, (some 43), none, (.q (.mov (.t 49))), []⟩, ⟨7, (some 50), none, (.q (.ext 0 (.t 43))), []⟩, ⟨8, (some 51), none, (.q (.ext 1 (.t 43))), []⟩, ⟨10, none, none, (.fz (.sto 5 (.t 16) (.t 50))), [8]⟩, ⟨11, (some 15), none, (.q (.mov (.t 51))), []⟩]
@[simp] def l_VOpen_26 (_ : Unit) : List EOp := ⟨0, (some 44), none, (.q (.lda 5 (.t 7))), []⟩ :: ⟨1, (some 45), none, (.q (.mov (.t 13))), []⟩ :: ⟨2, (some 46), none, (.q (.lda 81 (.t 4))), []⟩ :: ⟨3, (some 47), none, (.q (.mov (.t 1))), []⟩ :: ⟨9, (some 16), none, (.q (.alloc 37 [(.int .i64 0), (.int .i64 0), (.int .i64 0), (.slice none 0 0), (.slice none 0 0)])), []⟩ :: ⟨4, (some 48), none, (.call 13 [(.t 46), (.t 47)]), [0, 1, 9]⟩ :: hid l_VOpen_27
@[simp] def b_VOpen_28 (_ : Unit) : EB := reg1 (hid l_VOpen_26) 12
@[simp] def l_VOpen_29 (_ : Unit) : List EOp := [⟨0, (some 52), none, (.q (.mov (.t 15))), []⟩, ⟨1, (some 53), none, (.q (.eqi true (.t 52))), []⟩]
@[simp] def b_VOpen_30 (_ : Unit) : EB := reg0 (hid l_VOpen_29) 2
@[simp] def l_VOpen_31 (_ : Unit) : List EOp := [⟨0, (some 54), none, (.q (.build [(.int .i64 0), (.int .i64 0), (.int .i64 0), (.slice none 0 0), (.slice none 0 0)] [])), []⟩, ⟨1, (some 55), none, (.q (.build [(.int .i64 0), (.int .i64 0), (.int .i64 0), (.slice none 0 0), (.slice none 0 0)] [])), []⟩, ⟨2, (some 56), none, (.q (.mov (.t 15))), []⟩, ⟨3, none, none, (.fz (.sto 5 (.t 8) (.t 54))), []⟩, ⟨4, none, none, (.fz (.sto 5 (.t 9) (.t 55))), []⟩, ⟨5, (some 10), none, (.q (.mov (.t 56))), []⟩]
@[simp] def b_VOpen_32 (_ : Unit) : EB := reg0 (hid l_VOpen_31) 6
@[simp] def b_VOpen_33 (_ : Unit) : EB := .seq (hid b_VOpen_32) .ret
@[simp] def b_VOpen_34 (_ : Unit) : EB := .cond (.t 53) (hid b_VOpen_33) .skip
@[simp] def b_VOpen_35 (_ : Unit) : EB := .seq (hid b_VOpen_30) (hid b_VOpen_34)
@[simp] def l_VOpen_36 (_ : Unit) : List EOp := [⟨0, (some 57), none, (.q (.lda 5 (.t 14))), []⟩, ⟨1, (some 58), none, (.q (.lda 5 (.t 16))), []⟩, ⟨2, none, none, (.fz (.sto 5 (.t 8) (.t 57))), [1]⟩, ⟨3, none, none, (.fz (.sto 5 (.t 9) (.t 58))), []⟩, ⟨4, (some 10), none, (.q (.mov (.k .nilIface))), []⟩]
@[simp] def b_VOpen_37 (_ : Unit) : EB := reg1 (hid l_VOpen_36) 5
@[simp] def b_VOpen_38 (_ : Unit) : EB := .seq (hid b_VOpen_37) .ret
@[simp] def b_VOpen_39 (_ : Unit) : EB := .seq (hid b_VOpen_35) (hid b_VOpen_38)
@[simp] def b_VOpen_40 (_ : Unit) : EB := .seq (hid b_VOpen_28) (hid b_VOpen_39)
@[simp] def b_VOpen_41 (_ : Unit) : EB := .seq (hid b_VOpen_25) (hid b_VOpen_40)
@[simp] def b_VOpen_42 (_ : Unit) : EB := .seq (hid b_VOpen_18) (hid b_VOpen_41)
@[simp] def b_VOpen_43 (_ : Unit) : EB := .seq (hid b_VOpen_15) (hid b_VOpen_42)
@[simp] def b_VOpen_44 (_ : Unit) : EB := .seq (hid b_VOpen_12) (hid b_VOpen_43)
@[simp] def b_VOpen_45 (_ : Unit) : EB := .seq (hid b_VOpen_2) (hid b_VOpen_44)
def c_VOpen : EB × List QOp × Nat := ((hid b_VOpen_45), [(.lda 5 (.t 8)), (.lda 5 (.t 9)), (.mov (.t 10))], 59)
theorem k_VOpen : cfun Try.prog 5 = some c_VOpen := by kernel_rfl


theorem swS_i64 {l : List Int} {j : Nat} (h : ∀ x ∈ l, i64 x) : ∀ x ∈ swS l j, i64 x := by
  have hz : i64 0 := by simp [i64]
  have hd : ∀ k : Nat, i64 ((l[k]?).getD 0) := by
    intro k
    cases hk : l[k]? with
    | none => exact hz
    | some y => exact h y (List.mem_of_getElem? hk)
  intro x hx
  unfold swS at hx
  rcases List.mem_or_eq_of_mem_set hx with hx | rfl
  · rcases List.mem_or_eq_of_mem_set hx with hx | rfl
    · exact h x hx
    · exact hd _
  · exact hd _
theorem sinkS_i64 : ∀ (j : Nat) {l : List Int}, (∀ x ∈ l, i64 x) → ∀ x ∈ sinkS j l, i64 x
  | 0, l, h => h
  | j + 1, l, h => by
    unfold sinkS
    split
    · exact sinkS_i64 j (swS_i64 h)
    · exact h
theorem srt_i64 {l : List Int} (h : ∀ x ∈ l, i64 x) : ∀ x ∈ srt l, i64 x := sinkS_i64 2 (sinkS_i64 1 h)
theorem holV_ok {r : Rte} {id' : Int} (hr : r.ok) (hi : i64 id') : (holV r id').ok := by
  obtain ⟨_, _, ha, hb, hc, hm, _⟩ := hr
  refine ⟨hi, hm, ?_, ?_⟩
  · refine srt_i64 (l := [r.a, r.b, r.c]) ?_
    intro x hx
    simp only [List.mem_cons, List.mem_nil_iff, or_false] at hx
    rcases hx with rfl | rfl | rfl
    · exact ha
    · exact hb
    · exact hc
  · show (srt [r.a, r.b, r.c]).length ≤ _
    rw [srt_len]
    simp
theorem sid_i64 (a b x : Int) : i64 (sid a b x) := by
  unfold sid
  split
  · simp [i64]
  · split <;> simp [i64]
/-- Both channels' states behind a route is opened; the error. -/
def opnS (r : Rte) (id' : Int) (s t : Sta) : Sta × Sta × Nat :=
  if chkV r ≠ 0 then (zSta, zSta, chkV r)
  else if (keeS s (sid r.f.k0 r.f.k1 r.a) (holV r id')).2 ≠ 0 then (zSta, zSta, (keeS s (sid r.f.k0 r.f.k1 r.a) (holV r id')).2)
  else if (keeS t (sid r.s.k0 r.s.k1 r.b) (holV r id')).2 ≠ 0 then (zSta, zSta, (keeS t (sid r.s.k0 r.s.k1 r.b) (holV r id')).2)
  else ((keeS s (sid r.f.k0 r.f.k1 r.a) (holV r id')).1, (keeS t (sid r.s.k0 r.s.k1 r.b) (holV r id')).1, 0)
def SSE (q : Sta × Sta × Nat) : EV := .tup [.agg (staC q.1), .agg (staC q.2.1), .c (.fz (.lit (errV q.2.2)))]
theorem hke (s : Sta) (k : Int) (r : Rte) (id' : Int) (hs : s.ok) (hk : i64 k) (hr : r.ok) (hi : i64 id') : ECalls Try.prog 12 [SV s, I .i64 k, .v (.agg [iC id', iC r.am, .row 0 3])] [.row 3 1 (intv (srt [r.a, r.b, r.c]))] fun y H' => H' = [none] ∧ y = SE (keeS s k (holV r id')) := by
  have hl : List.take 3 (intv (srt [r.a, r.b, r.c])) = intv (srt [r.a, r.b, r.c]) := List.take_of_length_le (by simp [srt_len])
  exact ecalls_thaw (SKeep_ok s k (holV r id') hs hk (holV_ok hr hi)) (by simp [SV, staC, I, hc0', holV, iC, hl])

set_option maxHeartbeats 8000000 in
theorem VOpen_ok (r : Rte) (id' : Int) (s t : Sta) (hr : r.ok) (hi : i64 id') (hs : s.ok) (ht : t.ok) : ECalls Try.prog 5 [RVv r, I .i64 id', SV s, SV t] [] fun y H' => H' = [] ∧ y = SSE (opnS r id' s t) := by
  obtain ⟨⟨h1, _⟩, ⟨h2, _⟩, _⟩ := id hr
  have l0 := rteC_len h1 h2
  have t0 := rt_take h1 h2
  refine ecalls k_VOpen ?_
  simp [c_VOpen, RVv, I, SV, staC, l0, t0, -errV_0]
  refine call0 (VCheck_ok r hr) (by simp [RVv]) ?_
  rintro y H' ⟨rfl, rfl⟩
  refine ⟨.inl (by simp), le_ok rfl, ?_⟩
  by_cases c0 : chkV r = 0
  rotate_left
  · have hv : opnS r id' s t = (zSta, zSta, chkV r) := by unfold opnS; rw [if_pos c0]
    rw [hv]
    simp [SSE, staC, zSta, c0, -errV_0]
    refine finW _ (weak_nlB (o := 48) (k := 3) 36 rfl rfl) (finW _ (weak_nlB (o := 48) (k := 4) 3 rfl rfl) (finW _ (weak_nlB (o := 64) (k := 3) 36 rfl rfl) (finW _ (weak_nlB (o := 64) (k := 4) 3 rfl rfl) ?_)))
    exact fin [] (by decide) rfl rfl rfl ⟨rfl, rfl⟩
  simp [c0, l0, t0, -errV_0]
  refine call0 (Vsides_ok r hr) (by simp [RVv]) ?_
  rintro y H' ⟨rfl, rfl⟩
  refine ⟨.inl (by simp [iC]), le_ok rfl, ?_⟩
  simp [iC, l0, t0, -errV_0]
  refine call0 (Vhold_ok r id' hr) (by simp [RVv, I]) ?_
  rintro y H' ⟨rfl, rfl⟩
  refine ⟨.inl (by simp), by simp, ?_⟩
  simp [iC, -errV_0]
  have hk1 := hke s (sid r.f.k0 r.f.k1 r.a) r id' hs (sid_i64 _ _ _) hr hi
  have hk2 := hke t (sid r.s.k0 r.s.k1 r.b) r id' ht (sid_i64 _ _ _) hr hi
  obtain ⟨A, hA⟩ : ∃ A, keeS s (sid r.f.k0 r.f.k1 r.a) (holV r id') = A := ⟨_, rfl⟩
  obtain ⟨B, hB⟩ : ∃ B, keeS t (sid r.s.k0 r.s.k1 r.b) (holV r id') = B := ⟨_, rfl⟩
  rw [hA] at hk1
  rw [hB] at hk2
  have ho : opnS r id' s t = if A.2 ≠ 0 then (zSta, zSta, A.2) else if B.2 ≠ 0 then (zSta, zSta, B.2) else (A.1, B.1, 0) := by unfold opnS; rw [if_neg (by simpa using c0), hA, hB]
  rw [ho]
  refine callH [352] hk1 (by simp [SV, staC, I, iC]) (by simp) (by simp) (by simp) (by simp) ?_
  rintro y H' ⟨rfl, rfl⟩
  refine ⟨.inl (by simp), by simp, ?_⟩
  by_cases c1 : A.2 = 0
  rotate_left
  · rw [if_pos c1]
    simp [SE, SSE, staC, zSta, c1, -errV_0]
    refine finW _ (weak_nlB (o := 48) (k := 3) 36 rfl rfl) (finW _ (weak_nlB (o := 48) (k := 4) 3 rfl rfl) (finW _ (weak_nlB (o := 64) (k := 3) 36 rfl rfl) (finW _ (weak_nlB (o := 64) (k := 4) 3 rfl rfl) ?_)))
    exact fin [] (by decide) rfl rfl rfl ⟨rfl, rfl⟩
  rw [if_neg (by simpa using c1)]
  obtain ⟨Q, hQ⟩ : ∃ Q, (if B.2 ≠ 0 then (zSta, zSta, B.2) else (A.1, B.1, 0)) = Q := ⟨_, rfl⟩
  rw [hQ]
  simp [SE, staC, c1, l0, t0, -errV_0]
  refine call0 (Vhold_ok r id' hr) (by simp [RVv, I]) ?_
  rintro y H' ⟨rfl, rfl⟩
  refine ⟨.inl (by simp), by simp, ?_⟩
  simp [iC, -errV_0]
  refine callH [576] hk2 (by simp [SV, staC, I, iC]) (by simp) (by simp) (by simp) (by simp) ?_
  rintro y H' ⟨rfl, rfl⟩
  refine ⟨.inl (by simp), by simp, ?_⟩
  by_cases c2 : B.2 = 0
  rotate_left
  · rw [if_pos c2] at hQ
    rw [← hQ]
    simp [SE, SSE, staC, zSta, c2, -errV_0]
    refine finW _ (weak_nlB (o := 48) (k := 3) 36 rfl rfl) (finW _ (weak_nlB (o := 48) (k := 4) 3 rfl rfl) (finW _ (weak_nlB (o := 64) (k := 3) 36 rfl rfl) (finW _ (weak_nlB (o := 64) (k := 4) 3 rfl rfl) ?_)))
    exact fin [] (by decide) rfl rfl rfl ⟨rfl, rfl⟩
  rw [if_neg (by simpa using c2)] at hQ
  rw [← hQ]
  simp [SE, SSE, staC, c2, -errV_0]
  exact fin [] (by decide) rfl rfl rfl ⟨rfl, rfl⟩

end Go.Proofs.Ytejjhgdnmknejaa
