import Derived.Test.YtbbcofojjgofmaaDoorEnc10
namespace Go.Proofs.YtbbcofojjgofmaaDoor
open Go Go.EW
set_option linter.unusedSimpArgs false
set_option linter.unusedVariables false

theorem RReadUint_off (b : List UInt8) (e most : Nat) (he : e ≠ 0) : ECalls Tryd.prog 10 [RV b e, I .u64 most] [] fun y H' => H' = [] ∧ y = .tup [.agg (rvC b e), .c (.fz (.lit (.int .u64 0)))] := by
  refine ecalls k_RReadUint ?_
  simp [c_RReadUint, RV, I, he]
  exact fin [] (by decide) rfl rfl rfl ⟨rfl, rfl⟩

theorem RReadInt_off (b : List UInt8) (e : Nat) (he : e ≠ 0) : ECalls Tryd.prog 9 [RV b e] [] fun y H' => H' = [] ∧ y = .tup [.agg (rvC b e), .c (.fz (.lit (.int .i64 0)))] := by
  refine ecalls k_RReadInt ?_
  simp [c_RReadInt, RV, I, he]
  exact fin [] (by decide) rfl rfl rfl ⟨rfl, rfl⟩

theorem RReadBytes_off (b : List UInt8) (e : Nat) (most : Int) (he : e ≠ 0) : ECalls Tryd.prog 16 [RV b e, I .i64 most] [] fun y H' => H' = [] ∧ y = .tup [.agg (rvC b e), .c (.fz (.sl 1 []))] := by
  refine ecalls k_RReadBytes ?_
  simp [c_RReadBytes, RV, I, he]
  refine finW _ (weak_nilF 5 1 rfl) ?_
  exact fin [] (by decide) rfl rfl rfl ⟨rfl, rfl⟩

theorem RReadHash_off (b : List UInt8) (e : Nat) (he : e ≠ 0) : ECalls Tryd.prog 20 [RV b e] [] fun y H' => H' = [] ∧ y = .tup [.agg (rvC b e), .agg (hc hz)] := by
  refine ecalls k_RReadHash ?_
  simp [c_RReadHash, RV, I, he]
  exact fin [] (by decide) rfl rfl rfl ⟨rfl, rfl⟩

theorem RReadHash_ok (b : List UInt8) (hl : b.length ≤ 1000000000) : ECalls Tryd.prog 20 [RV b 0] [] fun y H' => H' = [] ∧ y = .tup [.agg (rvC (b.drop (hashS b).2.2) (hashS b).1), .agg (hc (hashS b).2.1)] := by
  refine ecalls k_RReadHash ?_
  simp [c_RReadHash, RV, I]
  refine alt (fun hlt => ?_) (fun hlt => ?_)
  · have hi : hashS b = (12, hz, 0) := by rw [hashS, if_pos (by omega)]
    rw [hi]
    simp
    refine call0 (Rfail_ok b 0 12) (by simp [Ptr, NP, I, R, RO, RdO, Bs, EV.lit, RV, rvC]) ?_
    rintro y H' ⟨rfl, rfl⟩
    refine ⟨.inl (by simp [Ptr, NP, I, R, RO, RdO, Bs, EV.lit, RV, rvC]), le_ok rfl, ?_⟩
    simp [Ptr, NP, I, R, RO, RdO, Bs, EV.lit, RV, rvC]
    exact fin [] (by decide) rfl rfl rfl ⟨rfl, rfl⟩
  have hi : hashS b = (0, b.take 32, 32) := by rw [hashS, if_neg (by omega)]
  rw [hi]
  simp
  refine eloop (α := Nat) (fun i => i ≤ 32) (fun i => 32 - i)
    (fun i => [.any, Ptr 0, Ptr 1, Ptr 2, Ptr 3, I .i64 i, .any, .any, .any, .any, .any, .any, .any, .any, .any, .any, .any, .any, .any, .any, .any, .any, .any, .any, .any, .any, .any, .any, .any, .any, .any, .any, .any, .any, .any]) (fun i => [some (.box 29 (rvC b 0)), some (.box 29 [.fz (.lit (.slice none 0 0)), .fz (.lit (.int .i64 0))]), some (.box 52 (hc hz)), some (.box 52 (hc (b.take i ++ hz.drop i)))]) 0 [0, 16, 32, 48]
    (Nat.zero_le _) (by simp [Ptr, I]) (by simp [rvC]) (by simp) (by simp) (by simp) ?_
  intro i hi2
  simp [Ptr, I, rvC]
  refine alt (fun hlt => ?_) (fun hlt => ?_)
  · obtain ⟨c, hci⟩ : ∃ c, b[i]? = some c := ⟨b[i]'(by omega), by simp⟩
    have hcb := bsv_get hci
    have w2 : IntKind.i64.wrap ((i : Int) + 1) = ((i + 1 : Nat) : Int) := wrap_i64 (by omega) (by omega)
    have hm0 : min i b.length = i := by omega
    have hts : b.take (i + 1) = b.take i ++ [c] := take_snoc hci
    have hdz : List.drop (i + 1) (b.take i ++ hz.drop i) = hz.drop (i + 1) := by
      rw [List.drop_append, List.drop_eq_nil_of_le (by simp; omega), List.nil_append, List.drop_drop, List.length_take, hm0]
      congr 1; omega
    have htz : List.take i (b.take i ++ hz.drop i) = b.take i := by
      rw [List.take_append_of_le_length (by simp; omega), List.take_take, Nat.min_self]
    have e2 : hc (b.take (i + 1) ++ hz.drop (i + 1)) = hc (b.take i) ++ .fz (.lit (.int .u8 (c.toNat : Int))) :: hc (hz.drop (i + 1)) := by rw [hts]; simp [hc, hf]
    simp [hcb, cb, w2, hdz, htz, -Int.natCast_add]
    refine ⟨by omega, by omega, ?_⟩
    exact round (i + 1) [0, 1, 2, 3] (by omega) (by omega) (by simp) (by simp [e2]) (by simp) (by simp) (by simp)
  have hil : i = 32 := by omega
  subst hil
  simp
  have hm1 : min 32 b.length = 32 := by omega
  refine ⟨by omega, by omega, by omega, by omega, ?_⟩
  exact fin [] (by decide) (v := .tup [.agg (rvC (b.drop 32) 0), .agg (hc (b.take 32))]) (by simp [resV, resT, evT, asT, rvC, List.take_take, hm1]) (by simp [conR, conTs, conT, rvC]) rfl ⟨rfl, rfl⟩

set_option maxHeartbeats 1000000 in
theorem RReadCount_all0 (b : List UInt8) (e : Nat) (most : Int) (hl : b.length ≤ 1000000000) (hm : -9223372036854775808 ≤ most ∧ most ≤ 9223372036854775807) (q : Nat × Nat × Nat)
    (hq : ECalls Tryd.prog 10 [RV b e, I .u64 ((max 0 most).toNat : Nat)] [] fun y H' => H' = [] ∧ y = .tup [.agg (rvC (b.drop q.2.2) q.1), .c (.fz (.lit (.int .u64 q.2.1)))])
    (h1 : q.2.1 < 18446744073709551616) (h2 : q.2.2 ≤ b.length) (h3 : q.1 ≠ 0 → q.2.1 = 0 ∧ q.2.2 = 0) (h4 : e = 0 ∨ q.1 = e) :
    ECalls Tryd.prog 18 [RV b e, I .i64 most] [] fun y H' => H' = [] ∧ y = .tup [.agg (rvC (if q.1 ≠ 0 then b else if b.length - q.2.2 < q.2.1 then b else b.drop q.2.2) (if q.1 ≠ 0 then q.1 else if b.length - q.2.2 < q.2.1 then 2 else 0)), .c (.fz (.lit (.int .i64 ((if q.1 ≠ 0 then 0 else if b.length - q.2.2 < q.2.1 then 0 else q.2.1 : Nat) : Int))))] := by
  obtain ⟨k, hk, hk2⟩ : ∃ k : Nat, (max 0 most).toNat = k ∧ (k : Int) = max 0 most := ⟨(max 0 most).toNat, rfl, by omega⟩
  rw [hk] at hq
  refine ecalls k_RReadCount ?_
  simp [c_RReadCount, RV, I]
  refine alt (fun hneg => ?_) (fun hneg => ?_)
  · have hk0 : k = 0 := by omega
    subst hk0
    have w0 : IntKind.u64.wrap 0 = 0 := rfl
    simp [w0]
    refine call0 (hq) (by simp [Ptr, NP, I, R, RO, RdO, Bs, EV.lit, RV, rvC]) ?_
    rintro y H' ⟨rfl, rfl⟩
    refine ⟨.inl (by simp [Ptr, NP, I, R, RO, RdO, Bs, EV.lit, RV, rvC]), le_ok rfl, ?_⟩
    simp [Ptr, NP, I, R, RO, RdO, Bs, EV.lit, RV, rvC]
    refine alt (fun hq0 => ?_) (fun hq0 => ?_)
    · simp [hq0, (h3 hq0).2]
      have hfe : (if e = 0 then q.1 else e) = q.1 := by split <;> omega
      have hfa := Rfail_ok b e q.1
      rw [hfe] at hfa
      refine call0 (hfa) (by simp [Ptr, NP, I, R, RO, RdO, Bs, EV.lit, RV, rvC]) ?_
      rintro y H' ⟨rfl, rfl⟩
      refine ⟨.inl (by simp [Ptr, NP, I, R, RO, RdO, Bs, EV.lit, RV, rvC]), le_ok rfl, ?_⟩
      simp [Ptr, NP, I, R, RO, RdO, Bs, EV.lit, RV, rvC]
      exact fin [] (by decide) rfl rfl rfl ⟨rfl, rfl⟩
    have hq1 : q.1 = 0 := by omega
    have he0 : e = 0 := by omega
    subst he0
    have w2 : IntKind.u64.wrap (((b.length - q.2.2 : Nat) : Nat) : Int) = ((b.length - q.2.2 : Nat) : Int) := wrap_u64 (by omega) (by omega)
    simp [hq1, w2]
    refine alt (fun hlt => ?_) (fun hlt => ?_)
    · have hlt' : b.length - q.2.2 < q.2.1 := by omega
      simp [hlt']
      refine call0 (Rfail_ok b 0 2) (by simp [Ptr, NP, I, R, RO, RdO, Bs, EV.lit, RV, rvC]) ?_
      rintro y H' ⟨rfl, rfl⟩
      refine ⟨.inl (by simp [Ptr, NP, I, R, RO, RdO, Bs, EV.lit, RV, rvC]), le_ok rfl, ?_⟩
      simp [Ptr, NP, I, R, RO, RdO, Bs, EV.lit, RV, rvC]
      exact fin [] (by decide) rfl rfl rfl ⟨rfl, rfl⟩
    · have hlt' : ¬ b.length - q.2.2 < q.2.1 := by omega
      have w4 : IntKind.i64.wrap (q.2.1 : Int) = (q.2.1 : Int) := wrap_i64 (by omega) (by omega)
      simp [hlt', w4]
      exact fin [] (by decide) rfl rfl rfl ⟨rfl, rfl⟩
  · have w0 : IntKind.u64.wrap most = (k : Int) := by rw [wrap_u64 (by omega) (by omega)]; omega
    simp [w0]
    refine call0 (hq) (by simp [Ptr, NP, I, R, RO, RdO, Bs, EV.lit, RV, rvC]) ?_
    rintro y H' ⟨rfl, rfl⟩
    refine ⟨.inl (by simp [Ptr, NP, I, R, RO, RdO, Bs, EV.lit, RV, rvC]), le_ok rfl, ?_⟩
    simp [Ptr, NP, I, R, RO, RdO, Bs, EV.lit, RV, rvC]
    refine alt (fun hq0 => ?_) (fun hq0 => ?_)
    · simp [hq0, (h3 hq0).2]
      have hfe : (if e = 0 then q.1 else e) = q.1 := by split <;> omega
      have hfa := Rfail_ok b e q.1
      rw [hfe] at hfa
      refine call0 (hfa) (by simp [Ptr, NP, I, R, RO, RdO, Bs, EV.lit, RV, rvC]) ?_
      rintro y H' ⟨rfl, rfl⟩
      refine ⟨.inl (by simp [Ptr, NP, I, R, RO, RdO, Bs, EV.lit, RV, rvC]), le_ok rfl, ?_⟩
      simp [Ptr, NP, I, R, RO, RdO, Bs, EV.lit, RV, rvC]
      exact fin [] (by decide) rfl rfl rfl ⟨rfl, rfl⟩
    have hq1 : q.1 = 0 := by omega
    have he0 : e = 0 := by omega
    subst he0
    have w2 : IntKind.u64.wrap (((b.length - q.2.2 : Nat) : Nat) : Int) = ((b.length - q.2.2 : Nat) : Int) := wrap_u64 (by omega) (by omega)
    simp [hq1, w2]
    refine alt (fun hlt => ?_) (fun hlt => ?_)
    · have hlt' : b.length - q.2.2 < q.2.1 := by omega
      simp [hlt']
      refine call0 (Rfail_ok b 0 2) (by simp [Ptr, NP, I, R, RO, RdO, Bs, EV.lit, RV, rvC]) ?_
      rintro y H' ⟨rfl, rfl⟩
      refine ⟨.inl (by simp [Ptr, NP, I, R, RO, RdO, Bs, EV.lit, RV, rvC]), le_ok rfl, ?_⟩
      simp [Ptr, NP, I, R, RO, RdO, Bs, EV.lit, RV, rvC]
      exact fin [] (by decide) rfl rfl rfl ⟨rfl, rfl⟩
    · have hlt' : ¬ b.length - q.2.2 < q.2.1 := by omega
      have w4 : IntKind.i64.wrap (q.2.1 : Int) = (q.2.1 : Int) := wrap_i64 (by omega) (by omega)
      simp [hlt', w4]
      exact fin [] (by decide) rfl rfl rfl ⟨rfl, rfl⟩

theorem RReadCount_off (b : List UInt8) (e : Nat) (most : Int) (hl : b.length ≤ 1000000000) (hm : -9223372036854775808 ≤ most ∧ most ≤ 9223372036854775807) (he : e ≠ 0) : ECalls Tryd.prog 18 [RV b e, I .i64 most] [] fun y H' => H' = [] ∧ y = .tup [.agg (rvC b e), .c (.fz (.lit (.int .i64 0)))] := by
  have h := RReadCount_all0 b e most hl hm (e, 0, 0) (RReadUint_off b e _ he) (by simp) (by simp) (by simp) (.inr rfl)
  simpa [he] using h

theorem RReadCount_ok (b : List UInt8) (most : Int) (hl : b.length ≤ 1000000000) (hm : -9223372036854775808 ≤ most ∧ most ≤ 9223372036854775807) : ECalls Tryd.prog 18 [RV b 0, I .i64 most] [] fun y H' => H' = [] ∧ y = .tup [.agg (rvC (b.drop (cntS b most).2.2) (cntS b most).1), .c (.fz (.lit (.int .i64 (cntS b most).2.1)))] := by
  obtain ⟨q, hq⟩ : ∃ q, numS b (max 0 most).toNat = q := ⟨_, rfl⟩
  have hn := numS_ok b (max 0 most).toNat
  have hr := RReadUint_ok b (max 0 most).toNat hl
  rw [hq] at hn hr
  have h := RReadCount_all0 b 0 most hl hm q hr hn.1 hn.2.2.1 hn.2.2.2 (.inl rfl)
  have e1 : cntS b most = if q.1 ≠ 0 then (q.1, 0, 0) else if b.length - q.2.2 < q.2.1 then (2, 0, 0) else q := by simp only [cntS, hq]
  rw [e1]
  by_cases h1 : q.1 = 0
  · by_cases h2 : b.length - q.2.2 < q.2.1
    · simpa [h1, h2] using h
    · simpa [h1, h2] using h
  · simpa [h1] using h

theorem RdCount_off (l : List UInt8) (p e : Nat) (most : Int) (he : e ≠ 0) : ECalls Tryd.prog 19 [Ptr 0, I .i64 most] [RdO l p e] fun y H' => H' = [some (RdO l p e)] ∧ y = I .i64 0 := by
  refine ecalls k_RdCount ?_
  simp [c_RdCount, Ptr, I]
  refine callH [0] (off_ok l p e) (by simp [Ptr, NP, I, R, RO, RdO, Bs, EV.lit, RV, rvC]) (by simp [Ptr, NP, I, R, RO, RdO, Bs, EV.lit, RV, rvC]) (by simp) (by simp [Ptr, NP, I, R, RO, RdO, Bs, EV.lit, RV, rvC]) (by simp [Wok]) ?_
  rintro y H' ⟨rfl, rfl⟩
  refine ⟨.inl (by simp [Ptr, NP, I, R, RO, RdO, Bs, EV.lit, RV, rvC]), le_ok rfl, ?_⟩
  simp [he, RdO, I]
  exact fin [] (by decide) rfl rfl rfl ⟨rfl, rfl⟩

theorem RdCount_nil (most : Int) : ECalls Tryd.prog 19 [NP, I .i64 most] [] fun y H' => H' = [] ∧ y = I .i64 0 := by
  refine ecalls k_RdCount ?_
  simp [c_RdCount, NP, I]
  refine call0 off_nil (by simp [NP]) ?_
  rintro y H' ⟨rfl, rfl⟩
  simp
  exact fin [] (by decide) rfl rfl rfl ⟨rfl, rfl⟩

end Go.Proofs.YtbbcofojjgofmaaDoor
