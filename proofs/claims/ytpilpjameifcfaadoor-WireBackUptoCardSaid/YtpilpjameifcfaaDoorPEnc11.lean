import Derived.Test.YtpilpjameifcfaaDoorPEnc10
namespace Go.Proofs.YtpilpjameifcfaaDoor
open Go Go.EW
set_option linter.unusedSimpArgs false
set_option linter.unusedVariables false

theorem RReadInt_off (b : List UInt8) (e : Nat) (he : e ≠ 0) : ECalls Tryd.prog 37 [RV b e] [] fun y H' => H' = [] ∧ y = .tup [.agg (rvC b e), .c (.fz (.lit (.int .i64 0)))] := by
  refine ecalls k_RReadInt ?_
  simp [c_RReadInt, RV, I, he]
  exact fin [] (by decide) rfl rfl rfl ⟨rfl, rfl⟩

theorem RReadBytes_off (b : List UInt8) (e : Nat) (most : Int) (he : e ≠ 0) : ECalls Tryd.prog 39 [RV b e, I .i64 most] [] fun y H' => H' = [] ∧ y = .tup [.agg (rvC b e), .c (.fz (.sl 1 []))] := by
  refine ecalls k_RReadBytes ?_
  simp [c_RReadBytes, RV, I, he]
  refine finW _ (weak_nilF 5 1 rfl) ?_
  exact fin [] (by decide) rfl rfl rfl ⟨rfl, rfl⟩

theorem RReadHash_off (b : List UInt8) (e : Nat) (he : e ≠ 0) : ECalls Tryd.prog 38 [RV b e] [] fun y H' => H' = [] ∧ y = .tup [.agg (rvC b e), .agg (hc hz)] := by
  refine ecalls k_RReadHash ?_
  simp [c_RReadHash, RV, I, he]
  exact fin [] (by decide) rfl rfl rfl ⟨rfl, rfl⟩

theorem RReadHash_ok (b : List UInt8) (hl : b.length ≤ 1000000000) : ECalls Tryd.prog 38 [RV b 0] [] fun y H' => H' = [] ∧ y = .tup [.agg (rvC (b.drop (hashS b).2.2) (hashS b).1), .agg (hc (hashS b).2.1)] := by
  refine ecalls k_RReadHash ?_
  simp [c_RReadHash, RV, I]
  refine alt (fun hlt => ?_) (fun hlt => ?_)
  · have hi : hashS b = (12, hz, 0) := by rw [hashS, if_pos (by omega)]
    rw [hi]
    simp
    refine call0 (Rfail_ok b 0 12) (by simp [Ptr, NP, I, R, RO, RdO, Bs, EV.lit, RV, rvC]) ?_
    rintro y H' ⟨rfl, rfl⟩
    refine ⟨.inl (by simp [Ptr, NP, I, R, RO, RdO, Bs, EV.lit, RV, rvC]), le_ok rfl, ?_⟩
    simp [Ptr, NP, I, R, RO, RdO, Bs, EV.lit, RV, rvC]
    exact fin [] (by decide) rfl rfl rfl ⟨rfl, rfl⟩
  have hi : hashS b = (0, b.take 32, 32) := by rw [hashS, if_neg (by omega)]
  rw [hi]
  simp
  refine eloop (α := Nat) (fun i => i ≤ 32) (fun i => 32 - i)
    (fun i => [.any, Ptr 0, Ptr 1, Ptr 2, Ptr 3, I .i64 i, .any, .any, .any, .any, .any, .any, .any, .any, .any, .any, .any, .any, .any, .any, .any, .any, .any, .any, .any, .any, .any, .any, .any, .any, .any, .any, .any, .any, .any]) (fun i => [some (.box 92 (rvC b 0)), some (.box 92 [.fz (.lit (.slice none 0 0)), .fz (.lit (.int .i64 0))]), some (.box 28 (hc hz)), some (.box 28 (hc (b.take i ++ hz.drop i)))]) 0 [0, 16, 32, 48]
    (Nat.zero_le _) (by simp [Ptr, I]) (by simp [rvC]) (by simp) (by simp) (by simp) ?_
  intro i hi2
  simp [Ptr, I, rvC]
  refine alt (fun hlt => ?_) (fun hlt => ?_)
  · obtain ⟨c, hci⟩ : ∃ c, b[i]? = some c := ⟨b[i]'(by omega), by simp⟩
    have hcb := bsv_get hci
    have w2 : IntKind.i64.wrap ((i : Int) + 1) = ((i + 1 : Nat) : Int) := wrap_i64 (by omega) (by omega)
    have hm0 : min i b.length = i := by omega
    have hts : b.take (i + 1) = b.take i ++ [c] := take_snoc hci
    have hdz : List.drop (i + 1) (b.take i ++ hz.drop i) = hz.drop (i + 1) := by
      rw [List.drop_append, List.drop_eq_nil_of_le (by simp; omega), List.nil_append, List.drop_drop, List.length_take, hm0]
      congr 1; omega
    have htz : List.take i (b.take i ++ hz.drop i) = b.take i := by
      rw [List.take_append_of_le_length (by simp; omega), List.take_take, Nat.min_self]
    have e2 : hc (b.take (i + 1) ++ hz.drop (i + 1)) = hc (b.take i) ++ .fz (.lit (.int .u8 (c.toNat : Int))) :: hc (hz.drop (i + 1)) := by rw [hts]; simp [hc, hf]
    simp [hcb, cb, w2, hdz, htz, -Int.natCast_add]
    refine ⟨by omega, by omega, ?_⟩
    exact round (i + 1) [0, 1, 2, 3] (by omega) (by omega) (by simp) (by simp [e2]) (by simp) (by simp) (by simp)
  have hil : i = 32 := by omega
  subst hil
  simp
  have hm1 : min 32 b.length = 32 := by omega
  refine ⟨by omega, by omega, by omega, by omega, ?_⟩
  exact fin [] (by decide) (v := .tup [.agg (rvC (b.drop 32) 0), .agg (hc (b.take 32))]) (by simp [resV, resT, evT, asT, rvC, List.take_take, hm1]) (by simp [conR, conTs, conT, rvC]) rfl ⟨rfl, rfl⟩

end Go.Proofs.YtpilpjameifcfaaDoor
