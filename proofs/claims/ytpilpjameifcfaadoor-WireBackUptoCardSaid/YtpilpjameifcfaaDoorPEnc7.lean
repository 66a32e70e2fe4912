import Derived.Test.YtpilpjameifcfaaDoorPEnc5
namespace Go.Proofs.YtpilpjameifcfaaDoor
open Go Go.EW
set_option linter.unusedSimpArgs false

theorem bsv_cons (c : UInt8) (r : List UInt8) : bsv (c :: r) = cb c :: bsv r := rfl
/-- A reader of a line that is handed over. -/
theorem Read_own (l : List UInt8) : ECalls Tryd.prog 32 [R 0 l] [RO l] fun y H' => H' = [none, some (RdO l 0 0)] ∧ y = Ptr 1 := by
  refine ecalls k_Read ?_
  simp [c_Read, R, RO, litc, -errV_0]
  refine finW _ (weak_still (p := 49) (k := 0) (o := 0) (ty := 5) (es := 1) (xs := bsv l) rfl (by simp) rfl) ?_
  exact fin [49] (by decide) rfl rfl rfl ⟨rfl, rfl⟩

set_option maxHeartbeats 1000000 in
theorem RdInt_ok (l : List UInt8) (p : Nat) (hp : p ≤ l.length) (hl : l.length ≤ 1000000000) : ECalls Tryd.prog 33 [Ptr 0] [RdO l p 0] fun y H' => H' = [some (RdO l (p + (intS (l.drop p)).2.2) (intS (l.drop p)).1)] ∧ y = I .i64 (intS (l.drop p)).2.1 := by
  refine ecalls k_RdInt ?_
  simp [c_RdInt, Ptr]
  refine callH [0] (off_ok l p 0) (by simp [Ptr]) (by simp [RdO]) (by simp) (by simp) (by simp) ?_
  rintro y H' ⟨rfl, rfl⟩
  refine ⟨.inl rfl, le_ok rfl, ?_⟩
  simp [RdO]
  refine callH [0] (rest_ok l p 0 hp) (by simp [Ptr]) (by simp [RdO]) (by simp) (by simp) (by simp) ?_
  rintro y H' ⟨rfl, rfl⟩
  refine ⟨.inl rfl, le_ok rfl, ?_⟩
  obtain ⟨b, hb⟩ : ∃ b, l.drop p = b := ⟨_, rfl⟩
  have hbl : b.length = l.length - p := by rw [← hb, List.length_drop]
  rw [hb]
  rcases b with _ | ⟨c, r⟩
  · simp [Bs]
    refine callH [0] (fail_ok l p 0 12) (by simp [Ptr, EV.lit]) (by simp [RdO]) (by simp) (by simp) (by simp) ?_
    rintro y H' ⟨rfl, rfl⟩
    refine ⟨.inl rfl, le_ok rfl, ?_⟩
    simp [RdO]
    exact fin [] (by decide) rfl rfl rfl ⟨rfl, rfl⟩
  · have hr : l.drop (p + 1) = r := by
      have := congrArg List.tail hb
      rwa [List.tail_drop] at this
    have hcl := c.toNat_lt
    simp at hcl hbl
    by_cases hc : 128 ≤ c.toNat
    · have w1 : IntKind.i64.wrap ((c.toNat : Int) - 128) = ((c.toNat - 128 : Nat) : Int) := by rw [wrap_i64 (by omega) (by omega)]; omega
      have w0 : IntKind.i64.wrap (c.toNat : Int) = c.toNat := wrap_i64 (by omega) (by omega)
      obtain ⟨many, hmy⟩ : ∃ many, c.toNat - 128 = many := ⟨_, rfl⟩
      rw [hmy] at w1
      simp [Bs, bsv_cons, cb]
      refine altR (by omega) ?_
      simp [w0, w1]
      refine altR (by omega) ?_
      simp
      refine alt (fun h8 => ?_) (fun h8 => ?_)
      · have hi : intS (c :: r) = (3, 0, 0) := by simp only [intS, if_pos hc, hmy]; rw [if_pos (by omega)]
        rw [hi]
        simp
        refine callH [0] (fail_ok l p 0 3) (by simp [Ptr, EV.lit]) (by simp [RdO]) (by simp) (by simp) (by simp) ?_
        rintro y H' ⟨rfl, rfl⟩
        refine ⟨.inl rfl, le_ok rfl, ?_⟩
        simp [RdO]
        exact fin [] (by decide) rfl rfl rfl ⟨rfl, rfl⟩
      · have h8' : ¬ 8 < many := by omega
        simp
        refine callH [0] (low_ok l p 0 many 0 (by omega) (by omega)) (by simp [Ptr, I]) (by simp [RdO]) (by simp) (by simp) (by simp) ?_
        rintro y H' ⟨rfl, rfl⟩
        refine ⟨.inl rfl, le_ok rfl, ?_⟩
        rw [hr]
        obtain ⟨q, hq⟩ : ∃ q, lowS r many 0 = q := ⟨_, rfl⟩
        rw [hq]
        have hi0 : intS (c :: r) = if q.2 ≠ 0 then (q.2, 0, 0) else if 9223372036854775807 < q.1 then (4, 0, 0) else (0, (q.1 : Int), 1 + many) := by
          simp only [intS, if_pos hc, hmy, if_neg h8', hq]
        by_cases hq2 : q.2 = 0
        · by_cases hq1 : 9223372036854775807 < q.1
          · have hi : intS (c :: r) = (4, 0, 0) := by rw [hi0, if_neg (by omega), if_pos hq1]
            rw [hi]
            simp [RdO, hq2, show ((9223372036854775807 : Int) < (q.1 : Int)) from by omega]
            refine callH [0] (fail_ok l p 0 4) (by simp [Ptr, EV.lit]) (by simp [RdO]) (by simp) (by simp) (by simp) ?_
            rintro y H' ⟨rfl, rfl⟩
            refine ⟨.inl rfl, le_ok rfl, ?_⟩
            simp [RdO]
            exact fin [] (by decide) rfl rfl rfl ⟨rfl, rfl⟩
          · have hi : intS (c :: r) = (0, (q.1 : Int), 1 + many) := by rw [hi0, if_neg (by omega), if_neg hq1]
            rw [hi]
            simp [RdO, hq2, show ¬ ((9223372036854775807 : Int) < (q.1 : Int)) from by omega]
            have w5 : IntKind.i64.wrap (1 + (many : Int)) = 1 + (many : Int) := wrap_i64 (by omega) (by omega)
            have w6 : IntKind.i64.wrap ((p : Int) + (1 + (many : Int))) = (p : Int) + (1 + (many : Int)) := wrap_i64 (by omega) (by omega)
            have w7 : IntKind.i64.wrap (q.1 : Int) = q.1 := wrap_i64 (by omega) (by omega)
            simp [w5, w6, w7]
            exact fin [] (by decide) rfl rfl rfl ⟨rfl, rfl⟩
        · have hi : intS (c :: r) = (q.2, 0, 0) := by rw [hi0, if_pos hq2]
          rw [hi]
          simp [RdO, hq2]
          refine callH [0] (fail_ok l p 0 q.2) (by simp [Ptr, EV.lit]) (by simp [RdO, hq2]) (by simp) (by simp) (by simp) ?_
          rintro y H' ⟨rfl, rfl⟩
          refine ⟨.inl rfl, le_ok rfl, ?_⟩
          simp [RdO, hq2]
          exact fin [] (by decide) rfl rfl rfl ⟨rfl, rfl⟩
    · have w1 : IntKind.i64.wrap ((c.toNat : Int) - 128) = (c.toNat : Int) - 128 := wrap_i64 (by omega) (by omega)
      have w9 : IntKind.i64.wrap (-1 - ((c.toNat : Int) - 128)) = ((127 - c.toNat : Nat) : Int) := by rw [wrap_i64 (by omega) (by omega)]; omega
      have w0 : IntKind.i64.wrap (c.toNat : Int) = c.toNat := wrap_i64 (by omega) (by omega)
      obtain ⟨many, hmy⟩ : ∃ many, 127 - c.toNat = many := ⟨_, rfl⟩
      rw [hmy] at w9
      simp [Bs, bsv_cons, cb]
      refine altR (by omega) ?_
      simp [w0, w1]
      refine altL (by omega) ?_
      simp [w9]
      refine alt (fun h8 => ?_) (fun h8 => ?_)
      · have hi : intS (c :: r) = (3, 0, 0) := by simp only [intS, if_neg hc, hmy]; rw [if_pos (by omega)]
        rw [hi]
        simp
        refine callH [0] (fail_ok l p 0 3) (by simp [Ptr, EV.lit]) (by simp [RdO]) (by simp) (by simp) (by simp) ?_
        rintro y H' ⟨rfl, rfl⟩
        refine ⟨.inl rfl, le_ok rfl, ?_⟩
        simp [RdO]
        exact fin [] (by decide) rfl rfl rfl ⟨rfl, rfl⟩
      · have h8' : ¬ 8 < many := by omega
        simp
        refine callH [0] (low_ok l p 0 many 255 (by omega) (by omega)) (by simp [Ptr, I]) (by simp [RdO]) (by simp) (by simp) (by simp) ?_
        rintro y H' ⟨rfl, rfl⟩
        refine ⟨.inl rfl, le_ok rfl, ?_⟩
        rw [hr]
        obtain ⟨q, hq⟩ : ∃ q, lowS r many 255 = q := ⟨_, rfl⟩
        rw [hq]
        have hi0 : intS (c :: r) = if q.2 ≠ 0 then (q.2, 0, 0) else if 9223372036854775807 < q.1 then (4, 0, 0) else (0, -(q.1 : Int) - 1, 1 + many) := by
          simp only [intS, if_neg hc, hmy, if_neg h8', hq]
        by_cases hq2 : q.2 = 0
        · by_cases hq1 : 9223372036854775807 < q.1
          · have hi : intS (c :: r) = (4, 0, 0) := by rw [hi0, if_neg (by omega), if_pos hq1]
            rw [hi]
            simp [RdO, hq2, show ((9223372036854775807 : Int) < (q.1 : Int)) from by omega]
            refine callH [0] (fail_ok l p 0 4) (by simp [Ptr, EV.lit]) (by simp [RdO]) (by simp) (by simp) (by simp) ?_
            rintro y H' ⟨rfl, rfl⟩
            refine ⟨.inl rfl, le_ok rfl, ?_⟩
            simp [RdO]
            exact fin [] (by decide) rfl rfl rfl ⟨rfl, rfl⟩
          · have hi : intS (c :: r) = (0, -(q.1 : Int) - 1, 1 + many) := by rw [hi0, if_neg (by omega), if_neg hq1]
            rw [hi]
            simp [RdO, hq2, show ¬ ((9223372036854775807 : Int) < (q.1 : Int)) from by omega]
            have w5 : IntKind.i64.wrap (1 + (many : Int)) = 1 + (many : Int) := wrap_i64 (by omega) (by omega)
            have w6 : IntKind.i64.wrap ((p : Int) + (1 + (many : Int))) = (p : Int) + (1 + (many : Int)) := wrap_i64 (by omega) (by omega)
            have w7 : IntKind.i64.wrap (q.1 : Int) = q.1 := wrap_i64 (by omega) (by omega)
            have w8 : IntKind.i64.wrap (-1 - (q.1 : Int)) = -(q.1 : Int) - 1 := by rw [wrap_i64 (by omega) (by omega)]; omega
            simp [w5, w6, w7, w8]
            exact fin [] (by decide) rfl rfl rfl ⟨rfl, rfl⟩
        · have hi : intS (c :: r) = (q.2, 0, 0) := by rw [hi0, if_pos hq2]
          rw [hi]
          simp [RdO, hq2]
          refine callH [0] (fail_ok l p 0 q.2) (by simp [Ptr, EV.lit]) (by simp [RdO, hq2]) (by simp) (by simp) (by simp) ?_
          rintro y H' ⟨rfl, rfl⟩
          refine ⟨.inl rfl, le_ok rfl, ?_⟩
          simp [RdO, hq2]
          exact fin [] (by decide) rfl rfl rfl ⟨rfl, rfl⟩

end Go.Proofs.YtpilpjameifcfaaDoor
