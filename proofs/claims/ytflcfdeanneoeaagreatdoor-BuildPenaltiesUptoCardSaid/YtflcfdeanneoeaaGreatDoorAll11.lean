import Derived.Test.YtflcfdeanneoeaaGreatDoorAll9
import Derived.Test.YtflcfdeanneoeaaGreatDoorAll8
import Derived.Test.YtflcfdeanneoeaaGreatDoorAll10
set_option maxHeartbeats 64000000
namespace Go.Proofs.YtflcfdeanneoeaaGreatDoor
open Go Go.EW
set_option linter.unusedSimpArgs false
set_option linter.unusedVariables false
@[simp] def yl55 : UL | _ => [xQ 0 4 (.mov (.k (.bool false)))]
@[simp] def yl56 : UL | _ => [xQ 0 5 (.mov (xK 0))]
@[simp] def yl57 : UL | _ => [xM 0 6 5, xM 1 7 0, xQ 2 8 (.len (.t 7)), xQ 3 9 (.bin .lss (.t 6) (.t 8))]
@[simp] def yl58 : UL | _ => [xM 0 12 0, xM 1 13 5, xQ 2 14 (.isl 1 (.t 12) (.t 13)), xQ 3 15 (.ldc (.t 14)), xM 4 16 1, xQ 5 17 (.bin .eql (.t 15) (.t 16))]
@[simp] def yl59 : UL | _ => [xQ 0 4 (.mov (.k (.bool true)))]
@[simp] def yb5a : UB | _ => .seq (reg0 (hid yl58) 6) (.cond (.t 17) (.seq (reg0 (hid yl59) 1) .ret) .skip)
@[simp] def yl5b : UL | _ => [xM 0 10 5, xQ 1 11 (.bin .add (.t 10) (xK 1)), xM 2 5 11]
@[simp] def yb5c : UB | _ => .seq (.seq (reg0 (hid yl57) 4) (.cond (.t 9) .skip (.exit 0))) (.seq (.block 1 (hid yb5a)) (reg0 (hid yl5b) 3))
@[simp] def yl5d : UL | _ => [xQ 0 4 (.mov (.k (.bool false)))]
@[simp] def yb5e : UB | _ => .seq (.seq (reg0 (hid yl56) 1) (.block 0 (.loop (hid yb5c)))) (.seq (reg0 (hid yl5d) 1) .ret)
@[simp] def yb5f : UB | _ => .seq (reg0 (hid yl55) 1) (hid yb5e)
def c_chas : EB × List QOp × Nat := ((hid yb5f), [(.mov (.t 4))], 18)
theorem k_chas : cfun Tryz.prog 103 = some c_chas := by kernel_rfl
@[simp] def yl5g : UL | _ => [xQ 0 2 (.alloc 145 [xS])]
@[simp] def yl5h : UL | _ => [xQ 0 3 (.mov (.k xS))]
@[simp] def yl5i : UL | _ => [xQ 0 4 (.mov (xK 0))]
@[simp] def yl5j : UL | _ => [xM 0 7 4, xM 1 8 0, xQ 2 9 (.len (.t 8)), xQ 3 10 (.bin .lss (.t 7) (.t 9))]
@[simp] def yl5k : UL | _ => [xM 0 13 3, xM 1 14 0, xM 2 15 4, xQ 3 16 (.isl 1 (.t 14) (.t 15)), xQ 4 17 (.ldc (.t 16)), xO 5 18 (.call 103 [(.t 13), (.t 17)])]
@[simp] def yl5l : UL | _ => [xQ 0 5 (.mov (xK 0))]
@[simp] def yl5m : UL | _ => [xG 12 31 23 true (.ldc (.t 30)), xG 13 32 23 true (.bin .lss (.t 27) (.t 31)), xQ 14 33 (.pick (.t 23) (.t 32) (.k (.bool false)))]
@[simp] def yl5n : UL | _ => xG 6 25 23 true (.mov (.t 5)) :: xG 7 26 23 true (.isl 1 (.t 24) (.t 25)) :: xG 8 27 23 true (.ldc (.t 26)) :: xG 9 28 23 true (.mov (.t 0)) :: xG 10 29 23 true (.mov (.t 4)) :: xG 11 30 23 true (.isl 1 (.t 28) (.t 29)) :: hid yl5m
@[simp] def yl5o : UL | _ => xM 0 19 5 :: xM 1 20 3 :: xQ 2 21 (.len (.t 20)) :: xQ 3 22 (.bin .lss (.t 19) (.t 21)) :: xM 4 23 22 :: xG 5 24 23 true (.mov (.t 3)) :: hid yl5n
@[simp] def yl5p : UL | _ => [xM 0 34 5, xQ 1 35 (.bin .add (.t 34) (xK 1)), xM 2 5 35]
@[simp] def yb5q : UB | _ => .seq (.seq (reg0 (hid yl5o) 15) (.cond (.t 33) .skip (.exit 2))) (.block 3 (reg0 (hid yl5p) 3))
@[simp] def yl5r : UL | _ => [xQ 0 6 (.mov (.k xS))]
@[simp] def yl5s : UL | _ => [⟨4, (some 40), none, (.app 3 1 8 (.t 36) (.t 39)), [5, 6, 7, 8, 9, 11, 12, 13]⟩, ⟨10, (some 46), none, (.app 3 1 8 (.t 40) (.t 45)), [11, 12, 13]⟩, xO 14 50 (.app 3 1 8 (.t 46) (.t 49)), xM 15 3 50]
@[simp] def yl5t : UL | _ => xQ 7 43 (.isl 1 (.t 41) (.t 42)) :: xQ 8 44 (.ldc (.t 43)) :: xQ 9 45 (.bsl 1 [xZ] 1 [(0, (.t 44))]) :: xM 11 47 3 :: xM 12 48 5 :: xQ 13 49 (.ssl 1 (.t 47) (some (.t 48)) none) :: hid yl5s
@[simp] def yl5u : UL | _ => xM 0 36 6 :: xM 1 37 3 :: xM 2 38 5 :: xQ 3 39 (.ssl 1 (.t 37) none (some (.t 38))) :: xM 5 41 0 :: xM 6 42 4 :: hid yl5t
@[simp] def yb5v : UB | _ => .seq (.block 2 (.loop (hid yb5q))) (.seq (reg0 (hid yl5r) 1) (reg1 (hid yl5u) 16))
@[simp] def yb5w : UB | _ => .seq (.seq (reg0 (hid yl5k) 6) (.cond (.t 18) (.exit 1) .skip)) (.seq (reg0 (hid yl5l) 1) (hid yb5v))
@[simp] def yl5x : UL | _ => [xM 0 11 4, xQ 1 12 (.bin .add (.t 11) (xK 1)), xM 2 4 12]
@[simp] def yb5y : UB | _ => .seq (.seq (reg0 (hid yl5j) 4) (.cond (.t 10) .skip (.exit 0))) (.seq (.block 1 (hid yb5w)) (reg0 (hid yl5x) 3))
@[simp] def yl5z : UL | _ => [xM 0 51 3, xQ 1 52 (.build (([xS] : List Value) ++ zU8 ++ [xZ, xZ]) [(0, 1, (.t 51))]), xO 2 53 (.fz (.q (.bsl 35 (([xS] : List Value) ++ zU8 ++ [xZ, xZ]) 1 [(0, (.t 52))]))), xQ 3 54 (.build [xS] [(0, 1, (.t 53))]), xN 4 (.fz (.sto 1 (.t 2) (.t 54)))]
@[simp] def yb60 : UB | _ => .seq (.seq (reg0 (hid yl5i) 1) (.block 0 (.loop (hid yb5y)))) (.seq (reg0 (hid yl5z) 5) .ret)
@[simp] def yb61 : UB | _ => .seq (reg0 (hid yl5g) 1) (.seq (reg0 (hid yl5h) 1) (hid yb60))
def c_cAll : EB × List QOp × Nat := ((hid yb61), [(.lda 1 (.t 2))], 55)
theorem k_cAll : cfun Tryz.prog 58 = some c_cAll := by kernel_rfl
theorem chas_ok (l : List Int) (x : Int) (hx : ∀ y ∈ l, y ≠ x) (hn : l.length ≤ 1000) : ECalls Tryz.prog 103 [IL l, I .i64 x] [] fun y H' => H' = [] ∧ y = .lit (.bool false) := by
  refine ecalls k_chas ?_
  simp [c_chas, I, IL]
  refine eloop (α := Nat) (fun i => i ≤ l.length) (fun i => l.length - i)
    (fun i => [IL l, I .i64 x, xA, xA, EV.lit (.bool false), I .i64 i, xA, xA, xA, xA, xA, xA, xA, xA, xA, xA, xA, .any]) (fun _ => []) 0 []
    (Nat.zero_le _) (by simp [I, IL]) (by simp) (by simp) (by simp) (by simp) ?_
  intro i hi
  simp [I, IL]
  refine alt (fun hlt => ?_) (fun hlt => ?_)
  · have hln : i < l.length := by omega
    obtain ⟨p, hc⟩ : ∃ p, l[i]? = some p := ⟨l[i], by simp [hln]⟩
    have hge : (intv l)[i]'(by simp [intv, hln]) = [.lit (.int .i64 p)] := gE (intv_get hc)
    have hpo := hx p (List.mem_of_getElem? hc)
    have w4 := wS (i := i) (by omega)
    simp [hln, hge, hpo, w4, -Int.natCast_add]
    exact round (i + 1) [] (by omega) (by omega) (by simp) (by simp) (by simp) (by simp) (by simp)
  · simp
    exact fin0
def insI (K : List Int) (x : Int) : List Int := K.take (posI K x) ++ x :: K.drop (posI K x)
theorem ins_row {K : List Int} {p : Int} {j : Nat} (h : posI K p = j) : List.take j (intv K) ++ [FV.lit (.int .i64 p)] :: List.drop j (List.take K.length (intv K)) = intv (insI K p) := by
  have e : List.take K.length (intv K) = intv K := List.take_of_length_le (by simp [intv])
  rw [e]
  unfold insI
  rw [h]
  simp [intv]
theorem ins_len (K : List Int) (p : Int) : (insI K p).length = K.length + 1 := by
  have h : posI K p ≤ K.length := posI_le K p
  unfold insI
  simp
  omega
theorem ins_mem (K : List Int) (x y : Int) : y ∈ insI K x ↔ y ∈ K ∨ y = x := by
  unfold insI
  rw [List.mem_append, List.mem_cons]
  conv => rhs; rw [← List.take_append_drop (posI K x) K, List.mem_append]
  constructor
  · rintro (h | h | h)
    · exact .inl (.inl h)
    · exact .inr h
    · exact .inl (.inr h)
  · rintro ((h | h) | h)
    · exact .inl h
    · exact .inr (.inr h)
    · exact .inr (.inl h)
theorem fold_len : ∀ (l K : List Int), (l.foldl insI K).length = K.length + l.length
  | [], K => by simp
  | a :: r, K => by rw [List.foldl_cons, fold_len r, ins_len]; simp; omega
theorem fold_mem : ∀ (l K : List Int) (y : Int), y ∈ l.foldl insI K ↔ y ∈ K ∨ y ∈ l
  | [], K, y => by simp
  | a :: r, K, y => by rw [List.foldl_cons, fold_mem r, ins_mem]; simp [or_assoc]
theorem cAll_ok (ks : List Int) (hd : ks.Pairwise (· ≠ ·)) (hn : ks.length ≤ 100) : ECalls Tryz.prog 58 [IL ks] [] fun y H' => H' = [] ∧ y = .v (.agg [.fz (.sl 35 [.sl 1 (intv (ks.foldl insI [])) :: (hf hz ++ [.lit (.int .i64 0), .lit (.int .i64 0)])])]) := by
  refine ecalls k_cAll ?_
  simp [c_cAll, I, IL]
  refine loopW _ (weak_nilF 3 1 rfl) ?_
  simp
  refine eloop (α := Nat) (fun i => i ≤ ks.length) (fun i => ks.length - i)
    (fun i => [IL ks, xA, Ptr 0, IL ((ks.take i).foldl insI []), I .i64 i, xA, xA, xA, xA, xA, xA, xA, xA, xA, xA, xA, xA, xA, xA, xA, xA, xA, xA, xA, xA, xA, xA, xA, xA, xA, xA, xA, xA, xA, xA, xA, xA, xA, xA, xA, xA, xA, xA, xA, xA, xA, xA, xA, xA, xA, xA, xA, xA, xA, .any]) (fun _ => [some (.box 145 [.fz (.lit (.slice none 0 0))])]) 0 [0]
    (Nat.zero_le _) (by simp [I, IL, Ptr, intv]) (by simp) (by simp) (by simp) (by simp) ?_
  intro i hi
  obtain ⟨K, hK⟩ : ∃ K, (ks.take i).foldl insI [] = K := ⟨_, rfl⟩
  have hKl : K.length = i := by rw [← hK, fold_len]; simp; omega
  have hKm : ∀ y, y ∈ K → y ∈ ks.take i := fun y hy => by rw [← hK, fold_mem] at hy; simpa using hy
  simp [I, IL, Ptr, hK]
  refine alt (fun hlt => ?_) (fun hlt => ?_)
  · have hln : i < ks.length := by omega
    obtain ⟨p, hc⟩ : ∃ p, ks[i]? = some p := ⟨ks[i], by simp [hln]⟩
    have hge : (intv ks)[i]'(by simp [intv, hln]) = [.lit (.int .i64 p)] := gE (intv_get hc)
    have hno : ∀ y ∈ K, y ≠ p := fun y hy => by
      have hp : (ks.take (i + 1)).Pairwise (· ≠ ·) := hd.sublist (List.take_sublist _ _)
      rw [List.take_add_one, hc] at hp
      exact (List.pairwise_append.1 hp).2.2 y (hKm y hy) p (by simp)
    have w4 := wS (i := i) (by omega)
    have ht1 : (ks.take (i + 1)).foldl insI [] = insI K p := by rw [List.take_add_one, hc]; simp [hK]
    simp [hln, hge]
    refine call0 (chas_ok K p hno (by omega)) (by simp [IL, I]) ?_
    rintro y H' ⟨rfl, rfl⟩
    refine ⟨.inl (by simp), le_ok rfl, ?_⟩
    simp
    refine eloop (α := Nat) (fun j => j ≤ K.length ∧ ∀ (k : Nat) (y : Int), k < j → K[k]? = some y → y < p) (fun j => K.length - j)
      (fun j => [IL ks, xA, Ptr 0, IL K, I .i64 i, I .i64 j, xA, xA, xA, xA, xA, xA, xA, xA, xA, xA, xA, xA, xA, xA, xA, xA, xA, xA, xA, xA, xA, xA, xA, xA, xA, xA, xA, xA, xA, xA, xA, xA, xA, xA, xA, xA, xA, xA, xA, xA, xA, xA, xA, xA, xA, xA, xA, xA, .any]) (fun _ => [some (.box 145 [.fz (.lit (.slice none 0 0))])]) 0 [0]
      ⟨Nat.zero_le _, fun k y hk => absurd hk (Nat.not_lt_zero k)⟩ (by simp [I, IL, Ptr]) (by simp) (by simp) (by simp) (by simp) ?_
    rintro j ⟨hj, hlo⟩
    simp [I, IL, Ptr]
    refine alt (fun hjl => ?_) (fun hjl => ?_)
    · have hjn : j < K.length := by omega
      obtain ⟨q, hq⟩ : ∃ q, K[j]? = some q := ⟨K[j], by simp [hjn]⟩
      have hqe : (intv K)[j]'(by simp [intv, hjn]) = [.lit (.int .i64 q)] := gE (intv_get hq)
      have w5 : IntKind.i64.wrap ((j : Int) + 1) = ((j + 1 : Nat) : Int) := wrap_i64 (by omega) (by omega)
      simp [hjn, hqe, hln, hge]
      by_cases hqp : q < p
      · simp [hqp, w5, -Int.natCast_add]
        refine round (j + 1) [0] ⟨by omega, ?_⟩ (by omega) (by simp) (by simp) (by simp) (by simp) (by simp)
        intro k y hk hy
        rcases Nat.lt_or_ge k j with h1 | h1
        · exact hlo k y h1 hy
        · obtain rfl : k = j := by omega
          rw [hq] at hy
          have := Option.some.inj hy
          omega
      · have hqn := hno q (List.mem_of_getElem? hq)
        have hpo : posI K p = j := posI_eq hj hlo (fun y hy => by rw [hq] at hy; have := Option.some.inj hy; omega)
        have hge' := intv_get hc
        simp [hj, hge', hln, hge, hqp, w4, -Int.natCast_add]
        refine ⟨by omega, by omega, by omega, ?_⟩
        rw [ins_row hpo, show j + 1 + (K.length - j) = K.length + 1 by omega]
        refine ⟨i + 1, by omega, by show ks.length - (i + 1) < ks.length - i; omega, (weak_frz (o := 481) (ty := 3) (es := 1) (xs := intv (insI K p)) rfl).trans (weak_norm [0] _ _ ?_ ?_ (by simp) (by simp) (by simp))⟩
        · simp [fzEV, ht1]
          exact List.take_of_length_le (by simp [intv, ins_len])
        · simp
    · have hjl' : ¬ j < K.length := by omega
      have hjl2 : K.length ≤ j := by omega
      simp [hjl', hjl2]
      have hpo : posI K p = j := posI_eq hj hlo (fun y hy => by have := lt_len hy; omega)
      have hge' := intv_get hc
      simp [hj, hjl', hge', hln, hge, w4, -Int.natCast_add]
      refine ⟨by omega, by omega, by omega, ?_⟩
      rw [ins_row hpo, show j + 1 + (K.length - j) = K.length + 1 by omega]
      refine ⟨i + 1, by omega, by show ks.length - (i + 1) < ks.length - i; omega, (weak_frz (o := 481) (ty := 3) (es := 1) (xs := intv (insI K p)) rfl).trans (weak_norm [0] _ _ ?_ ?_ (by simp) (by simp) (by simp))⟩
      · simp [fzEV, ht1]
        exact List.take_of_length_le (by simp [intv, ins_len])
      · simp
  · obtain rfl : i = ks.length := by omega
    rw [List.take_length] at hK
    have hr0 : (hc hz).flatMap rowsE = [] := rfl
    have hfz : frzAll (hc hz ++ [.fz (.lit (.int .i64 0)), .fz (.lit (.int .i64 0))]) = some (hf hz ++ [.lit (.int .i64 0), .lit (.int .i64 0)]) := rfl
    have hfl : (hf hz).length = 32 := rfl
    simp [hr0, hK, hfz, hfl]
    exact fin0
@[simp] def yl62 : UL | _ => [xQ 0 2 (.mov (.k xS))]
@[simp] def yl63 : UL | _ => [xM 0 6 0, xQ 1 7 (.len (.t 6)), xQ 2 8 (.bin .lss (.t 7) (xK 2))]
@[simp] def yl64 : UL | _ => [xM 0 9 0, xM 1 2 9]
@[simp] def yb65 : UB | _ => .seq (reg0 (hid yl63) 3) (.cond (.t 8) (.seq (reg0 (hid yl64) 2) .ret) .skip)
@[simp] def yl66 : UL | _ => [xQ 0 3 (.mov (xK 1))]
@[simp] def yl67 : UL | _ => [xM 0 10 3, xM 1 11 0, xQ 2 12 (.len (.t 11)), xQ 3 13 (.bin .lss (.t 10) (.t 12))]
@[simp] def yl68 : UL | _ => [xQ 6 22 (.bin .sub (.t 21) (xK 1)), xQ 7 23 (.isl 1 (.t 20) (.t 22)), xQ 8 24 (.ldc (.t 23)), xQ 9 25 (.bin .eql (.t 19) (.t 24))]
@[simp] def yl69 : UL | _ => xM 0 16 0 :: xM 1 17 3 :: xQ 2 18 (.isl 1 (.t 16) (.t 17)) :: xQ 3 19 (.ldc (.t 18)) :: xM 4 20 0 :: xM 5 21 3 :: hid yl68
@[simp] def yl6a : UL | _ => [xM 0 26 0, xM 1 27 3, xQ 2 28 (.ssl 1 (.t 26) (some (.t 27)) none), xM 3 4 28]
@[simp] def yl6b : UL | _ => [xQ 0 5 (.mov (xK 1))]
@[simp] def yl6c : UL | _ => [xM 0 29 5, xM 1 30 4, xQ 2 31 (.len (.t 30)), xQ 3 32 (.bin .lss (.t 29) (.t 31))]
@[simp] def yl6d : UL | _ => [xQ 6 41 (.bin .sub (.t 40) (xK 1)), xQ 7 42 (.isl 1 (.t 39) (.t 41)), xQ 8 43 (.ldc (.t 42)), xQ 9 44 (.bin .neq (.t 38) (.t 43))]
@[simp] def yl6e : UL | _ => xM 0 35 4 :: xM 1 36 5 :: xQ 2 37 (.isl 1 (.t 35) (.t 36)) :: xQ 3 38 (.ldc (.t 37)) :: xM 4 39 4 :: xM 5 40 5 :: hid yl6d
@[simp] def yl6f : UL | _ => [xQ 6 51 (.isl 1 (.t 45) (.t 46)), xN 7 (.sto 1 (.t 51) (.t 50))]
@[simp] def yl6g : UL | _ => xM 0 45 0 :: xM 1 46 3 :: xM 2 47 4 :: xM 3 48 5 :: xQ 4 49 (.isl 1 (.t 47) (.t 48)) :: xQ 5 50 (.ldc (.t 49)) :: hid yl6f
@[simp] def yl6h : UL | _ => [xM 0 52 3, xQ 1 53 (.bin .add (.t 52) (xK 1)), xM 2 3 53]
@[simp] def yb6i : UB | _ => .cond (.t 44) (.seq (reg0 (hid yl6g) 8) (reg0 (hid yl6h) 3)) .skip
@[simp] def yl6j : UL | _ => [xM 0 33 5, xQ 1 34 (.bin .add (.t 33) (xK 1)), xM 2 5 34]
@[simp] def yb6k : UB | _ => .seq (.block 3 (.seq (reg0 (hid yl6e) 10) (hid yb6i))) (reg0 (hid yl6j) 3)
@[simp] def yb6l : UB | _ => .seq (.seq (reg0 (hid yl6c) 4) (.cond (.t 32) .skip (.exit 2))) (hid yb6k)
@[simp] def yl6m : UL | _ => [xM 0 57 0, xM 1 58 3, xQ 2 59 (.ssl 1 (.t 57) none (some (.t 58))), xM 3 2 59]
@[simp] def yb6n : UB | _ => .seq (.seq (reg0 (hid yl6b) 1) (.block 2 (.loop (hid yb6l)))) (.seq .bot (.seq (reg0 (hid yl6m) 4) .ret))
@[simp] def yb6o : UB | _ => .seq (reg0 (hid yl69) 10) (.cond (.t 25) (.seq (reg0 (hid yl6a) 4) (hid yb6n)) .skip)
@[simp] def yl6p : UL | _ => [xM 0 14 3, xQ 1 15 (.bin .add (.t 14) (xK 1)), xM 2 3 15]
@[simp] def yb6q : UB | _ => .seq (.seq (reg0 (hid yl67) 4) (.cond (.t 13) .skip (.exit 0))) (.seq (.block 1 (hid yb6o)) (reg0 (hid yl6p) 3))
@[simp] def yl6r : UL | _ => [xM 0 60 0, xM 1 2 60]
@[simp] def yb6s : UB | _ => .seq (.seq (reg0 (hid yl66) 1) (.block 0 (.loop (hid yb6q)))) (.seq (reg0 (hid yl6r) 2) .ret)
@[simp] def yb6t : UB | _ => .seq (reg0 (hid yl62) 1) (.seq (hid yb65) (hid yb6s))
def c_CompI : EB × List QOp × Nat := ((hid yb6t), [(.mov (.t 2))], 61)
theorem k_CompI : cfun Tryz.prog 102 = some c_CompI := by kernel_rfl
@[simp] def yl6u : UL | _ => [xQ 0 2 (.alloc 116 [xS])]
@[simp] def yl6v : UL | _ => [xM 0 4 0, xO 1 5 (.call 100 [(.t 4)]), xM 2 3 5]
@[simp] def yl6w : UL | _ => [xM 0 6 3, xO 1 7 (.call 101 [(.t 6)])]
@[simp] def yl6x : UL | _ => [xM 0 8 3, xO 1 9 (.call 102 [(.t 8)]), xQ 2 10 (.build (([xS] : List Value) ++ zU8 ++ [xZ, xZ]) [(0, 1, (.t 9))]), xO 3 11 (.fz (.q (.bsl 35 (([xS] : List Value) ++ zU8 ++ [xZ, xZ]) 1 [(0, (.t 10))]))), xQ 4 12 (.build [xS] [(0, 1, (.t 11))]), xN 5 (.fz (.sto 1 (.t 2) (.t 12)))]
@[simp] def yb6y : UB | _ => .seq (reg0 (hid yl6v) 3) (.seq (reg0 (hid yl6w) 2) (.seq (reg0 (hid yl6x) 6) .ret))
@[simp] def yb6z : UB | _ => .seq (reg0 (hid yl6u) 1) (hid yb6y)
def c_PAll : EB × List QOp × Nat := ((hid yb6z), [(.lda 1 (.t 2))], 13)
theorem k_PAll : cfun Tryz.prog 57 = some c_PAll := by kernel_rfl
@[simp] def yl70 : UL | _ => [xQ 0 2 (.mov (.k xS))]
@[simp] def yl71 : UL | _ => [xM 0 3 0, xO 1 4 (.nild false (.t 3))]
@[simp] def yl72 : UL | _ => [xQ 0 2 (.mov (.k xS))]
@[simp] def yb73 : UB | _ => .seq (reg0 (hid yl71) 2) (.cond (.t 4) (.seq (reg0 (hid yl72) 1) .ret) .skip)
@[simp] def yl74 : UL | _ => [xQ 0 5 (.bsr 187 35 (([xS] : List Value) ++ zU8 ++ [xZ, xZ]) 0 []), xM 1 6 0, xO 2 7 (.app 187 35 72 (.t 5) (.t 6)), xM 3 2 7]
@[simp] def yb75 : UB | _ => .seq (reg0 (hid yl70) 1) (.seq (hid yb73) (.seq (reg0 (hid yl74) 4) .ret))
def c_CloneBr : EB × List QOp × Nat := ((hid yb75), [(.mov (.t 2))], 8)
theorem k_CloneBr : cfun Tryz.prog 153 = some c_CloneBr := by kernel_rfl
@[simp] def yl76 : UL | _ => [xQ 0 1 (.box 116 (.t 0)), xQ 1 2 (.alloc 116 [xS])]
@[simp] def yl77 : UL | _ => [xQ 0 5 (.fad 0 (.t 1)), xQ 1 6 (.ldc (.t 5)), xO 2 7 (.call 153 [(.t 6)]), xM 3 3 7]
@[simp] def yl78 : UL | _ => [xM 0 8 3, xQ 1 9 (.len (.t 8)), xQ 2 10 (.mov (xK 0))]
@[simp] def yl79 : UL | _ => [xQ 0 11 (.bin .lss (.t 10) (.t 9))]
@[simp] def yl7a : UL | _ => [xM 0 12 10, xM 1 4 12]
@[simp] def yl7b : UL | _ => [xQ 6 19 (.ldc (.t 18)), xO 7 20 (.call 100 [(.t 19)]), xQ 8 21 (.isl 35 (.t 13) (.t 14)), xQ 9 22 (.fad 0 (.t 21)), xN 10 (.fz (.sto 1 (.t 22) (.t 20)))]
@[simp] def yl7c : UL | _ => xM 0 13 3 :: xM 1 14 4 :: xM 2 15 3 :: xM 3 16 4 :: xQ 4 17 (.isl 35 (.t 15) (.t 16)) :: xQ 5 18 (.fad 0 (.t 17)) :: hid yl7b
@[simp] def yl7d : UL | _ => [xQ 0 23 (.bin .add (.t 10) (xK 1)), xM 1 10 23]
@[simp] def yb7e : UB | _ => .seq (.block 1 (.seq (reg0 (hid yl7a) 2) (reg0 (hid yl7c) 11))) (reg0 (hid yl7d) 2)
@[simp] def yb7f : UB | _ => .seq (reg0 (hid yl79) 1) (.seq (.cond (.t 11) .skip (.exit 0)) (hid yb7e))
@[simp] def yl7g : UL | _ => [xM 0 24 3, xQ 1 25 (.build [xS] [(0, 1, (.t 24))]), xN 2 (.fz (.sto 1 (.t 2) (.t 25)))]
@[simp] def yb7h : UB | _ => .seq (.seq (reg0 (hid yl78) 3) (.block 0 (.loop (hid yb7f)))) (.seq (reg0 (hid yl7g) 3) .ret)
@[simp] def yb7i : UB | _ => .seq (reg0 (hid yl76) 2) (.seq (reg0 (hid yl77) 4) (hid yb7h))
def c_POwn : EB × List QOp × Nat := ((hid yb7i), [(.lda 1 (.t 2))], 26)
theorem k_POwn : cfun Tryz.prog 104 = some c_POwn := by kernel_rfl
@[simp] def yl7j : UL | _ => [xQ 0 2 (.box 116 (.t 0)), xQ 1 3 (.box 116 (.t 1)), xQ 2 4 (.alloc 116 [xS])]
@[simp] def yl7k : UL | _ => [xO 6 11 (.app 187 35 72 (.t 7) (.t 10)), xQ 7 12 (.build [xS] [(0, 1, (.t 11))]), xN 8 (.fz (.sto 1 (.t 4) (.t 12)))]
@[simp] def yl7l : UL | _ => xQ 0 5 (.lda 1 (.t 2)) :: xQ 3 8 (.lda 1 (.t 3)) :: ⟨1, (some 6), none, (.call 104 [(.t 5)]), [3]⟩ :: xQ 2 7 (.fgc 0 (.t 6)) :: ⟨4, (some 9), none, (.call 104 [(.t 8)]), [2]⟩ :: xQ 5 10 (.fgc 0 (.t 9)) :: hid yl7k
@[simp] def yb7m : UB | _ => .seq (reg0 (hid yl7j) 3) (.seq (reg1 (hid yl7l) 9) .ret)
def c_POr : EB × List QOp × Nat := ((hid yb7m), [(.lda 1 (.t 4))], 13)
theorem k_POr : cfun Tryz.prog 59 = some c_POr := by kernel_rfl
@[simp] theorem rowsE_hc (l : List UInt8) : (hc l).flatMap rowsE = [] := by
  induction l with
  | nil => rfl
  | cons a r ih => exact ih
@[simp] theorem fzM_hc (H : Nat → Option EO) (d : List Nat) (l : List UInt8) : (hc l).map (fzM H d) = hc l := by
  induction l with
  | nil => rfl
  | cons a r ih =>
    show _ :: (hc r).map (fzM H d) = _
    rw [ih]
    rfl
theorem frzAll_hc (l : List UInt8) (r : List EC) : frzAll (hc l ++ r) = (frzAll r).map (hf l ++ ·) := by
  induction l with
  | nil => cases h : frzAll r <;> simp [hc, hf, h]
  | cons a t ih =>
    show ((some (FV.lit (.int .u8 a.toNat))).bind fun x => (frzAll (hc t ++ r)).map (x :: ·)) = _
    rw [ih]
    cases frzAll r <;> rfl
theorem bset (b : Bra) : FV.sl 1 (intv b.keys) :: List.tail (braF b) = braF b := rfl
theorem bset' (b : Bra) : FV.sl 1 (intv b.keys) :: List.drop 1 (braF b) = braF b := rfl
def KeysOK (ks : List Int) : Prop := 1 ≤ ks.length ∧ ks.length ≤ 16 ∧ (ks.length ≤ 12 ∨ RisI ks) ∧ RisI (insN ks) ∧ ks.Pairwise (· ≠ ·) ∧ ks.foldl insI [] = insN ks
def allB (ks : List Int) : List Bra := [⟨insN ks, hz, 0, 0⟩]
theorem ris_pw {l : List Int} (h : RisI l) : l.Pairwise (· < ·) := by
  rw [List.pairwise_iff_getElem]
  intro i j hi hj hij
  have := ris_lt h (j - i - 1) i l[i] l[j] (by simp [hi]) (by rw [show i + 1 + (j - i - 1) = j by omega]; simp [hj])
  exact this
theorem fold_ris : ∀ (l K : List Int), (K ++ l).Pairwise (· < ·) → l.foldl insI K = K ++ l
  | [], K, _ => by simp
  | a :: r, K, h => by
    have hlt : ∀ y ∈ K, y < a := fun y hy => (List.pairwise_append.1 h).2.2 y hy a (by simp)
    have hp : posI K a = K.length := by
      refine posI_eq (Nat.le_refl _) ?_ ?_
      · intro k y _ hy; exact hlt y (List.mem_of_getElem? hy)
      · intro y hy; simp at hy
    have e : insI K a = K ++ [a] := by
      unfold insI
      rw [hp, List.take_length, List.drop_length]
    rw [List.foldl_cons, e, fold_ris r (K ++ [a]) (by simpa using h)]
    simp
theorem keys_ris {ks : List Int} (h1 : 1 ≤ ks.length) (h2 : ks.length ≤ 16) (h : RisI ks) : KeysOK ks ∧ insN ks = ks := by
  have hp := ris_pw h
  have he := ins_ris h
  exact ⟨⟨h1, h2, .inr h, by rw [he]; exact h, hp.imp (fun h => by omega), by rw [he, fold_ris ks [] (by simpa using hp)]; rfl⟩, he⟩
theorem ris_one (a : Int) : RisI [a] := by
  intro i x y h1 h2
  simp at h2
theorem keys_one (a : Int) : KeysOK [a] ∧ insN [a] = [a] := keys_ris (by simp) (by simp) (ris_one a)
theorem CompI_ok (l : List Int) (n : Nat) (hl : l.length = n) (h1 : 1 ≤ n) (h2 : n ≤ 1000) (h : RisI l) : ECalls Tryz.prog 102 [.v (.c (.row 0 n))] [.row 3 1 (intv l)] fun y H' => H' = [some (.row 3 1 (intv l))] ∧ y = .v (.c (.row 0 n)) := by
  refine ecalls k_CompI ?_
  simp [c_CompI, I]
  by_cases c1 : n < 2
  · have c1' : (n : Int) < 2 := by omega
    simp [c1, c1']
    exact fin [] (by decide) rfl rfl (by simp [objsOut, show List.range 1 = [0] from rfl]) ⟨rfl, rfl⟩
  have c1' : ¬ (n : Int) < 2 := by omega
  simp [c1, c1']
  refine eloop (α := Nat) (fun i => 1 ≤ i ∧ i ≤ n) (fun i => n - i) (fun i => [.v (.c (.row 0 n)), xA, xA, I .i64 i, xA, xA, xA, xA, xA, xA, xA, xA, xA, xA, xA, xA, xA, xA, xA, xA, xA, xA, xA, xA, xA, xA, xA, xA, xA, xA, xA, xA, xA, xA, xA, xA, xA, xA, xA, xA, xA, xA, xA, xA, xA, xA, xA, xA, xA, xA, xA, xA, xA, xA, xA, xA, xA, xA, xA, xA, .any]) (fun _ => [some (.row 3 1 (intv l))]) 1 [0]
    ⟨by omega, by omega⟩ (by simp [I]) (by simp) (by simp) (by simp) (by simp) ?_
  rintro i ⟨hi1, hi2⟩
  by_cases hlt : i < n
  · have hli : (i : Int) < n := by omega
    have hll : i < l.length := by omega
    obtain ⟨p, rfl⟩ : ∃ p, i = p + 1 := ⟨i - 1, by omega⟩
    obtain ⟨a, ha⟩ : ∃ a, l[p]? = some a := ⟨l[p], by simp [show p < l.length by omega]⟩
    obtain ⟨b, hb⟩ : ∃ b, l[p + 1]? = some b := ⟨l[p + 1], by simp [hll]⟩
    have hab : ¬ b = a := by have := h p a b ha hb; omega
    have wj : IntKind.i64.wrap (((p + 1 : Nat) : Int) - 1) = (p : Int) := by rw [wrap_i64 (by omega) (by omega)]; omega
    have w1 : IntKind.i64.wrap (((p + 1 : Nat) : Int) + 1) = ((p + 1 + 1 : Nat) : Int) := wrap_i64 (by omega) (by omega)
    have ga : ∀ h2, (intv l)[p]'h2 = [.lit (.int .i64 a)] := fun h2 => by rw [intv_at (by omega), ha]; rfl
    have gb : ∀ h2, (intv l)[p + 1]'h2 = [.lit (.int .i64 b)] := fun h2 => by rw [intv_at (by omega), hb]; rfl
    have hpl : p < l.length := by omega
    have hpn : p < n := by omega
    have hpi : (p : Int) < n := by omega
    generalize hje : p + 1 = j at *
    have n0 : ¬ ((j : Int) < 0) := by omega
    have n1 : ¬ ((p : Int) < 0) := by omega
    simp [I, hli, hlt, wj, ga, gb, hpl, hll, hpn, hpi, n0, n1, hab, hl]
    simp [w1, -Int.natCast_add]
    exact round (j + 1) [0] ⟨by omega, by omega⟩ (by omega) (by simp [I]) (by simp) (by simp) (by simp) (by simp)
  · have h3' : i = n := by omega
    subst h3'
    simp [I]
    exact fin [] (by decide) rfl rfl (by simp [objsOut, show List.range 1 = [0] from rfl]) ⟨rfl, rfl⟩
theorem PAll_ok (ks : List Int) (h : KeysOK ks) : ECalls Tryz.prog 57 [IL ks] [] fun y H' => H' = [] ∧ y = CNv (allB ks) := by
  obtain ⟨h1, h2, h3, h4, h5, h6⟩ := h
  have hil : (insN ks).length = ks.length := insN_len ks
  refine ecalls k_PAll ?_
  simp [c_PAll, IL]
  refine call0 (cloneI_ok ks (by omega)) (by simp [IL]) ?_
  rintro y H' ⟨rfl, rfl⟩
  refine ⟨.inl (by simp), by simp, ?_⟩
  simp
  refine callH [32] (SortN_ok ks ks.length rfl h1 h2 h3) (by simp) (by simp) (by simp) (by simp) (by simp) ?_
  rintro y H' ⟨rfl, rfl⟩
  refine ⟨.inl (by simp), by simp, ?_⟩
  simp
  refine callH [32] (CompI_ok (insN ks) ks.length hil h1 (by omega) h4) (by simp) (by simp) (by simp) (by simp) (by simp) ?_
  rintro y H' ⟨rfl, rfl⟩
  refine ⟨.inl (by simp), by simp, ?_⟩
  have tk : List.take ks.length (intv (insN ks)) = intv (insN ks) := List.take_of_length_le (by simp [hil])
  simp [tk, frzAll_hc]
  exact fin0
theorem CloneBr_ok (l : List Bra) (hn : l.length ≤ 100000000) : ECalls Tryz.prog 153 [.v (.c (.fz (.sl 35 (brav l))))] [] fun y H' => H' = [some (.row 187 35 (brav l))] ∧ y = .v (.c (.row 0 l.length)) := by
  refine ecalls k_CloneBr ?_
  simp [c_CloneBr]
  refine both (fun h => ?_) (fun _ => ?_)
  · simp
    refine finW _ (weak_nilR 2 187 35 rfl (by omega)) ?_
    have hn : l = [] := by cases l <;> simp_all
    subst hn
    exact fin [64] (by decide) rfl rfl rfl ⟨by simp [brav], by simp⟩
  · simp
    exact ⟨by omega, fin [80] (by decide) rfl rfl rfl ⟨rfl, by simp⟩⟩
theorem brav_set {l : List Bra} {i : Nat} {b : Bra} (h : l[i]? = some b) : (brav l).set i (braF b) = brav l := by
  unfold brav
  rw [← List.map_set]
  congr 1
  apply List.ext_getElem?
  intro j
  rw [List.getElem?_set]
  by_cases e : i = j
  · subst e
    have hlt : i < l.length := lt_of_get h
    rw [if_pos rfl, if_pos hlt, h]
  · rw [if_neg e]
theorem POwn_ok (l : List Bra) (hl : ∀ b ∈ l, b.ok) (hn : l.length ≤ 2000000) : ECalls Tryz.prog 104 [CNv l] [] fun y H' => H' = [some (.row 187 35 (brav l))] ∧ y = .v (.agg [.row 0 l.length]) := by
  refine ecalls k_POwn ?_
  simp [c_POwn, CNv]
  refine call0 (CloneBr_ok l (by omega)) (by simp) ?_
  rintro y H' ⟨rfl, rfl⟩
  refine ⟨.inl (by simp), by simp, ?_⟩
  simp
  refine eloop (α := Nat) (fun i => i ≤ l.length) (fun i => l.length - i)
    (fun i => [xA, xA, Ptr 0, .v (.c (.row 1 l.length)), xA, xA, xA, xA, xA, I .i64 l.length, I .i64 i, xA, xA, xA, xA, xA, xA, xA, xA, xA, xA, xA, xA, xA, xA, .any]) (fun _ => [some (.box 116 [.fz (.lit (.slice none 0 0))]), some (.row 187 35 (brav l))]) 0 [16, 64]
    (Nat.zero_le _) (by simp [Ptr, I]) (by simp) (by simp) (by simp) (by simp) ?_
  intro i hi
  simp [Ptr, I]
  refine alt (fun hlt => ?_) (fun hlt => ?_)
  · have hln : i < l.length := by omega
    obtain ⟨b, hcb⟩ : ∃ b, l[i]? = some b := ⟨l[i], by simp [hln]⟩
    have hge : (brav l)[i]'(by simp [hln]) = braF b := gE (brav_get hcb)
    have hb := hl b (List.mem_of_getElem? hcb)
    have l0 := bc_len hb.2.1
    have l1 := bf_len hb.2.1
    have e0 := idx_of (bc_0 b) (by omega)
    have tk : List.take b.keys.length (intv b.keys) = intv b.keys := List.take_of_length_le (by simp)
    have w1 := wS (i := i) (by omega)
    simp [hln, hge, braF_fz, l0, e0]
    refine call0 (cloneI_ok b.keys hb.2.2.2.2) (by simp [IL]) ?_
    rintro y H' ⟨rfl, rfl⟩
    refine ⟨.inl (by simp), by simp, ?_⟩
    simp [hln, hge, braF_fz, l0, l1, e0, tk, bset, bset', brav_set hcb, w1, -Int.natCast_add]
    exact round (i + 1) [0, 1] (by omega) (by omega) (by simp [Ptr, I]) (by simp) (by simp) (by simp) (by simp)
  have hil : i = l.length := by omega
  subst hil
  simp
  exact fin [1] (by decide) rfl rfl rfl ⟨rfl, rfl⟩
theorem POr_ok (a b : List Bra) (ha : ∀ x ∈ a, x.ok) (hb : ∀ x ∈ b, x.ok) (hna : a.length ≤ 2000000) (hnb : b.length ≤ 2000000) : ECalls Tryz.prog 59 [CNv a, CNv b] [] fun y H' => H' = [] ∧ y = CNv (a ++ b) := by
  refine ecalls k_POr ?_
  simp [c_POr, CNv]
  refine call0 (POwn_ok a ha hna) (by simp [CNv]) ?_
  rintro y H' ⟨rfl, rfl⟩
  refine ⟨.inl (by simp), by simp, ?_⟩
  simp
  refine call0 (POwn_ok b hb hnb) (by simp [CNv]) ?_
  rintro y H' ⟨rfl, rfl⟩
  refine ⟨.inl (by simp), by simp, ?_⟩
  simp
  refine ⟨⟨by omega, by omega⟩, ?_⟩
  have tk : List.take b.length (brav b) = brav b := List.take_of_length_le (by simp)
  have tk2 : List.take (a.length + b.length) (brav a ++ brav b) = brav (a ++ b) := by
    have e : brav a ++ brav b = brav (a ++ b) := by simp [brav]
    rw [e, List.take_of_length_le (by simp)]
  rw [tk]
  refine finW _ (weak_frz (o := 144) (ty := 187) (es := 35) (xs := brav a ++ brav b) rfl) ?_
  exact fin [] (by decide) rfl rfl rfl ⟨rfl, by simp [tk2]⟩
@[simp] def yl7n : UL | _ => [xQ 0 1 (.box 47 (.t 0)), xQ 1 2 (.mov (.k .nilIface))]
@[simp] def yl7o : UL | _ => [xQ 0 3 (.lda 5 (.t 1)), xO 1 4 (.call 69 [(.t 3)]), xQ 2 5 (.un .not (.t 4))]
@[simp] def yl7p : UL | _ => [xQ 0 6 (.mki 120 (xK 1)), xM 1 2 6]
@[simp] def yb7q : UB | _ => .seq (reg0 (hid yl7o) 3) (.cond (.t 5) (.seq (reg0 (hid yl7p) 2) .ret) .skip)
@[simp] def yl7r : UL | _ => [xQ 0 2 (.mov (.k .nilIface))]
@[simp] def yb7s : UB | _ => .seq (reg0 (hid yl7n) 2) (.seq (hid yb7q) (.seq (reg0 (hid yl7r) 1) .ret))
def c_SCheck : EB × List QOp × Nat := ((hid yb7s), [(.mov (.t 2))], 7)
theorem k_SCheck : cfun Tryz.prog 49 = some c_SCheck := by kernel_rfl
theorem SCheck_ok (s : Sta) (hs : s.ok) : ECalls Tryz.prog 49 [SV s] [] fun y H' => H' = [] ∧ y = .lit (if mayS s then .nilIface else errV 1) := by
  refine ecalls k_SCheck ?_
  simp [c_SCheck, SV, staC]
  refine call0 (Smay_ok s hs) (by simp [Ptr, I, EV.lit, SV, staC, SE]) ?_
  rintro y H' ⟨rfl, rfl⟩
  refine ⟨.inl (by simp [Ptr, I, EV.lit, SV, staC, SE]), le_ok rfl, ?_⟩
  simp [Ptr, I, EV.lit, SV, staC, SE]
  cases hm : mayS s
  · simp
    exact fin0
  · simp
    exact fin0
@[simp] def yl7t : UL | _ => [xQ 0 1 (.box 187 (.t 0)), xQ 1 2 (.alloc 116 [xS])]
@[simp] def yl7u : UL | _ => [xQ 0 3 (.lda 35 (.t 1)), xO 1 4 (.fz (.q (.bsl 35 (([xS] : List Value) ++ zU8 ++ [xZ, xZ]) 1 [(0, (.t 3))]))), xQ 2 5 (.build [xS] [(0, 1, (.t 4))]), xN 3 (.fz (.sto 1 (.t 2) (.t 5)))]
@[simp] def yb7v : UB | _ => .seq (reg0 (hid yl7t) 2) (.seq (reg0 (hid yl7u) 4) .ret)
def c_BOne : EB × List QOp × Nat := ((hid yb7v), [(.lda 1 (.t 2))], 6)
theorem k_BOne : cfun Tryz.prog 140 = some c_BOne := by kernel_rfl
@[simp] def yl7w : UL | _ => [xQ 0 1 (.box 123 (.t 0)), xQ 1 2 (.alloc 187 (([xS] : List Value) ++ zU8 ++ [xZ, xZ]))]
@[simp] def yl7x : UL | _ => [xQ 6 9 (.ldc (.t 8)), xQ 7 10 (.bsl 1 [xZ] 1 [(0, (.t 9))]), xQ 8 11 (.fad 44 (.t 1)), xQ 9 12 (.lda 32 (.t 11)), xQ 10 13 (.build (([xS] : List Value) ++ zU8 ++ [xZ, xZ]) [(0, 1, (.t 10)), (1, 32, (.t 12))]), xN 11 (.fz (.sto 35 (.t 2) (.t 13)))]
@[simp] def yl7y : UL | _ => xQ 0 3 (.fad 43 (.t 1)) :: xQ 1 4 (.ldc (.t 3)) :: xQ 2 5 (.bin .sub (xK 1) (.t 4)) :: xQ 3 6 (.fad 0 (.t 1)) :: xQ 4 7 (.fad 34 (.t 6)) :: xQ 5 8 (.iad 2 1 (.t 7) (.t 5)) :: hid yl7x
@[simp] def yb7z : UB | _ => .seq (reg0 (hid yl7w) 2) (.seq (reg0 (hid yl7y) 12) .ret)
def c_BFine : EB × List QOp × Nat := ((hid yb7z), [(.lda 35 (.t 2))], 14)
theorem k_BFine : cfun Tryz.prog 141 = some c_BFine := by kernel_rfl
@[simp] def yl80 : UL | _ => [xQ 0 2 (.box 123 (.t 0)), xQ 1 4 (.mov (xK 0))]
@[simp] def yl81 : UL | _ => [xM 0 5 1, xQ 1 6 (.fad 43 (.t 2)), xQ 2 7 (.ldc (.t 6)), xQ 3 8 (.bin .eql (.t 5) (.t 7))]
@[simp] def yl82 : UL | _ => [xQ 0 9 (.fad 0 (.t 2)), xQ 1 10 (.fad 36 (.t 9)), xQ 2 11 (.ldc (.t 10)), xM 3 4 11]
@[simp] def yb83 : UB | _ => .seq (reg0 (hid yl81) 4) (.cond (.t 8) (.seq (reg0 (hid yl82) 4) .ret) .skip)
@[simp] def yl84 : UL | _ => [xQ 0 4 (.mov (xK 0))]
@[simp] def yb85 : UB | _ => .seq (reg0 (hid yl80) 2) (.seq (hid yb83) (.seq (reg0 (hid yl84) 1) .ret))
def c_BWait : EB × List QOp × Nat := ((hid yb85), [(.mov (.t 4))], 12)
theorem k_BWait : cfun Tryz.prog 142 = some c_BWait := by kernel_rfl
@[simp] def yl86 : UL | _ => [xQ 0 2 (.box 123 (.t 0)), xQ 1 3 (.box 126 (.t 1)), xQ 2 4 (.alloc 116 [xS])]
@[simp] def yl87 : UL | _ => [⟨11, (some 16), none, (.call 140 [(.t 15)]), [12]⟩, xO 13 18 (.call 141 [(.t 17)]), xO 14 19 (.call 140 [(.t 18)]), xO 15 20 (.call 59 [(.t 16), (.t 19)]), xN 16 (.fz (.sto 1 (.t 4) (.t 20)))]
@[simp] def yl88 : UL | _ => xQ 6 11 (.bsl 1 [xZ] 1 [(0, (.t 10))]) :: xQ 7 12 (.fad 0 (.t 2)) :: xQ 8 13 (.fad 36 (.t 12)) :: xQ 9 14 (.ldc (.t 13)) :: xQ 10 15 (.build (([xS] : List Value) ++ zU8 ++ [xZ, xZ]) [(0, 1, (.t 11)), (34, 1, (.t 14))]) :: xQ 12 17 (.lda 76 (.t 2)) :: hid yl87
@[simp] def yl89 : UL | _ => xQ 0 5 (.fad 43 (.t 2)) :: xQ 1 6 (.ldc (.t 5)) :: xQ 2 7 (.fad 0 (.t 2)) :: xQ 3 8 (.fad 34 (.t 7)) :: xQ 4 9 (.iad 2 1 (.t 8) (.t 6)) :: xQ 5 10 (.ldc (.t 9)) :: hid yl88
@[simp] def yb8a : UB | _ => .seq (reg0 (hid yl86) 3) (.seq (reg1 (hid yl89) 17) .ret)
def c_BOwn : EB × List QOp × Nat := ((hid yb8a), [(.lda 1 (.t 4))], 21)
theorem k_BOwn : cfun Tryz.prog 86 = some c_BOwn := by kernel_rfl
@[simp] def yl8b : UL | _ => [xQ 0 2 (.box 123 (.t 0)), xQ 1 3 (.box 126 (.t 1)), xQ 2 4 (.alloc 116 [xS])]
@[simp] def yl8c : UL | _ => [xQ 6 11 (.ldc (.t 10)), xQ 7 12 (.bsl 1 [xZ] 1 [(0, (.t 11))]), xO 8 13 (.call 57 [(.t 12)]), xN 9 (.fz (.sto 1 (.t 4) (.t 13)))]
@[simp] def yl8d : UL | _ => xQ 0 5 (.fad 43 (.t 2)) :: xQ 1 6 (.ldc (.t 5)) :: xQ 2 7 (.bin .sub (xK 1) (.t 6)) :: xQ 3 8 (.fad 0 (.t 2)) :: xQ 4 9 (.fad 34 (.t 8)) :: xQ 5 10 (.iad 2 1 (.t 9) (.t 7)) :: hid yl8c
@[simp] def yb8e : UB | _ => .seq (reg0 (hid yl8b) 3) (.seq (reg0 (hid yl8d) 10) .ret)
def c_BOther : EB × List QOp × Nat := ((hid yb8e), [(.lda 1 (.t 4))], 14)
theorem k_BOther : cfun Tryz.prog 87 = some c_BOther := by kernel_rfl
@[simp] def yl8f : UL | _ => [xQ 0 2 (.box 123 (.t 0)), xQ 1 3 (.box 126 (.t 1)), xQ 2 4 (.alloc 116 [xS])]
@[simp] def yl8g : UL | _ => [xQ 0 8 (.fad 1 (.t 3)), xQ 1 9 (.ldc (.t 8)), xQ 2 10 (.bin .sub (xK 1) (.t 9)), xM 3 5 10]
@[simp] def yl8h : UL | _ => [xQ 11 22 (.build (([xS] : List Value) ++ zU8 ++ [xZ, xZ]) [(0, 1, (.t 16)), (1, 32, (.t 18)), (34, 1, (.t 21))]), xN 13 (.fz (.sto 35 (.t 6) (.t 22)))]
@[simp] def yl8i : UL | _ => xQ 6 17 (.fad 4 (.t 3)) :: xQ 7 18 (.lda 32 (.t 17)) :: xQ 8 19 (.lda 76 (.t 2)) :: xM 9 20 5 :: xQ 12 6 (.alloc 187 (([xS] : List Value) ++ zU8 ++ [xZ, xZ])) :: ⟨10, (some 21), none, (.call 142 [(.t 19), (.t 20)]), [0, 1, 2, 3, 4, 5, 6, 7, 12]⟩ :: hid yl8h
@[simp] def yl8j : UL | _ => xM 0 11 5 :: xQ 1 12 (.fad 0 (.t 2)) :: xQ 2 13 (.fad 34 (.t 12)) :: xQ 3 14 (.iad 2 1 (.t 13) (.t 11)) :: xQ 4 15 (.ldc (.t 14)) :: xQ 5 16 (.bsl 1 [xZ] 1 [(0, (.t 15))]) :: hid yl8i
@[simp] def yl8k : UL | _ => [xQ 14 7 (.alloc 187 (([xS] : List Value) ++ zU8 ++ [xZ, xZ])), ⟨12, (some 35), none, (.call 142 [(.t 32), (.t 34)]), [0, 1, 2, 3, 4, 5, 6, 7, 8, 14]⟩, xQ 13 36 (.build (([xS] : List Value) ++ zU8 ++ [xZ, xZ]) [(0, 1, (.t 29)), (33, 1, (.t 31)), (34, 1, (.t 35))]), xN 15 (.fz (.sto 35 (.t 7) (.t 36)))]
@[simp] def yl8l : UL | _ => xQ 6 29 (.bsl 1 [xZ] 1 [(0, (.t 28))]) :: xQ 7 30 (.fad 3 (.t 3)) :: xQ 8 31 (.ldc (.t 30)) :: xQ 9 32 (.lda 76 (.t 2)) :: xQ 10 33 (.fad 1 (.t 3)) :: xQ 11 34 (.ldc (.t 33)) :: hid yl8k
@[simp] def yl8m : UL | _ => xQ 0 23 (.fad 1 (.t 3)) :: xQ 1 24 (.ldc (.t 23)) :: xQ 2 25 (.fad 0 (.t 2)) :: xQ 3 26 (.fad 34 (.t 25)) :: xQ 4 27 (.iad 2 1 (.t 26) (.t 24)) :: xQ 5 28 (.ldc (.t 27)) :: hid yl8l
@[simp] def yl8n : UL | _ => [xN 6 (.fz (.sto 1 (.t 4) (.t 42)))]
@[simp] def yl8o : UL | _ => xQ 0 37 (.lda 35 (.t 6)) :: xQ 1 38 (.lda 35 (.t 7)) :: xQ 2 39 (.lda 76 (.t 2)) :: ⟨3, (some 40), none, (.call 141 [(.t 39)]), [0, 1]⟩ :: xO 4 41 (.fz (.q (.bsl 35 (([xS] : List Value) ++ zU8 ++ [xZ, xZ]) 3 [(0, (.t 37)), (1, (.t 38)), (2, (.t 40))]))) :: xQ 5 42 (.build [xS] [(0, 1, (.t 41))]) :: hid yl8n
@[simp] def yb8p : UB | _ => .seq (reg1 (hid yl8j) 14) (.seq (reg1 (hid yl8m) 16) (.seq (reg1 (hid yl8o) 7) .ret))
@[simp] def yb8q : UB | _ => .seq (reg0 (hid yl8f) 3) (.seq (reg0 (hid yl8g) 4) (hid yb8p))
def c_BPaid : EB × List QOp × Nat := ((hid yb8q), [(.lda 1 (.t 4))], 43)
theorem k_BPaid : cfun Tryz.prog 88 = some c_BPaid := by kernel_rfl
@[simp] def yl8r : UL | _ => [xQ 0 3 (.box 42 (.t 0)), xQ 1 4 (.box 47 (.t 1)), xQ 2 6 (.mov (xK 0))]
@[simp] def yl8s : UL | _ => [xM 0 7 2, xQ 1 8 (.bin .eql (.t 7) (xK 0))]
@[simp] def yl8t : UL | _ => [xM 6 6 14]
@[simp] def yl8u : UL | _ => xQ 0 9 (.fad 1 (.t 4)) :: xQ 1 10 (.iad 2 1 (.t 9) (xK 0)) :: xQ 2 11 (.ldc (.t 10)) :: xQ 3 12 (.fad 37 (.t 3)) :: xQ 4 13 (.ldc (.t 12)) :: xQ 5 14 (.bin .sub (.t 11) (.t 13)) :: hid yl8t
@[simp] def yb8v : UB | _ => .seq (reg0 (hid yl8s) 2) (.cond (.t 8) (.seq (reg0 (hid yl8u) 7) .ret) .skip)
@[simp] def yl8w : UL | _ => [xQ 0 15 (.fad 1 (.t 4)), xQ 1 16 (.iad 2 1 (.t 15) (xK 1)), xQ 2 17 (.ldc (.t 16)), xM 3 6 17]
@[simp] def yb8x : UB | _ => .seq (reg0 (hid yl8r) 3) (.seq (hid yb8v) (.seq (reg0 (hid yl8w) 4) .ret))
def c_BHas : EB × List QOp × Nat := ((hid yb8x), [(.mov (.t 6))], 18)
theorem k_BHas : cfun Tryz.prog 56 = some c_BHas := by kernel_rfl
def mkC (p : Prm) (s : Sta) (o : Int) (lock : List UInt8) : List EC := prmC p ++ (staC s ++ (iC o :: hc lock))
def MKv (p : Prm) (s : Sta) (o : Int) (lock : List UInt8) : EV := .v (.agg (mkC p s o lock))
def mkF (p : Prm) (s : Sta) (o : Int) (lock : List UInt8) : List FV := prmF p ++ ([.lit (.int .i64 s.num), .lit (.int .i64 s.h0), .lit (.int .i64 s.h1), .sl 36 (payv s.pays), .sl 3 (holv s.holds)] ++ (iF o :: hf lock))
theorem mkF_fz (p : Prm) (s : Sta) (o : Int) (lock : List UInt8) : (mkF p s o lock).map EC.fz = mkC p s o lock := by simp [mkF, mkC, prmF_fz, staC, iF, iC]
@[simp] theorem conAll_mkC (H : Nat → Option EO) (ids : List Nat) (p : Prm) (s : Sta) (o : Int) (l : List UInt8) : conAll H ids (mkC p s o l) = some (mkC p s o l) := by rw [← mkF_fz]; exact conAll_mp H ids _
@[simp] theorem strAll_mkC (ids : List Nat) (p : Prm) (s : Sta) (o : Int) (l : List UInt8) : strAll ids (mkC p s o l) = some (mkC p s o l) := by rw [← mkF_fz]; exact strAll_mp ids _
@[simp] theorem refs_mkC (p : Prm) (s : Sta) (o : Int) (l : List UInt8) : (mkC p s o l).flatMap refsC = [] := by rw [← mkF_fz]; exact refs_mp _
@[simp] theorem fz_mkC (ids : List Nat) (p : Prm) (s : Sta) (o : Int) (l : List UInt8) : (mkC p s o l).flatMap (fzC ids) = [] := by rw [← mkF_fz]; exact fz_mp ids _
@[simp] theorem ren_mkC (g : Nat → Nat) (p : Prm) (s : Sta) (o : Int) (l : List UInt8) : (mkC p s o l).map (renC g) = mkC p s o l := by rw [← mkF_fz]; exact ren_mp g _
section
variable {p : Prm} {lock : List UInt8} (h : p.tx.length = 32) (hl : lock.length = 32) (s : Sta) (o : Int)
include h
theorem mk_p : (mkC p s o lock).take 38 = prmC p := by unfold mkC; rw [← prmC_len h, List.take_left]
theorem mk_d38 : (mkC p s o lock).drop 38 = staC s ++ (iC o :: hc lock) := by unfold mkC; rw [← prmC_len h, List.drop_left]
theorem mk_s : ((mkC p s o lock).drop 38).take 5 = staC s := by rw [mk_d38 h]; rfl
theorem mk_d43 : (mkC p s o lock).drop 43 = iC o :: hc lock := by rw [show 43 = 38 + 5 from rfl, ← List.drop_drop, mk_d38 h]; rfl
theorem mk_d44 : (mkC p s o lock).drop 44 = hc lock := by rw [show 44 = 43 + 1 from rfl, ← List.drop_drop, mk_d43 h]; rfl
theorem mk_43 : (mkC p s o lock)[43]? = some (iC o) := by
  have := congrArg (·[0]?) (mk_d43 (lock := lock) h s o)
  simpa using this
theorem mk_at (i : Nat) (hi : i < 6) : (mkC p s o lock)[32 + i]? = [iC p.n, iC p.am, iC p.k0, iC p.k1, iC p.dl, iC p.fe][i]? := by
  have e : (hc p.tx).length = 32 := by rw [hc_len, h]
  unfold mkC prmC
  rw [List.append_assoc, List.getElem?_append_right (by omega), e, Nat.add_sub_cancel_left, List.getElem?_append_left (by simp; omega)]
theorem mk_34 : (mkC p s o lock)[34]? = some (iC p.k0) := mk_at h s o 2 (by omega)
theorem mk_35 : (mkC p s o lock)[35]? = some (iC p.k1) := mk_at h s o 3 (by omega)
theorem mk_36 : (mkC p s o lock)[36]? = some (iC p.dl) := mk_at h s o 4 (by omega)
include hl
theorem mk_lock : ((mkC p s o lock).drop 44).take 32 = hc lock := by rw [mk_d44 h]; exact hc_t32 hl
theorem mk_len : (mkC p s o lock).length = 76 := by simp [mkC, prmC_len h, staC, hl]
theorem mk_take : (mkC p s o lock).take 76 = mkC p s o lock := List.take_of_length_le (by rw [mk_len h hl]; omega)
end
def keyO (p : Prm) (o : Int) : Int := if o = 0 then p.k0 else p.k1
def fineB (p : Prm) (o : Int) (lock : List UInt8) : Bra := ⟨[keyO p (1 - o)], lock, 0, 0⟩
def waitV (p : Prm) (o who : Int) : Int := if who = o then p.dl else 0
def ownB (p : Prm) (o : Int) (lock : List UInt8) : List Bra := [⟨[keyO p o], hz, 0, p.dl⟩, fineB p o lock]
def paidB (p : Prm) (o : Int) (lock : List UInt8) (x : Pay) : List Bra := [⟨[keyO p (1 - x.fr)], x.lock, 0, waitV p o (1 - x.fr)⟩, ⟨[keyO p x.fr], hz, x.af, waitV p o x.fr⟩, fineB p o lock]
theorem take33h (a b : EC) : List.take 33 (hc hz ++ [a, b]) = hc hz ++ [a] := by
  rw [List.take_append, List.take_of_length_le (by simp [hz])]
  rfl
theorem take32h (a b : EC) : List.take 32 (hc hz ++ [a, b]) = hc hz := by
  rw [List.take_append, List.take_of_length_le (by simp [hz])]
  simp [hz]
theorem drop32h (a b : EC) : List.drop 32 (hc hz ++ [a, b]) = [a, b] := by
  rw [List.drop_append, List.drop_of_length_le (by simp [hz])]
  rfl
theorem drop33h (a b : EC) : List.drop 33 (hc hz ++ [a, b]) = [b] := by
  rw [List.drop_append, List.drop_of_length_le (by simp [hz])]
  rfl
theorem take33l {l : List UInt8} (h : l.length = 32) (a b : EC) : List.take 33 (hc l ++ [a, b]) = hc l ++ [a] := by
  rw [List.take_append, List.take_of_length_le (by simp [h]), hc_len, h]
  rfl
theorem take34l {l : List UInt8} (h : l.length = 32) (a b : EC) : List.take 34 (hc l ++ [a, b]) = hc l ++ [a, b] := List.take_of_length_le (by simp [h])
theorem drop34l {l : List UInt8} (h : l.length = 32) (a b : EC) : List.drop 34 (hc l ++ [a, b]) = [] := by rw [List.drop_eq_nil_iff]; simp [h]
theorem drop34h (a b : EC) : List.drop 34 (hc hz ++ [a, b]) = [] := by rw [List.drop_eq_nil_iff]; simp [hz]
theorem bfold (k a b : Int) (l : List UInt8) : EC.fz (FV.sl 1 [[FV.lit (.int .i64 k)]]) :: (hc l ++ [EC.fz (FV.lit (.int .i64 a)), EC.fz (FV.lit (.int .i64 b))]) = braC ⟨[k], l, a, b⟩ := rfl
theorem rows_mp : ∀ l : List FV, (l.map EC.fz).flatMap rowsE = []
  | [] => rfl
  | a :: r => by simp only [List.map_cons, List.flatMap_cons, rows_mp r]; rfl
theorem fzM_mp (H : Nat → Option EO) (d : List Nat) : ∀ l : List FV, (l.map EC.fz).map (fzM H d) = l.map EC.fz
  | [] => rfl
  | a :: r => by rw [List.map_cons, List.map_cons, fzM_mp H d r]; rfl
@[simp] theorem rows_braC (b : Bra) : (braC b).flatMap rowsE = [] := by rw [← braF_fz]; exact rows_mp _
@[simp] theorem fzM_braC (H : Nat → Option EO) (d : List Nat) (b : Bra) : (braC b).map (fzM H d) = braC b := by rw [← braF_fz]; exact fzM_mp H d _
@[simp] theorem rows_mkC (p : Prm) (s : Sta) (o : Int) (l : List UInt8) : (mkC p s o l).flatMap rowsE = [] := by rw [← mkF_fz]; exact rows_mp _
@[simp] theorem fzM_mkC (H : Nat → Option EO) (d : List Nat) (p : Prm) (s : Sta) (o : Int) (l : List UInt8) : (mkC p s o l).map (fzM H d) = mkC p s o l := by rw [← mkF_fz]; exact fzM_mp H d _
theorem bsing (b : Bra) : [braF b] = brav [b] := rfl
theorem finL {post : EV → List (Option EO) → Prop} {T : List EV} {H : Nat → Option EO} {m i o L : Nat} {ty : TypeId} (fs : List FV) (hL : fs.length = L) (hT : nth T i = .v (.c (.ptr o 0))) (hH : H o = some (.box ty (fs.map EC.fz))) (hp : post (.v (.agg (fs.map EC.fz))) []) : FinQ 0 [QOp.lda L (.t i)] post .ret ⟨T, H, m⟩ := by
  have hv : resV T H [QOp.lda L (.t i)] = some (.v (.agg (fs.map EC.fz))) := by
    subst hL
    have tk : List.take fs.length (List.map EC.fz fs) = List.map EC.fz fs := List.take_of_length_le (by simp)
    simp [resV, evT, hT, hH, tk]
  exact fin [] (by decide) hv (y := .v (.agg (fs.map EC.fz))) (by simp [conR, conT, conAll_mp]) rfl hp
theorem w_0 : IntKind.i64.wrap 0 = 0 := by decide +kernel
theorem w_1 : IntKind.i64.wrap 1 = 1 := by decide +kernel
theorem hz_len : hz.length = 32 := rfl
theorem keyO_i64 {p : Prm} (h : p.ok) (o : Int) : i64 (keyO p o) := by
  unfold keyO
  split
  · exact h.2.2.2.1
  · exact h.2.2.2.2.1
theorem BFine_ok (p : Prm) (s : Sta) (o : Int) (lock : List UInt8) (hp : p.tx.length = 32) (hl : lock.length = 32) (ho : o = 0 ∨ o = 1) : ECalls Tryz.prog 141 [MKv p s o lock] [] fun y H' => H' = [] ∧ y = .v (.agg (braC (fineB p o lock))) := by
  have l0 := mk_len hp hl s o
  have e34 := idx_of (mk_34 (lock := lock) hp s o) (by omega)
  have e35 := idx_of (mk_35 (lock := lock) hp s o) (by omega)
  have e43 := idx_of (mk_43 (lock := lock) hp s o) (by omega)
  have d44 := mk_lock hp hl s o
  have lb := bc_len (b := fineB p o lock) hl
  refine ecalls k_BFine ?_
  rcases ho with rfl | rfl
  · simp [c_BFine, MKv, I, l0, e43, iC, w_1, w_0, e34, e35, d44, drop34h, hl]
    exact finL (braF (fineB p 0 lock)) (bf_len hl) rfl (by rw [braF_fz]; rfl) ⟨rfl, by rw [braF_fz]⟩
  · simp [c_BFine, MKv, I, l0, e43, iC, w_1, w_0, e34, e35, d44, drop34h, hl]
    exact finL (braF (fineB p 1 lock)) (bf_len hl) rfl (by rw [braF_fz]; rfl) ⟨rfl, by rw [braF_fz]⟩
theorem BWait_ok (p : Prm) (s : Sta) (o : Int) (lock : List UInt8) (who : Int) (hp : p.tx.length = 32) (hl : lock.length = 32) : ECalls Tryz.prog 142 [MKv p s o lock, I .i64 who] [] fun y H' => H' = [] ∧ y = I .i64 (waitV p o who) := by
  have l0 := mk_len hp hl s o
  have t0 := mk_take hp hl s o
  have mp := mk_p (lock := lock) hp s o
  have e34 := idx_of (mk_34 (lock := lock) hp s o) (by omega)
  have e35 := idx_of (mk_35 (lock := lock) hp s o) (by omega)
  have e36 := idx_of (mk_36 (lock := lock) hp s o) (by omega)
  have e43 := idx_of (mk_43 (lock := lock) hp s o) (by omega)
  refine ecalls k_BWait ?_
  simp [c_BWait, MKv, I, l0, e43, iC]
  by_cases c : who = o
  · rw [show waitV p o who = p.dl from if_pos c]
    simp [c, l0, e36, iC]
    exact fin0
  · rw [show waitV p o who = 0 from if_neg c]
    simp [c]
    exact fin0
theorem BOne_ok (b : Bra) (hb : b.lock.length = 32) : ECalls Tryz.prog 140 [.v (.agg (braC b))] [] fun y H' => H' = [] ∧ y = CNv [b] := by
  have l0 := bc_len hb
  have tk := bc_take hb
  refine ecalls k_BOne ?_
  simp [c_BOne, l0, tk, bf_len hb]
  exact fin [] (by decide) rfl rfl rfl ⟨rfl, by simp [CNv, brav]⟩
theorem fineB_ok {p : Prm} {o : Int} {lock : List UInt8} (hp : p.ok) (hl : lock.length = 32) : (fineB p o lock).ok := ⟨by simp [fineB]; exact keyO_i64 hp _, hl, by simp [fineB, i64], by simp [fineB, i64], by simp [fineB]⟩
theorem BOwn_ok (p : Prm) (s : Sta) (o : Int) (lock : List UInt8) (x : Pay) (hp : p.ok) (hl : lock.length = 32) (ho : o = 0 ∨ o = 1) (hx : x.lock.length = 32) : ECalls Tryz.prog 86 [MKv p s o lock, .v (.agg (payC x))] [] fun y H' => H' = [] ∧ y = CNv (ownB p o lock) := by
  have hpo := hp
  replace hp := hp.1
  have l0 := mk_len hp hl s o
  have t0 := mk_take hp hl s o
  have e34 := idx_of (mk_34 (lock := lock) hp s o) (by omega)
  have e35 := idx_of (mk_35 (lock := lock) hp s o) (by omega)
  have e36 := idx_of (mk_36 (lock := lock) hp s o) (by omega)
  have e43 := idx_of (mk_43 (lock := lock) hp s o) (by omega)
  have hf := BFine_ok p s o lock hp hl ho
  have h1 := BOne_ok ⟨[keyO p o], hz, 0, p.dl⟩ hz_len
  have h2 := BOne_ok (fineB p o lock) hl
  have lb := bc_len (b := fineB p o lock) hl
  have h3 := POr_ok [⟨[keyO p o], hz, 0, p.dl⟩] [fineB p o lock] (by intro b hb; simp at hb; subst hb; exact ⟨by simp; exact keyO_i64 hpo _, hz_len, by simp [i64], hpo.2.2.2.2.2.1, by simp⟩) (by intro b hb; simp at hb; subst hb; exact fineB_ok hpo hl) (by simp) (by simp)
  refine ecalls k_BOwn ?_
  rcases ho with rfl | rfl
  · have hk : keyO p 0 = p.k0 := rfl
    rw [hk] at h1 h3
    simp [c_BOwn, MKv, I, l0, t0, e43, e34, e35, e36, iC, w_1, w_0, hl, hx, take33h, take32h, drop32h, drop33h, drop34h, hz_len, lb, bsing, hc_t32 hl, hc_t32 hx, take33l hx, drop34l hx, take33l hl, drop34l hl, take34l hz_len, take34l hx]
    simp only [bfold]
    refine call0 (h1) (by simp [MKv, I, l0, t0, e43, e34, e35, e36, iC, w_1, w_0, hl, hx, take33h, take32h, drop32h, drop33h, drop34h, hz_len, lb, bsing, hc_t32 hl, hc_t32 hx, take33l hx, drop34l hx, take33l hl, drop34l hl, take34l hz_len, take34l hx]) ?_
    rintro y H' ⟨rfl, rfl⟩
    refine ⟨.inl (by simp [CNv]), le_ok rfl, ?_⟩
    simp [MKv, I, l0, t0, e43, e34, e35, e36, iC, w_1, w_0, hl, hx, take33h, take32h, drop32h, drop33h, drop34h, hz_len, lb, bsing, hc_t32 hl, hc_t32 hx, take33l hx, drop34l hx, take33l hl, drop34l hl, take34l hz_len, take34l hx]
    refine call0 (hf) (by simp [MKv, I, l0, t0, e43, e34, e35, e36, iC, w_1, w_0, hl, hx, take33h, take32h, drop32h, drop33h, drop34h, hz_len, lb, bsing, hc_t32 hl, hc_t32 hx, take33l hx, drop34l hx, take33l hl, drop34l hl, take34l hz_len, take34l hx]) ?_
    rintro y H' ⟨rfl, rfl⟩
    refine ⟨.inl (by simp), le_ok rfl, ?_⟩
    simp [MKv, I, l0, t0, e43, e34, e35, e36, iC, w_1, w_0, hl, hx, take33h, take32h, drop32h, drop33h, drop34h, hz_len, lb, bsing, hc_t32 hl, hc_t32 hx, take33l hx, drop34l hx, take33l hl, drop34l hl, take34l hz_len, take34l hx]
    refine call0 (h2) (by simp [MKv, I, l0, t0, e43, e34, e35, e36, iC, w_1, w_0, hl, hx, take33h, take32h, drop32h, drop33h, drop34h, hz_len, lb, bsing, hc_t32 hl, hc_t32 hx, take33l hx, drop34l hx, take33l hl, drop34l hl, take34l hz_len, take34l hx]) ?_
    rintro y H' ⟨rfl, rfl⟩
    refine ⟨.inl (by simp [CNv]), le_ok rfl, ?_⟩
    simp [CNv, MKv, I, l0, t0, e43, e34, e35, e36, iC, w_1, w_0, hl, hx, take33h, take32h, drop32h, drop33h, drop34h, hz_len, lb, bsing, hc_t32 hl, hc_t32 hx, take33l hx, drop34l hx, take33l hl, drop34l hl, take34l hz_len, take34l hx]
    refine call0 (h3) (by simp [CNv, MKv, I, l0, t0, e43, e34, e35, e36, iC, w_1, w_0, hl, hx, take33h, take32h, drop32h, drop33h, drop34h, hz_len, lb, bsing, hc_t32 hl, hc_t32 hx, take33l hx, drop34l hx, take33l hl, drop34l hl, take34l hz_len, take34l hx]) ?_
    rintro y H' ⟨rfl, rfl⟩
    refine ⟨.inl (by simp [CNv]), le_ok rfl, ?_⟩
    simp [CNv, MKv, I, l0, t0, e43, e34, e35, e36, iC, w_1, w_0, hl, hx, take33h, take32h, drop32h, drop33h, drop34h, hz_len, lb, bsing, hc_t32 hl, hc_t32 hx, take33l hx, drop34l hx, take33l hl, drop34l hl, take34l hz_len, take34l hx]
    exact fin [] (by decide) rfl rfl rfl ⟨rfl, by simp [ownB, CNv, hk]⟩
  · have hk : keyO p 1 = p.k1 := rfl
    rw [hk] at h1 h3
    simp [c_BOwn, MKv, I, l0, t0, e43, e34, e35, e36, iC, w_1, w_0, hl, hx, take33h, take32h, drop32h, drop33h, drop34h, hz_len, lb, bsing, hc_t32 hl, hc_t32 hx, take33l hx, drop34l hx, take33l hl, drop34l hl, take34l hz_len, take34l hx]
    simp only [bfold]
    refine call0 (h1) (by simp [MKv, I, l0, t0, e43, e34, e35, e36, iC, w_1, w_0, hl, hx, take33h, take32h, drop32h, drop33h, drop34h, hz_len, lb, bsing, hc_t32 hl, hc_t32 hx, take33l hx, drop34l hx, take33l hl, drop34l hl, take34l hz_len, take34l hx]) ?_
    rintro y H' ⟨rfl, rfl⟩
    refine ⟨.inl (by simp [CNv]), le_ok rfl, ?_⟩
    simp [MKv, I, l0, t0, e43, e34, e35, e36, iC, w_1, w_0, hl, hx, take33h, take32h, drop32h, drop33h, drop34h, hz_len, lb, bsing, hc_t32 hl, hc_t32 hx, take33l hx, drop34l hx, take33l hl, drop34l hl, take34l hz_len, take34l hx]
    refine call0 (hf) (by simp [MKv, I, l0, t0, e43, e34, e35, e36, iC, w_1, w_0, hl, hx, take33h, take32h, drop32h, drop33h, drop34h, hz_len, lb, bsing, hc_t32 hl, hc_t32 hx, take33l hx, drop34l hx, take33l hl, drop34l hl, take34l hz_len, take34l hx]) ?_
    rintro y H' ⟨rfl, rfl⟩
    refine ⟨.inl (by simp), le_ok rfl, ?_⟩
    simp [MKv, I, l0, t0, e43, e34, e35, e36, iC, w_1, w_0, hl, hx, take33h, take32h, drop32h, drop33h, drop34h, hz_len, lb, bsing, hc_t32 hl, hc_t32 hx, take33l hx, drop34l hx, take33l hl, drop34l hl, take34l hz_len, take34l hx]
    refine call0 (h2) (by simp [MKv, I, l0, t0, e43, e34, e35, e36, iC, w_1, w_0, hl, hx, take33h, take32h, drop32h, drop33h, drop34h, hz_len, lb, bsing, hc_t32 hl, hc_t32 hx, take33l hx, drop34l hx, take33l hl, drop34l hl, take34l hz_len, take34l hx]) ?_
    rintro y H' ⟨rfl, rfl⟩
    refine ⟨.inl (by simp [CNv]), le_ok rfl, ?_⟩
    simp [CNv, MKv, I, l0, t0, e43, e34, e35, e36, iC, w_1, w_0, hl, hx, take33h, take32h, drop32h, drop33h, drop34h, hz_len, lb, bsing, hc_t32 hl, hc_t32 hx, take33l hx, drop34l hx, take33l hl, drop34l hl, take34l hz_len, take34l hx]
    refine call0 (h3) (by simp [CNv, MKv, I, l0, t0, e43, e34, e35, e36, iC, w_1, w_0, hl, hx, take33h, take32h, drop32h, drop33h, drop34h, hz_len, lb, bsing, hc_t32 hl, hc_t32 hx, take33l hx, drop34l hx, take33l hl, drop34l hl, take34l hz_len, take34l hx]) ?_
    rintro y H' ⟨rfl, rfl⟩
    refine ⟨.inl (by simp [CNv]), le_ok rfl, ?_⟩
    simp [CNv, MKv, I, l0, t0, e43, e34, e35, e36, iC, w_1, w_0, hl, hx, take33h, take32h, drop32h, drop33h, drop34h, hz_len, lb, bsing, hc_t32 hl, hc_t32 hx, take33l hx, drop34l hx, take33l hl, drop34l hl, take34l hz_len, take34l hx]
    exact fin [] (by decide) rfl rfl rfl ⟨rfl, by simp [ownB, CNv, hk]⟩
theorem BOther_ok (p : Prm) (s : Sta) (o : Int) (lock : List UInt8) (x : Pay) (hp : p.ok) (hl : lock.length = 32) (ho : o = 0 ∨ o = 1) (hx : x.lock.length = 32) : ECalls Tryz.prog 87 [MKv p s o lock, .v (.agg (payC x))] [] fun y H' => H' = [] ∧ y = CNv (allB [keyO p (1 - o)]) := by
  have hpo := hp
  replace hp := hp.1
  have l0 := mk_len hp hl s o
  have t0 := mk_take hp hl s o
  have e34 := idx_of (mk_34 (lock := lock) hp s o) (by omega)
  have e35 := idx_of (mk_35 (lock := lock) hp s o) (by omega)
  have e36 := idx_of (mk_36 (lock := lock) hp s o) (by omega)
  have e43 := idx_of (mk_43 (lock := lock) hp s o) (by omega)
  have h1 := PAll_ok [keyO p (1 - o)] (keys_one _).1
  have lb := bc_len (b := fineB p o lock) hl
  refine ecalls k_BOther ?_
  rcases ho with rfl | rfl
  · have hk : keyO p (1 - 0) = p.k1 := rfl
    rw [hk] at h1 ⊢
    simp [c_BOther, MKv, I, l0, t0, e43, e34, e35, e36, iC, w_1, w_0, hl, hx, take33h, take32h, drop32h, drop33h, drop34h, hz_len, lb, bsing, hc_t32 hl, hc_t32 hx, take33l hx, drop34l hx, take33l hl, drop34l hl, take34l hz_len, take34l hx]
    refine call0 (h1) (by simp [IL, intv, MKv, I, l0, t0, e43, e34, e35, e36, iC, w_1, w_0, hl, hx, take33h, take32h, drop32h, drop33h, drop34h, hz_len, lb, bsing, hc_t32 hl, hc_t32 hx, take33l hx, drop34l hx, take33l hl, drop34l hl, take34l hz_len, take34l hx]) ?_
    rintro y H' ⟨rfl, rfl⟩
    refine ⟨.inl (by simp [CNv]), le_ok rfl, ?_⟩
    simp [CNv, MKv, I, l0, t0, e43, e34, e35, e36, iC, w_1, w_0, hl, hx, take33h, take32h, drop32h, drop33h, drop34h, hz_len, lb, bsing, hc_t32 hl, hc_t32 hx, take33l hx, drop34l hx, take33l hl, drop34l hl, take34l hz_len, take34l hx]
    exact fin [] (by decide) rfl rfl rfl ⟨rfl, by simp [CNv]⟩
  · have hk : keyO p (1 - 1) = p.k0 := rfl
    rw [hk] at h1 ⊢
    simp [c_BOther, MKv, I, l0, t0, e43, e34, e35, e36, iC, w_1, w_0, hl, hx, take33h, take32h, drop32h, drop33h, drop34h, hz_len, lb, bsing, hc_t32 hl, hc_t32 hx, take33l hx, drop34l hx, take33l hl, drop34l hl, take34l hz_len, take34l hx]
    refine call0 (h1) (by simp [IL, intv, MKv, I, l0, t0, e43, e34, e35, e36, iC, w_1, w_0, hl, hx, take33h, take32h, drop32h, drop33h, drop34h, hz_len, lb, bsing, hc_t32 hl, hc_t32 hx, take33l hx, drop34l hx, take33l hl, drop34l hl, take34l hz_len, take34l hx]) ?_
    rintro y H' ⟨rfl, rfl⟩
    refine ⟨.inl (by simp [CNv]), le_ok rfl, ?_⟩
    simp [CNv, MKv, I, l0, t0, e43, e34, e35, e36, iC, w_1, w_0, hl, hx, take33h, take32h, drop32h, drop33h, drop34h, hz_len, lb, bsing, hc_t32 hl, hc_t32 hx, take33l hx, drop34l hx, take33l hl, drop34l hl, take34l hz_len, take34l hx]
    exact fin [] (by decide) rfl rfl rfl ⟨rfl, by simp [CNv]⟩
theorem BPaid_ok (p : Prm) (s : Sta) (o : Int) (lock : List UInt8) (x : Pay) (hp : p.ok) (hl : lock.length = 32) (ho : o = 0 ∨ o = 1) (hx : x.lock.length = 32) (hf : x.fr = 0 ∨ x.fr = 1) : ECalls Tryz.prog 88 [MKv p s o lock, .v (.agg (payC x))] [] fun y H' => H' = [] ∧ y = CNv (paidB p o lock x) := by
  have hpo := hp
  replace hp := hp.1
  have l0 := mk_len hp hl s o
  have t0 := mk_take hp hl s o
  have e34 := idx_of (mk_34 (lock := lock) hp s o) (by omega)
  have e35 := idx_of (mk_35 (lock := lock) hp s o) (by omega)
  have e36 := idx_of (mk_36 (lock := lock) hp s o) (by omega)
  have e43 := idx_of (mk_43 (lock := lock) hp s o) (by omega)
  have h1 := BFine_ok p s o lock hp hl ho
  have lb := bc_len (b := fineB p o lock) hl
  have hw1 := BWait_ok p s o lock (1 - x.fr) hp hl
  have hw2 := BWait_ok p s o lock x.fr hp hl
  obtain ⟨A, hA⟩ : ∃ A, waitV p o (1 - x.fr) = A := ⟨_, rfl⟩
  obtain ⟨B, hB⟩ : ∃ B, waitV p o x.fr = B := ⟨_, rfl⟩
  have hv : paidB p o lock x = [⟨[keyO p (1 - x.fr)], x.lock, 0, A⟩, ⟨[keyO p x.fr], hz, x.af, B⟩, fineB p o lock] := by rw [← hA, ← hB]; rfl
  rw [hA] at hw1
  rw [hB] at hw2
  refine ecalls k_BPaid ?_
  rw [hv]
  obtain ⟨id', fr, am, af, lk⟩ := x
  dsimp only at hf hw1 hw2 hx ⊢
  rcases hf with rfl | rfl
  · have hw1' := hw1
    rw [show (1 - 0 : Int) = 1 from rfl] at hw1'
    have lb1 := bc_len (b := (⟨[p.k1], lk, 0, A⟩ : Bra)) hx
    have lb2 := bc_len (b := (⟨[p.k0], hz, af, B⟩ : Bra)) hz_len
    have tk1 := bc_take (b := (⟨[p.k1], lk, 0, A⟩ : Bra)) hx
    have tk2 := bc_take (b := (⟨[p.k0], hz, af, B⟩ : Bra)) hz_len
    have tkb := bc_take (b := fineB p o lock) hl
    have f1 := bf_len (b := (⟨[p.k1], lk, 0, A⟩ : Bra)) hx
    have f2 := bf_len (b := (⟨[p.k0], hz, af, B⟩ : Bra)) hz_len
    have f3 := bf_len (b := fineB p o lock) hl
    simp [c_BPaid, payC, MKv, I, l0, t0, e43, e34, e35, e36, iC, w_1, w_0, hl, hx, take33h, take32h, drop32h, drop33h, drop34h, hz_len, lb, bsing, hc_t32 hl, hc_t32 hx, take33l hx, drop34l hx, take33l hl, drop34l hl, take34l hz_len, take34l hx]
    refine call0 (hw1') (by simp [MKv, I, l0, t0, e43, e34, e35, e36, iC, w_1, w_0, hl, hx, take33h, take32h, drop32h, drop33h, drop34h, hz_len, lb, bsing, hc_t32 hl, hc_t32 hx, take33l hx, drop34l hx, take33l hl, drop34l hl, take34l hz_len, take34l hx]) ?_
    rintro y H' ⟨rfl, rfl⟩
    refine ⟨.inl (by simp [I]), le_ok rfl, ?_⟩
    simp [MKv, I, l0, t0, e43, e34, e35, e36, iC, w_1, w_0, hl, hx, take33h, take32h, drop32h, drop33h, drop34h, hz_len, lb, bsing, hc_t32 hl, hc_t32 hx, take33l hx, drop34l hx, take33l hl, drop34l hl, take34l hz_len, take34l hx]
    simp only [bfold]
    refine call0 (hw2) (by simp [MKv, I, l0, t0, e43, e34, e35, e36, iC, w_1, w_0, hl, hx, take33h, take32h, drop32h, drop33h, drop34h, hz_len, lb, bsing, hc_t32 hl, hc_t32 hx, take33l hx, drop34l hx, take33l hl, drop34l hl, take34l hz_len, take34l hx]) ?_
    rintro y H' ⟨rfl, rfl⟩
    refine ⟨.inl (by simp [I]), le_ok rfl, ?_⟩
    simp [MKv, I, l0, t0, e43, e34, e35, e36, iC, w_1, w_0, hl, hx, take33h, take32h, drop32h, drop33h, drop34h, hz_len, lb, bsing, hc_t32 hl, hc_t32 hx, take33l hx, drop34l hx, take33l hl, drop34l hl, take34l hz_len, take34l hx, lb1, lb2, tk1, tk2, tkb]
    simp only [bfold]
    refine call0 (h1) (by simp [MKv, I, l0, t0, e43, e34, e35, e36, iC, w_1, w_0, hl, hx, take33h, take32h, drop32h, drop33h, drop34h, hz_len, lb, bsing, hc_t32 hl, hc_t32 hx, take33l hx, drop34l hx, take33l hl, drop34l hl, take34l hz_len, take34l hx]) ?_
    rintro y H' ⟨rfl, rfl⟩
    refine ⟨.inl (by simp), le_ok rfl, ?_⟩
    simp [MKv, I, l0, t0, e43, e34, e35, e36, iC, w_1, w_0, hl, hx, take33h, take32h, drop32h, drop33h, drop34h, hz_len, lb, bsing, hc_t32 hl, hc_t32 hx, take33l hx, drop34l hx, take33l hl, drop34l hl, take34l hz_len, take34l hx, lb1, lb2, tk1, tk2, tkb, f1, f2, f3]
    exact fin [] (by decide) rfl rfl rfl ⟨rfl, by simp [CNv, brav, keyO]⟩
  · have hw1' := hw1
    rw [show (1 - 1 : Int) = 0 from rfl] at hw1'
    have lb1 := bc_len (b := (⟨[p.k0], lk, 0, A⟩ : Bra)) hx
    have lb2 := bc_len (b := (⟨[p.k1], hz, af, B⟩ : Bra)) hz_len
    have tk1 := bc_take (b := (⟨[p.k0], lk, 0, A⟩ : Bra)) hx
    have tk2 := bc_take (b := (⟨[p.k1], hz, af, B⟩ : Bra)) hz_len
    have tkb := bc_take (b := fineB p o lock) hl
    have f1 := bf_len (b := (⟨[p.k0], lk, 0, A⟩ : Bra)) hx
    have f2 := bf_len (b := (⟨[p.k1], hz, af, B⟩ : Bra)) hz_len
    have f3 := bf_len (b := fineB p o lock) hl
    simp [c_BPaid, payC, MKv, I, l0, t0, e43, e34, e35, e36, iC, w_1, w_0, hl, hx, take33h, take32h, drop32h, drop33h, drop34h, hz_len, lb, bsing, hc_t32 hl, hc_t32 hx, take33l hx, drop34l hx, take33l hl, drop34l hl, take34l hz_len, take34l hx]
    refine call0 (hw1') (by simp [MKv, I, l0, t0, e43, e34, e35, e36, iC, w_1, w_0, hl, hx, take33h, take32h, drop32h, drop33h, drop34h, hz_len, lb, bsing, hc_t32 hl, hc_t32 hx, take33l hx, drop34l hx, take33l hl, drop34l hl, take34l hz_len, take34l hx]) ?_
    rintro y H' ⟨rfl, rfl⟩
    refine ⟨.inl (by simp [I]), le_ok rfl, ?_⟩
    simp [MKv, I, l0, t0, e43, e34, e35, e36, iC, w_1, w_0, hl, hx, take33h, take32h, drop32h, drop33h, drop34h, hz_len, lb, bsing, hc_t32 hl, hc_t32 hx, take33l hx, drop34l hx, take33l hl, drop34l hl, take34l hz_len, take34l hx]
    simp only [bfold]
    refine call0 (hw2) (by simp [MKv, I, l0, t0, e43, e34, e35, e36, iC, w_1, w_0, hl, hx, take33h, take32h, drop32h, drop33h, drop34h, hz_len, lb, bsing, hc_t32 hl, hc_t32 hx, take33l hx, drop34l hx, take33l hl, drop34l hl, take34l hz_len, take34l hx]) ?_
    rintro y H' ⟨rfl, rfl⟩
    refine ⟨.inl (by simp [I]), le_ok rfl, ?_⟩
    simp [MKv, I, l0, t0, e43, e34, e35, e36, iC, w_1, w_0, hl, hx, take33h, take32h, drop32h, drop33h, drop34h, hz_len, lb, bsing, hc_t32 hl, hc_t32 hx, take33l hx, drop34l hx, take33l hl, drop34l hl, take34l hz_len, take34l hx, lb1, lb2, tk1, tk2, tkb]
    simp only [bfold]
    refine call0 (h1) (by simp [MKv, I, l0, t0, e43, e34, e35, e36, iC, w_1, w_0, hl, hx, take33h, take32h, drop32h, drop33h, drop34h, hz_len, lb, bsing, hc_t32 hl, hc_t32 hx, take33l hx, drop34l hx, take33l hl, drop34l hl, take34l hz_len, take34l hx]) ?_
    rintro y H' ⟨rfl, rfl⟩
    refine ⟨.inl (by simp), le_ok rfl, ?_⟩
    simp [MKv, I, l0, t0, e43, e34, e35, e36, iC, w_1, w_0, hl, hx, take33h, take32h, drop32h, drop33h, drop34h, hz_len, lb, bsing, hc_t32 hl, hc_t32 hx, take33l hx, drop34l hx, take33l hl, drop34l hl, take34l hz_len, take34l hx, lb1, lb2, tk1, tk2, tkb, f1, f2, f3]
    exact fin [] (by decide) rfl rfl rfl ⟨rfl, by simp [CNv, brav, keyO]⟩
@[simp] def yl8y : UL | _ => [xQ 0 8 (.box 126 (.t 1))]
@[simp] def yl8z : UL | _ => [xM 0 11 2, xQ 1 12 (.bin .geq (.t 11) (xK 10))]
@[simp] def yl90 : UL | _ => [xQ 6 19 (.build [xZ, xS] [(0, 1, (.t 14)), (1, 1, (.t 18))]), ⟨7, (some 20), none, (.fz (.q (.bsl 2 [xZ, xS] 1 [(0, (.t 19))]))), [0]⟩, xO 8 21 (.app 118 2 32 (.t 13) (.t 20)), xN 9 (.fz (.sto 1 (.t 4) (.t 21)))]
@[simp] def yl91 : UL | _ => xQ 0 13 (.ldc (.t 4)) :: xM 1 14 2 :: xM 2 15 3 :: xQ 3 16 (.lda 76 (.t 5)) :: xQ 4 17 (.lda 36 (.t 8)) :: ⟨5, (some 18), none, (.clo (.t 15) [(.t 16), (.t 17)]), [0, 1]⟩ :: hid yl90
@[simp] def yl92 : UL | _ => [xO 6 28 (.app 54 2 16 (.t 22) (.t 27)), xN 7 (.fz (.sto 1 (.t 6) (.t 28)))]
@[simp] def yl93 : UL | _ => xQ 0 22 (.ldc (.t 6)) :: xM 1 23 0 :: xQ 2 24 (.fad 0 (.t 8)) :: xQ 3 25 (.ldc (.t 24)) :: xQ 4 26 (.build [xZ, xZ] [(0, 1, (.t 23)), (1, 1, (.t 25))]) :: xQ 5 27 (.bsl 2 [xZ, xZ] 1 [(0, (.t 26))]) :: hid yl92
@[simp] def yb94 : UB | _ => .cond (.t 12) (.seq (reg1 (hid yl91) 10) (reg0 (hid yl93) 8)) .skip
@[simp] def yb95 : UB | _ => .seq (reg0 (hid yl8y) 1) (.seq (reg0 (hid yl8z) 2) (hid yb94))
def c_BLay : EB × List QOp × Nat := ((hid yb95), [], 29)
theorem k_BLay : cfun Tryz.prog 85 = some c_BLay := by kernel_rfl
def plcF (q : Int × Int) : List FV := [iF q.1, iF q.2]
def plcv (l : List (Int × Int)) : List (List FV) := l.map plcF
@[simp] theorem plcv_len (l : List (Int × Int)) : (plcv l).length = l.length := by simp [plcv]
def hasP (p : Prm) (s : Sta) (who : Int) : Int := if who = 0 then s.h0 - p.fe else s.h1
@[simp] theorem rows_payC (x : Pay) : (payC x).flatMap rowsE = [] := by rw [← payF_fz]; exact rows_mp _
@[simp] theorem fzM_payC (H : Nat → Option EO) (d : List Nat) (x : Pay) : (payC x).map (fzM H d) = payC x := by rw [← payF_fz]; exact fzM_mp H d _
theorem BHas_ok (p : Prm) (s : Sta) (who : Int) (hp : p.tx.length = 32) (hw : i64 (s.h0 - p.fe)) : ECalls Tryz.prog 56 [PVv p, SV s, I .i64 who] [] fun y H' => H' = [] ∧ y = I .i64 (hasP p s who) := by
  unfold i64 at hw
  have l0 := prmC_len hp
  have e37 : (prmC p)[37]? = some (iC p.fe) := by
    have e : (hc p.tx).length = 32 := by rw [hc_len, hp]
    unfold prmC
    rw [List.getElem?_append_right (by omega), e]; rfl
  have e37 := idx_of e37 (by omega)
  have w1 : IntKind.i64.wrap (s.h0 - p.fe) = s.h0 - p.fe := wrap_i64 (by omega) (by omega)
  refine ecalls k_BHas ?_
  simp [c_BHas, PVv, SV, staC, I, l0, iC]
  by_cases c : who = 0
  · rw [show hasP p s who = s.h0 - p.fe from if_pos c]
    simp [c, l0, e37, iC, w1]
    exact fin0
  · rw [show hasP p s who = s.h1 from if_neg c]
    simp [c]
    exact fin0
def layH (p : Prm) (s : Sta) (o : Int) (lock : List UInt8) (L : List Outp) (Q : List (Int × Int)) : List EO :=
  [.box 61 [.row 3 L.length], .box 123 (mkC p s o lock), .box 35 [.row 4 Q.length], .row 118 2 (outv L), .row 54 2 (plcv Q)]
theorem BLay_no (f : FuncId) (p : Prm) (s : Sta) (o kind am : Int) (lock : List UInt8) (x : Pay) (L : List Outp) (Q : List (Int × Int)) (ha : am < 10) (hx : x.lock.length = 32) :
    ECalls Tryz.prog 85 [I .i64 kind, .v (.agg (payC x)), I .i64 am, .v (.c (.clo f [])), Ptr 0, Ptr 1, Ptr 2] (layH p s o lock L Q) fun y H' => H' = (layH p s o lock L Q).map some ∧ y = .tup [] := by
  have ha' : ¬ 10 ≤ am := by omega
  refine ecalls k_BLay ?_
  simp [c_BLay, I, Ptr, layH, ha']
  exact fin [] (by decide) rfl rfl (by simp [objsOut, show List.range 5 = [0, 1, 2, 3, 4] from rfl]) ⟨rfl, rfl⟩
theorem BLay_yes (f : FuncId) (c : List Bra) (p : Prm) (s : Sta) (o kind am : Int) (lock : List UInt8) (x : Pay) (L : List Outp) (Q : List (Int × Int)) (ha : 10 ≤ am) (hx : x.lock.length = 32) (hp : p.tx.length = 32) (hl : lock.length = 32) (hL : L.length ≤ 1000) (hQ : Q.length ≤ 1000)
    (hb : bodyOK Tryz.prog f = true) (hf : ECalls Tryz.prog f [MKv p s o lock, .v (.agg (payC x))] [] fun y H' => H' = [] ∧ y = CNv c) :
    ECalls Tryz.prog 85 [I .i64 kind, .v (.agg (payC x)), I .i64 am, .v (.c (.clo f [])), Ptr 0, Ptr 1, Ptr 2] (layH p s o lock L Q) fun y H' =>
      H' = [some (.box 61 [.row 5 (L.length + 1)]), some (.box 123 (mkC p s o lock)), some (.box 35 [.row 6 (Q.length + 1)]), none, none, some (.row 118 2 (outv (L ++ [⟨am, c⟩]))), some (.row 54 2 (plcv (Q ++ [(kind, x.id)])))] ∧ y = .tup [] := by
  have l0 := mk_len hp hl s o
  have t0 := mk_take hp hl s o
  have tp := payC_take hx
  have lp := payC_len hx
  refine ecalls k_BLay ?_
  simp [c_BLay, I, Ptr, layH, ha, l0, t0, tp, lp]
  refine ⟨hb, ?_⟩
  refine call0 hf (by simp [MKv]) ?_
  rintro y H' ⟨rfl, rfl⟩
  refine ⟨.inl (by simp [CNv]), le_ok rfl, ?_⟩
  simp [CNv]
  refine ⟨⟨by omega, by omega⟩, ?_⟩
  have e0 : (payC x)[0]? = some (.fz (.lit (.int .i64 x.id))) := rfl
  simp [e0]
  refine ⟨⟨by omega, by omega⟩, ?_⟩
  have hol : outv L ++ [[FV.lit (Value.int IntKind.i64 am), FV.sl 35 (brav c)]] = outv (L ++ [⟨am, c⟩]) := by simp [outv, outF, iF]
  have hpl : plcv Q ++ [[FV.lit (Value.int IntKind.i64 kind), FV.lit (Value.int IntKind.i64 x.id)]] = plcv (Q ++ [(kind, x.id)]) := by simp [plcv, plcF, iF]
  rw [hol, hpl]
  exact fin [181, 309] (by decide) rfl rfl (by simp [objsOut, show List.range 5 = [0, 1, 2, 3, 4] from rfl]) ⟨rfl, rfl⟩
def layN (p : Prm) (s : Sta) (o : Int) (lock : List UInt8) : List EO :=
  [.box 61 [.fz (.lit (.slice none 0 0))], .box 123 (mkC p s o lock), .box 35 [.fz (.lit (.slice none 0 0))]]
theorem lay_nil {f : FuncId} {args : List EV} {post : EV → List (Option EO) → Prop} {p : Prm} {s : Sta} {o : Int} {lock : List UInt8} (h : ECalls Tryz.prog f args (layH p s o lock [] []) post) : ECalls Tryz.prog f args (layN p s o lock) post := by
  refine ecalls_nilB (o := 0) (k := 0) (ty := 118) (es := 2) rfl rfl (by omega) ?_
  refine ecalls_nilB (o := 2) (k := 0) (ty := 54) (es := 2) rfl rfl (by omega) ?_
  exact h
end Go.Proofs.YtflcfdeanneoeaaGreatDoor
