import Derived.Test.YtejjhgdnmknejaaGreatDoorAll9
import Derived.Test.YtejjhgdnmknejaaGreatDoorAll11
set_option maxHeartbeats 64000000
namespace Go.Proofs.YtejjhgdnmknejaaGreatDoor
open Go Go.EW
set_option linter.unusedSimpArgs false
set_option linter.unusedVariables false
def ylb3 : UL | _ => [xc 6 22 .sub 21 1, xI 7 23 1 20 22, xL 8 24 23, xb 9 25 .eql 19 24]
def ylb4 : UL | _ => xM 0 16 0 :: xM 1 17 3 :: xI 2 18 1 16 17 :: xL 3 19 18 :: xM 4 20 0 :: xM 5 21 3 :: hid ylb3
def ylb5 : UL | _ => [xM 0 26 0, xM 1 27 3, xQ 2 28 (.ssl 1 (.t 26) (some (.t 27)) none), xM 3 4 28]
def ylb8 : UL | _ => [xc 6 41 .sub 40 1, xI 7 42 1 39 41, xL 8 43 42, xb 9 44 .neq 38 43]
def ylb9 : UL | _ => xM 0 35 4 :: xM 1 36 5 :: xI 2 37 1 35 36 :: xL 3 38 37 :: xM 4 39 4 :: xM 5 40 5 :: hid ylb8
def ylba : UL | _ => [xI 6 51 1 45 46, xN 7 (.sto 1 (.t 51) (.t 50))]
def ylbb : UL | _ => xM 0 45 0 :: xM 1 46 3 :: xM 2 47 4 :: xM 3 48 5 :: xI 4 49 1 47 48 :: xL 5 50 49 :: hid ylba
def ybbf : UB | _ => .seq (.block 3 (.seq (reg0 (hid ylb9) 10) (.cond (.t 44) (.seq (reg0 (hid ylbb) 8) (reg0 [xM 0 52 3, xc 1 53 .add 52 1, xM 2 3 53] 3)) .skip))) (reg0 [xM 0 33 5, xc 1 34 .add 33 1, xM 2 5 34] 3)
def ybbg : UB | _ => .seq (.seq (reg0 [xM 0 29 5, xM 1 30 4, xE 2 31 30, xb 3 32 .lss 29 31] 4) (.cond (.t 32) .skip (.exit 2))) (hid ybbf)
def ylbh : UL | _ => [xM 0 57 0, xM 1 58 3, xQ 2 59 (.ssl 1 (.t 57) none (some (.t 58))), xM 3 2 59]
def ybbi : UB | _ => .seq (.seq (reg0 [xC 0 5 1] 1) (.block 2 (.loop (hid ybbg)))) (.seq .bot (.seq (reg0 (hid ylbh) 4) .ret))
def ybbj : UB | _ => .seq (reg0 (hid ylb4) 10) (.cond (.t 25) (.seq (reg0 (hid ylb5) 4) (hid ybbi)) .skip)
def ybbl : UB | _ => .seq (.seq (reg0 [xM 0 10 3, xM 1 11 0, xE 2 12 11, xb 3 13 .lss 10 12] 4) (.cond (.t 13) .skip (.exit 0))) (.seq (.block 1 (hid ybbj)) (reg0 [xM 0 14 3, xc 1 15 .add 14 1, xM 2 3 15] 3))
def ybbn : UB | _ => .seq (.seq (reg0 [xC 0 3 1] 1) (.block 0 (.loop (hid ybbl)))) (.seq (reg0 [xM 0 60 0, xM 1 2 60] 2) .ret)
def ybbo : UB | _ => .seq (reg0 [xQ 0 2 (.mov (.k xS))] 1) (.seq (.seq (reg0 [xM 0 6 0, xE 1 7 6, xc 2 8 .lss 7 2] 3) (.cond (.t 8) (.seq (reg0 [xM 0 9 0, xM 1 2 9] 2) .ret) .skip)) (hid ybbn))
attribute [simp] ylb3 ylb4 ylb5 ylb8 ylb9 ylba ylbb ybbf ybbg ylbh ybbi ybbj ybbl ybbn ybbo
def c_CompI : EB × List QOp × Nat := ((hid ybbo), [(.mov (.t 2))], 61)
theorem k_CompI : cfun Tryz.prog 78 = some c_CompI := by kernel_rfl
def ylbs : UL | _ => [xM 0 8 3, xO 1 9 (.call 78 [.t 8]), xQ 2 10 (.build (([xS] : List Value) ++ zU8 ++ [xZ, xZ]) [(0, 1, .t 9)]), xO 3 11 (.fz (.q (.bsl 35 (([xS] : List Value) ++ zU8 ++ [xZ, xZ]) 1 [(0, .t 10)]))), xQ 4 12 (.build [xS] [(0, 1, .t 11)]), xN 5 (.fz (.sto 1 (.t 2) (.t 12)))]
def ybbu : UB | _ => .seq (reg0 [xQ 0 2 (.alloc 109 [xS])] 1) (.seq (reg0 [xM 0 4 0, xO 1 5 (.call 76 [.t 4]), xM 2 3 5] 3) (.seq (reg0 [xM 0 6 3, xO 1 7 (.call 77 [.t 6])] 2) (.seq (reg0 (hid ylbs) 6) .ret)))
attribute [simp] ylbs ybbu
def c_PAll : EB × List QOp × Nat := ((hid ybbu), [(.lda 1 (.t 2))], 13)
theorem k_PAll : cfun Tryz.prog 36 = some c_PAll := by kernel_rfl
def ylbz : UL | _ => [xQ 0 5 (.bsr 196 35 (([xS] : List Value) ++ zU8 ++ [xZ, xZ]) 0 []), xM 1 6 0, xO 2 7 (.app 196 35 72 (.t 5) (.t 6)), xM 3 2 7]
def ybc0 : UB | _ => .seq (reg0 [xQ 0 2 (.mov (.k xS))] 1) (.seq (.seq (reg0 [xM 0 3 0, xO 1 4 (.nild false (.t 3))] 2) (.cond (.t 4) (.seq (reg0 [xQ 0 2 (.mov (.k xS))] 1) .ret) .skip)) (.seq (reg0 (hid ylbz) 4) .ret))
attribute [simp] ylbz ybc0
def c_CloneBr : EB × List QOp × Nat := ((hid ybc0), [(.mov (.t 2))], 8)
theorem k_CloneBr : cfun Tryz.prog 203 = some c_CloneBr := by kernel_rfl
def ylc6 : UL | _ => [xL 6 19 18, xO 7 20 (.call 76 [.t 19]), xI 8 21 35 13 14, xF 9 22 0 21, xN 10 (.fz (.sto 1 (.t 22) (.t 20)))]
def ylc7 : UL | _ => xM 0 13 3 :: xM 1 14 4 :: xM 2 15 3 :: xM 3 16 4 :: xI 4 17 35 15 16 :: xF 5 18 0 17 :: hid ylc6
def ylcb : UL | _ => [xM 0 24 3, xQ 1 25 (.build [xS] [(0, 1, .t 24)]), xN 2 (.fz (.sto 1 (.t 2) (.t 25)))]
def ybcc : UB | _ => .seq (.seq (reg0 [xM 0 8 3, xE 1 9 8, xC 2 10 0] 3) (.block 0 (.loop (.seq (reg0 [xb 0 11 .lss 10 9] 1) (.seq (.cond (.t 11) .skip (.exit 0)) (.seq (.block 1 (.seq (reg0 [xM 0 12 10, xM 1 4 12] 2) (reg0 (hid ylc7) 11))) (reg0 [xc 0 23 .add 10 1, xM 1 10 23] 2))))))) (.seq (reg0 (hid ylcb) 3) .ret)
def ybcd : UB | _ => .seq (reg0 [xW 0 1 109 0, xQ 1 2 (.alloc 109 [xS])] 2) (.seq (reg0 [xF 0 5 0 1, xL 1 6 5, xO 2 7 (.call 203 [.t 6]), xM 3 3 7] 4) (hid ybcc))
attribute [simp] ylc6 ylc7 ylcb ybcc ybcd
def c_POwn : EB × List QOp × Nat := ((hid ybcd), [(.lda 1 (.t 2))], 26)
theorem k_POwn : cfun Tryz.prog 179 = some c_POwn := by kernel_rfl
def ylcf : UL | _ => [xO 6 11 (.app 196 35 72 (.t 7) (.t 10)), xQ 7 12 (.build [xS] [(0, 1, .t 11)]), xN 8 (.fz (.sto 1 (.t 4) (.t 12)))]
def ylcg : UL | _ => xD 0 5 1 2 :: xD 3 8 1 3 :: ⟨1, (some 6), none, (.call 179 [.t 5]), [3]⟩ :: xQ 2 7 (.fgc 0 (.t 6)) :: ⟨4, (some 9), none, (.call 179 [.t 8]), [2]⟩ :: xQ 5 10 (.fgc 0 (.t 9)) :: hid ylcf
def ybch : UB | _ => .seq (reg0 [xW 0 2 109 0, xW 1 3 109 1, xQ 2 4 (.alloc 109 [xS])] 3) (.seq (reg1 (hid ylcg) 9) .ret)
attribute [simp] ylcf ylcg ybch
def c_POr : EB × List QOp × Nat := ((hid ybch), [(.lda 1 (.t 4))], 13)
theorem k_POr : cfun Tryz.prog 141 = some c_POr := by kernel_rfl
@[simp] theorem rowsE_hc (l : List UInt8) : (hc l).flatMap rowsE = [] := by
 induction l with
 | nil => rfl
 | cons a r ih => exact ih
@[simp] theorem fzM_hc (H : Nat → Option EO) (d : List Nat) (l : List UInt8) : (hc l).map (fzM H d) = hc l := by
 induction l with
 | nil => rfl
 | cons a r ih =>
  show _ :: (hc r).map (fzM H d) = _
  rw [ih]
  rfl
theorem frzAll_hc (l : List UInt8) (r : List EC) : frzAll (hc l ++ r) = (frzAll r).map (hf l ++ ·) := by
 induction l with
 | nil => cases h : frzAll r <;> simp [hc, hf, h]
 | cons a t ih =>
  show ((some (FV.lit (.int .u8 a.toNat))).bind fun x => (frzAll (hc t ++ r)).map (x :: ·)) = _
  rw [ih]
  cases frzAll r <;> rfl
theorem bset (b : Bra) : FV.sl 1 (intv b.keys) :: List.tail (braF b) = braF b := rfl
theorem bset' (b : Bra) : FV.sl 1 (intv b.keys) :: List.drop 1 (braF b) = braF b := rfl
def KeysOK (ks : List Int) : Prop := 1 ≤ ks.length ∧ ks.length ≤ 16 ∧ (ks.length ≤ 12 ∨ RisI ks) ∧ RisI (insN ks) ∧ ks.Pairwise (· ≠ ·) ∧ ks.foldl insI [] = insN ks
def allB (ks : List Int) : List Bra := [⟨insN ks, hz, 0, 0⟩]
theorem ris_pw {l : List Int} (h : RisI l) : l.Pairwise (· < ·) := by
 rw [List.pairwise_iff_getElem]
 intro i j hi hj hij
 have := ris_lt h (j - i - 1) i l[i] l[j] (by simp [hi]) (by rw [show i + 1 + (j - i - 1) = j by omega]; simp [hj])
 exact this
theorem fold_ris : ∀ (l K : List Int), (K ++ l).Pairwise (· < ·) → l.foldl insI K = K ++ l
 | [], K, _ => by simp
 | a :: r, K, h => by
  have hlt : ∀ y ∈ K, y < a := fun y hy => (List.pairwise_append.1 h).2.2 y hy a (by simp)
  have hp : posI K a = K.length := by
   refine posI_eq (Nat.le_refl _) ?_ ?_
   ·intro k y _ hy; exact hlt y (List.mgE hy)
   ·intro y hy; simp at hy
  have e : insI K a = K ++ [a] := by
   unfold insI
   rw [hp, List.take_length, List.drop_length]
  rw [List.foldl_cons, e, fold_ris r (K ++ [a]) (by simpa using h)]
  simp
theorem keys_ris {ks : List Int} (h1 : 1 ≤ ks.length) (h2 : ks.length ≤ 16) (h : RisI ks) : KeysOK ks ∧ insN ks = ks := by
 have hp := ris_pw h
 have he := ins_ris h
 exact ⟨⟨h1, h2, .inr h, by rw [he]; exact h, hp.imp (fun h => by omega), by rw [he, fold_ris ks [] (by simpa using hp)]; rfl⟩, he⟩
theorem ris_one (a : Int) : RisI [a] := by
 intro i x y h1 h2
 simp at h2
theorem keys_one (a : Int) : KeysOK [a] ∧ insN [a] = [a] := keys_ris (by simp) (by simp) (ris_one a)
theorem ris_two {a b : Int} (h : a < b) : RisI [a, b] := by
 intro i x y h1 h2
 cases i with
 | zero => simp at h1 h2; omega
 | succ i => simp at h2
theorem keys_two {a b : Int} (h : a ≠ b) : KeysOK [a, b] := by
 rcases (by omega : a < b ∨ b < a) with g | g
 ·exact (keys_ris (by simp) (by simp) (ris_two g)).1
 ·have e : insN [a, b] = [b, a] := by rw [ins_two, if_pos g]
  refine ⟨by simp, by simp, .inl (by simp), by rw [e]; exact ris_two g, by simp [h], ?_⟩
  rw [e]
  have g' : ¬ a < b := by omega
  simp [insI, posI, g', g, Int.le_of_lt g]
theorem CompI_ok (l : List Int) (n : Nat) (hl : l.length = n) (h1 : 1 ≤ n) (h2 : n ≤ 1000) (h : RisI l) : ECalls Tryz.prog 78 [.v (.c (.row 0 n))] [.row 3 1 (intv l)] fun y H' => H' = [some (.row 3 1 (intv l))] ∧ y = .v (.c (.row 0 n)) := by
 refine ecalls k_CompI ?_
 simp [c_CompI, I]
 by_cases c1 : n < 2
 ·have c1' : (n : Int) < 2 := by omega
  simp [c1, c1']
  exact fin [] (by decide) rfl rfl (by simp [objsOut, show List.range 1 = [0] from rfl]) ⟨rfl, rfl⟩
 have c1' : ¬ (n : Int) < 2 := by omega
 simp [c1, c1']
 refine eloop (α := Nat) (fun i => 1 ≤ i ∧ i ≤ n) (fun i => n - i) (fun i => [.v (.c (.row 0 n)), xA, xA, I .i64 i, xA, xA, xA, xA, xA, xA, xA, xA, xA, xA, xA, xA, xA, xA, xA, xA, xA, xA, xA, xA, xA, xA, xA, xA, xA, xA, xA, xA, xA, xA, xA, xA, xA, xA, xA, xA, xA, xA, xA, xA, xA, xA, xA, xA, xA, xA, xA, xA, xA, xA, xA, xA, xA, xA, xA, xA, .any]) (fun _ => [some (.row 3 1 (intv l))]) 1 [0]
  ⟨by omega, by omega⟩ (by simp [I]) (by simp) (by simp) (by simp) (by simp) ?_
 rintro i ⟨hi1, hi2⟩
 by_cases hlt : i < n
 ·have hli : (i : Int) < n := by omega
  have hll : i < l.length := by omega
  obtain ⟨p, rfl⟩ : ∃ p, i = p + 1 := ⟨i - 1, by omega⟩
  obtain ⟨a, ha⟩ : ∃ a, l[p]? = some a := ⟨l[p], by simp [show p < l.length by omega]⟩
  obtain ⟨b, hb⟩ : ∃ b, l[p + 1]? = some b := ⟨l[p + 1], by simp [hll]⟩
  have hab : ¬ b = a := by have := h p a b ha hb; omega
  have wj : IntKind.i64.wrap (((p + 1 : Nat) : Int) - 1) = (p : Int) := by rw [wrap_i64 (by omega) (by omega)]; omega
  have w1 : IntKind.i64.wrap (((p + 1 : Nat) : Int) + 1) = ((p + 1 + 1 : Nat) : Int) := wrap_i64 (by omega) (by omega)
  have ga : ∀ h2, (intv l)[p]'h2 = [.lit (.int .i64 a)] := fun h2 => by rw [intv_at (by omega), ha]; rfl
  have gb : ∀ h2, (intv l)[p + 1]'h2 = [.lit (.int .i64 b)] := fun h2 => by rw [intv_at (by omega), hb]; rfl
  have hpl : p < l.length := by omega
  have hpn : p < n := by omega
  have hpi : (p : Int) < n := by omega
  generalize hje : p + 1 = j at *
  have n0 : ¬ ((j : Int) < 0) := by omega
  have n1 : ¬ ((p : Int) < 0) := by omega
  simp [I, hli, hlt, wj, ga, gb, hpl, hll, hpn, hpi, n0, n1, hab, hl]
  simp [w1, -Int.natCast_add]
  exact round (j + 1) [0] ⟨by omega, by omega⟩ (by omega) (by simp [I]) (by simp) (by simp) (by simp) (by simp)
 ·have h3' : i = n := by omega
  subst h3'
  simp [I]
  exact fin [] (by decide) rfl rfl (by simp [objsOut, show List.range 1 = [0] from rfl]) ⟨rfl, rfl⟩
theorem PAll_ok (ks : List Int) (h : KeysOK ks) : ECalls Tryz.prog 36 [IL ks] [] fun y H' => H' = [] ∧ y = CNv (allB ks) := by
 obtain ⟨h1, h2, h3, h4, h5, h6⟩ := h
 have hil : (insN ks).length = ks.length := insN_len ks
 refine ecalls k_PAll ?_
 simp [c_PAll, IL]
 refine call0 (cloneI_ok ks (by omega)) (by simp [IL]) ?_
 rintro y H' ⟨rfl, rfl⟩
 refine ⟨.inl (by simp), by simp, ?_⟩
 simp
 refine callH [32] (SortN_ok ks ks.length rfl h1 h2 h3) (by simp) (by simp) (by simp) (by simp) (by simp) ?_
 rintro y H' ⟨rfl, rfl⟩
 refine ⟨.inl (by simp), by simp, ?_⟩
 simp
 refine callH [32] (CompI_ok (insN ks) ks.length hil h1 (by omega) h4) (by simp) (by simp) (by simp) (by simp) (by simp) ?_
 rintro y H' ⟨rfl, rfl⟩
 refine ⟨.inl (by simp), by simp, ?_⟩
 have tk : List.take ks.length (intv (insN ks)) = intv (insN ks) := List.tkL (by simp [hil])
 simp [tk, frzAll_hc]
 exact fin0
theorem CloneBr_ok (l : List Bra) (hn : l.length ≤ 100000000) : ECalls Tryz.prog 203 [.v (.c (.fz (.sl 35 (brav l))))] [] fun y H' => H' = [some (.row 196 35 (brav l))] ∧ y = .v (.c (.row 0 l.length)) := by
 refine ecalls k_CloneBr ?_
 simp [c_CloneBr]
 refine both (fun h => ?_) (fun _ => ?_)
 ·simp
  refine finW _ (weak_nilR 2 196 35 rfl (by omega)) ?_
  have hn : l = [] := by cases l <;> simp_all
  subst hn
  exact fin [64] (by decide) rfl rfl rfl ⟨by simp [brav], by simp⟩
 ·simp
  exact ⟨by omega, fin [80] (by decide) rfl rfl rfl ⟨rfl, by simp⟩⟩
theorem brav_set {l : List Bra} {i : Nat} {b : Bra} (h : l[i]? = some b) : (brav l).set i (braF b) = brav l := by
 unfold brav
 rw [← List.map_set]
 congr 1
 apply List.ext_getElem?
 intro j
 rw [List.getElem?_set]
 by_cases e : i = j
 ·subst e
  have hlt : i < l.length := lt_of_get h
  rw [if_pos rfl, if_pos hlt, h]
 ·rw [if_neg e]
theorem POwn_ok (l : List Bra) (hl : ∀ b ∈ l, b.ok) (hn : l.length ≤ 2000000) : ECalls Tryz.prog 179 [CNv l] [] fun y H' => H' = [some (.row 196 35 (brav l))] ∧ y = .v (.agg [.row 0 l.length]) := by
 refine ecalls k_POwn ?_
 simp [c_POwn, CNv]
 refine call0 (CloneBr_ok l (by omega)) (by simp) ?_
 rintro y H' ⟨rfl, rfl⟩
 refine ⟨.inl (by simp), by simp, ?_⟩
 simp
 refine eloop (α := Nat) (fun i => i ≤ l.length) (fun i => l.length - i)
  (fun i => [xA, xA, Ptr 0, .v (.c (.row 1 l.length)), xA, xA, xA, xA, xA, I .i64 l.length, I .i64 i, xA, xA, xA, xA, xA, xA, xA, xA, xA, xA, xA, xA, xA, xA, .any]) (fun _ => [some (.box 109 [.fz (.lit (.slice none 0 0))]), some (.row 196 35 (brav l))]) 0 [16, 64]
  (Nat.zero_le _) (by simp [Ptr, I]) (by simp) (by simp) (by simp) (by simp) ?_
 intro i hi
 simp [Ptr, I]
 refine alt (fun hlt => ?_) (fun hlt => ?_)
 ·have hln : i < l.length := by omega
  obtain ⟨b, hcb⟩ : ∃ b, l[i]? = some b := ⟨l[i], by simp [hln]⟩
  have hge : (brav l)[i]'(by simp [hln]) = braF b := gE (brav_get hcb)
  have hb := hl b (List.mgE hcb)
  have l0 := bc_len hb.2.1
  have l1 := bf_len hb.2.1
  have e0 := idx_of (bc_0 b) (by omega)
  have tk : List.take b.keys.length (intv b.keys) = intv b.keys := List.tkL (by simp)
  have w1 := wS (i := i) (by omega)
  simp [hln, hge, braF_fz, l0, e0]
  refine call0 (cloneI_ok b.keys hb.2.2.2.2) (by simp [IL]) ?_
  rintro y H' ⟨rfl, rfl⟩
  refine ⟨.inl (by simp), by simp, ?_⟩
  simp [hln, hge, braF_fz, l0, l1, e0, tk, bset, bset', brav_set hcb, w1, -Int.natCast_add]
  exact round (i + 1) [0, 1] (by omega) (by omega) (by simp [Ptr, I]) (by simp) (by simp) (by simp) (by simp)
 have hil : i = l.length := by omega
 subst hil
 simp
 exact fin [1] (by decide) rfl rfl rfl ⟨rfl, rfl⟩
theorem POr_ok (a b : List Bra) (ha : ∀ x ∈ a, x.ok) (hb : ∀ x ∈ b, x.ok) (hna : a.length ≤ 2000000) (hnb : b.length ≤ 2000000) : ECalls Tryz.prog 141 [CNv a, CNv b] [] fun y H' => H' = [] ∧ y = CNv (a ++ b) := by
 refine ecalls k_POr ?_
 simp [c_POr, CNv]
 refine call0 (POwn_ok a ha hna) (by simp [CNv]) ?_
 rintro y H' ⟨rfl, rfl⟩
 refine ⟨.inl (by simp), by simp, ?_⟩
 simp
 refine call0 (POwn_ok b hb hnb) (by simp [CNv]) ?_
 rintro y H' ⟨rfl, rfl⟩
 refine ⟨.inl (by simp), by simp, ?_⟩
 simp
 refine ⟨⟨by omega, by omega⟩, ?_⟩
 have tk : List.take b.length (brav b) = brav b := List.tkL (by simp)
 have tk2 : List.take (a.length + b.length) (brav a ++ brav b) = brav (a ++ b) := by
  have e : brav a ++ brav b = brav (a ++ b) := by simp [brav]
  rw [e, List.tkL (by simp)]
 rw [tk]
 refine finW _ (weak_frz (o := 144) (ty := 196) (es := 35) (xs := brav a ++ brav b) rfl) ?_
 exact fin [] (by decide) rfl rfl rfl ⟨rfl, by simp [tk2]⟩
def gN : FV → FV
 | .sl _ [] => .lit (.slice none 0 0)
 | x => x
theorem fr_g {Φ : Nat → Prop} {w : World} {es : Nat} {ys : List (List FV)} {v : Value} (h : FR Φ w (.sl es (ys.map (·.map gN))) v) : FR Φ w (.sl es ys) v := by
 generalize hx : ys.map (·.map gN) = xs at h
 have hlen : xs.length = ys.length := by rw [← hx]; simp
 cases h with
 | emp => 
  have : ys = [] := by simpa using hx
  subst this
  exact FR.emp _ _ _
 | sl es xs b off cap vs hb h0 hl hn hcap hcell hfr =>
  rw [hlen]
  refine .sl es ys b off cap vs hb h0 ?_ (by rw [hn, hlen]) (by omega) hcell ?_
  ·intro y hy
   have := hl (y.map gN) (by rw [← hx]; exact List.mem_map.2 ⟨y, hy, rfl⟩)
   simpa using this
  ·intro j y u hy hu
   have e : xs.flatten = ys.flatten.map gN := by rw [← hx, List.map_flatten]
   have h1 := hfr j (gN y) u (by rw [e, List.getElem?_map, hy]; rfl) hu
   unfold gN at h1
   split at h1
   ·cases h1
    exact FR.emp _ none 0
   ·exact h1
theorem ecalls_nlG {P : Program} {f : FuncId} {a c : EC} {ys : List (List FV)} {rest : List EV} {H : List EO} {post : EV → List (Option EO) → Prop} (h : ECalls P f (.v (.agg [a, .fz (.sl 35 ys), c]) :: rest) H post) :
  ECalls P f (.v (.agg [a, .fz (.sl 35 (ys.map (·.map gN))), c]) :: rest) H post := by
 intro ρ Φ w vals r' ha
 refine h ρ Φ w vals r' ?_
 obtain ⟨u, us, rfl, h1, h2⟩ := ha.cons_left
 refine All2.cons ?_ h2
 obtain ⟨vs, rfl, hv⟩ := h1
 refine ⟨vs, rfl, by simpa using hv.1, ?_⟩
 intro i x y hx hy
 rcases i with _ | _ | _ | i
 ·exact hv.2 0 x y hx hy
 ·have := hv.2 1 _ y rfl hy
  simp at hx; subst hx
  exact fr_g this
 ·exact hv.2 2 x y hx hy
 ·simp at hx
theorem weak_nlG {m n o k : Nat} {T : List EV} {H : Nat → Option EO} {tb : TypeId} {cells : List EC} {es : Nat} (ys : List (List FV)) (ho : H o = some (.box tb cells)) (hc : cells[k]? = some (.fz (.sl es (ys.map (·.map gN))))) :
  Weak m ⟨T, H, n⟩ ⟨T, upd H o (some (.box tb (cells.set k (.fz (.sl es ys))))), n⟩ := by
 rintro w0 ρ0 Φ0 a w ⟨⟨X, rfl, r, hall, hd, hU⟩, hm⟩
 have live : ∀ i x, upd H o (some (.box tb (cells.set k (.fz (.sl es ys))))) i = some x → ∃ x', H i = some x' ∧ ((i = o ∧ x = .box tb (cells.set k (.fz (.sl es ys)))) ∨ x' = x) := by
  intro i x hx
  by_cases h : i = o
  ·subst h; rw [upd_same] at hx; exact ⟨_, ho, .inl ⟨rfl, (Option.some.inj hx).symm⟩⟩
  ·rw [upd_ne _ _ _ h] at hx; exact ⟨x, hx, .inr rfl⟩
 have hbx : ∀ i x x', upd H o (some (.box tb (cells.set k (.fz (.sl es ys))))) i = some x → H i = some x' → True := fun _ _ _ _ _ => trivial
 refine ⟨⟨X, rfl, ⟨r.os, r.tape, r.output, r.size, r.block, r.pin, ?_, ?_, ?_, ?_, r.fro, r.phi, r.glob⟩, hall, hd, hU⟩, hm⟩
 ·intro i x hx
  obtain ⟨x', hx', h⟩ := live i x hx
  obtain ⟨hu, hor⟩ := r.obj i x' hx'
  refine ⟨hu, ?_⟩
  rcases h with ⟨rfl, rfl⟩ | rfl
  ·rw [ho] at hx'
   obtain rfl := Option.some.inj hx'
   obtain ⟨b, c, q1, q2, q3⟩ := hor
   refine ⟨b, c, q1, q2, by simpa using q3.1, ?_⟩
   intro j y v hy hv
   rw [List.getElem?_set] at hy
   split at hy
   ·rename_i hj
    subst hj
    split at hy
    ·obtain rfl := Option.some.inj hy
     exact fr_g (q3.2 k _ v hc hv)
    ·simp at hy
   ·exact q3.2 j y v hy hv
  ·exact hor
 ·intro i i' x x' b h1 h2
  obtain ⟨_, q1, _⟩ := live i x h1
  obtain ⟨_, q2, _⟩ := live i' x' h2
  exact r.inj i i' _ _ b q1 q2
 ·intro i x b h1
  obtain ⟨_, q1, _⟩ := live i x h1
  exact r.own i _ b q1
 ·intro i x b h1
  obtain ⟨_, q1, _⟩ := live i x h1
  exact r.dis i _ b q1
theorem hf_gN (l : List UInt8) (r : List FV) : (hf l ++ r).map gN = hf l ++ r.map gN := by
 have : (hf l).map gN = hf l := by simp [hf, gN]
 rw [List.map_append, this]
def ylcm : UL | _ => [xI 0 12 2 8 10, xD 1 13 2 12, xQ 2 6 (.alloc 112 [xZ, xS]), xN 3 (.fz (.sto 2 (.t 6) (.t 13)))]
def ylcn : UL | _ => [yM 6 20 17 false 4, xG 7 21 17 false (.bin .sub (xK 1125899906842624) (.t 20)), xG 8 22 17 false (.bin .gtr (.t 19) (.t 21)), xP 9 23 17 22]
def ylco : UL | _ => xF 0 14 0 6 :: xL 1 15 14 :: xc 2 16 .lss 15 0 :: xM 3 17 16 :: yF 4 18 17 false 0 6 :: yL 5 19 17 false 18 :: hid ylcn
def ylcr : UL | _ => [xM 0 25 4, xF 1 26 0 6, xL 2 27 26, xb 3 28 .add 25 27, xM 4 4 28]
def ybcu : UB | _ => .seq (.cond (.t 11) .skip (.exit 0)) (.seq (.block 1 (.seq (reg0 (hid ylcm) 4) (.seq (.seq (reg0 (hid ylco) 10) (.cond (.t 23) (.seq (reg0 [xQ 0 24 (.mki 132 (xK 5)), xC 1 2 0, xM 2 3 24] 3) .ret) .skip)) (reg0 (hid ylcr) 5)))) (reg0 [xc 0 29 .add 10 1, xM 1 10 29] 2))
def ybcx : UB | _ => .seq (reg0 [xC 0 4 0] 1) (.seq (.seq (reg0 [xF 0 7 2 1, xL 1 8 7, xE 2 9 8, xC 3 10 0] 4) (.block 0 (.loop (.seq (reg0 [xb 0 11 .lss 10 9] 1) (hid ybcu))))) (.seq (reg0 [xM 0 30 4, xM 1 2 30, xQ 2 3 (.mov (.k .nilIface))] 3) .ret))
def ybcy : UB | _ => .seq (reg0 [xW 0 1 71 0, xC 1 2 0, xQ 2 3 (.mov (.k .nilIface))] 3) (hid ybcx)
attribute [simp] ylcm ylcn ylco ylcr ybcu ybcx ybcy
def c_TxTotal : EB × List QOp × Nat := ((hid ybcy), [(.mov (.t 2)), (.mov (.t 3))], 31)
theorem k_TxTotal : cfun Tryz.prog 118 = some c_TxTotal := by kernel_rfl
def yld1 : UL | _ => [yL 24 36 34 false 35, yM 25 37 34 false 3, ⟨26, (some 38), (some (34, false)), (.call 116 [.t 36, .t 37]), []⟩, xP 27 39 34 38]
def yld2 : UL | _ => xG 18 30 27 false (.len (.t 29)) :: ⟨19, (some 31), (some (27, false)), (.call 115 [.t 30]), []⟩ :: xG 20 32 27 false (.un .not (.t 31)) :: xP 21 33 27 32 :: xM 22 34 33 :: yF 23 35 34 false 1 1 :: hid yld1
def yld3 : UL | _ => ⟨12, (some 24), (some (20, false)), (.call 115 [.t 23]), []⟩ :: xG 13 25 20 false (.un .not (.t 24)) :: xP 14 26 20 25 :: xM 15 27 26 :: yF 16 28 27 false 2 1 :: yL 17 29 27 false 28 :: hid yld2
def yld4 : UL | _ => xG 6 18 15 false (.bin .gtr (.t 17) (xK 1099511627776)) :: xP 7 19 15 18 :: xM 8 20 19 :: yF 9 21 20 false 1 1 :: yL 10 22 20 false 21 :: xG 11 23 20 false (.len (.t 22)) :: hid yld3
def yld5 : UL | _ => xF 0 12 0 1 :: xL 1 13 12 :: xc 2 14 .lss 13 0 :: xM 3 15 14 :: yF 4 16 15 false 0 1 :: yL 5 17 15 false 16 :: hid yld4
def yldb : UL | _ => [xI 0 47 35 43 45, xD 1 48 35 47, xQ 2 6 (.alloc 146 (zU8 ++ [xZ, xZ, xS])), xN 3 (.fz (.sto 35 (.t 6) (.t 48)))]
def yldc : UL | _ => [xX 6 55 1 54, xN 7 (.mp .sto [.t 49, .t 55, .t 53])]
def yldd : UL | _ => xM 0 49 4 :: xF 1 50 0 6 :: xD 2 51 33 50 :: xQ 3 52 (.mget [(32, .u8), (1, .i64)] .i64 (.t 49) (.t 51)) :: xc 4 53 .add 52 1 :: ⟨5, (some 54), none, (.mp (.ent [(32, .u8), (1, .i64)] .i64) [.t 49, .t 51]), [4]⟩ :: hid yldc
def ybdh : UB | _ => .seq (reg0 [xF 0 42 1 1, xL 1 43 42, xE 2 44 43, xC 3 45 0] 4) (.block 0 (.loop (.seq (reg0 [xb 0 46 .lss 45 44] 1) (.seq (.cond (.t 46) .skip (.exit 0)) (.seq (.block 1 (.seq (reg0 (hid yldb) 4) (reg1 (hid yldd) 8))) (reg0 [xc 0 56 .add 45 1, xM 1 45 56] 2))))))
def yldi : UL | _ => [xM 0 57 4, xO 1 58 (.mp .len [.t 57]), xF 2 59 1 1, xL 3 60 59, xE 4 61 60, xb 5 62 .neq 58 61]
def yldn : UL | _ => [xI 0 69 2 65 67, xD 1 70 2 69, xQ 2 8 (.alloc 112 [xZ, xS]), xN 3 (.fz (.sto 2 (.t 8) (.t 70)))]
def ybds : UB | _ => .seq (reg0 (hid yldn) 4) (.seq (reg0 [xD 0 71 2 8, xO 1 72 (.call 117 [.t 71]), xM 2 9 72] 3) (.seq (reg0 [xM 0 73 9, xQ 1 74 (.eqi true (.t 73))] 2) (.cond (.t 74) (.seq (reg0 [xM 0 75 9, xM 1 2 75] 2) .ret) .skip)))
def ybdu : UB | _ => .seq (.cond (.t 68) .skip (.exit 2)) (.seq (.block 3 (hid ybds)) (reg0 [xc 0 76 .add 67 1, xM 1 67 76] 2))
def ybdv : UB | _ => .seq (reg0 [xF 0 64 2 1, xL 1 65 64, xE 2 66 65, xC 3 67 0] 4) (.block 2 (.loop (.seq (reg0 [xb 0 68 .lss 67 66] 1) (hid ybdu))))
def yldw : UL | _ => [xM 6 11 81]
def yldx : UL | _ => xD 0 78 3 1 :: xO 1 79 (.call 118 [.t 78]) :: xM 2 77 79 :: xX 3 80 0 77 :: xX 4 81 1 77 :: xM 5 10 80 :: hid yldw
def ybe0 : UB | _ => .seq (hid ybdh) (.seq (.seq (reg0 (hid yldi) 6) (.cond (.t 62) (.seq (reg0 [xQ 0 63 (.mki 132 (xK 9)), xM 1 2 63] 2) .ret) .skip)) (.seq (hid ybdv) (.seq (reg0 (hid yldx) 7) (.seq (reg0 [xM 0 82 11, xM 1 2 82] 2) .ret))))
def ybe1 : UB | _ => .seq (.seq (reg0 (hid yld5) 28) (.cond (.t 39) (.seq (reg0 [xQ 0 40 (.mki 132 (xK 4)), xM 1 2 40] 2) .ret) .skip)) (.seq (reg0 [xO 0 41 (.mp (.new [(32, .u8), (1, .i64)]) []), xM 1 4 41] 2) (hid ybe0))
def ybe2 : UB | _ => .seq (reg0 [xW 0 1 71 0, xQ 1 2 (.mov (.k .nilIface))] 2) (.seq (reg0 [xQ 0 3 (.mov (.k (.func (.func 113) #[] #[])))] 1) (hid ybe1))
attribute [simp] yld1 yld2 yld3 yld4 yld5 yldb yldc yldd ybdh yldi yldn ybds ybdu ybdv yldw yldx ybe0 ybe1 ybe2
def c_TxCheck : EB × List QOp × Nat := ((hid ybe2), [(.mov (.t 2))], 83)
theorem k_TxCheck : cfun Tryz.prog 57 = some c_TxCheck := by kernel_rfl
def totO : Int → List Outp → Int × Nat
 | n, [] => (n, 0)
 | n, o :: r => if o.am < 0 ∨ 1125899906842624 - n < o.am then (0, 5) else totO (n + o.am) r
def ptI (x : Inp) : List Int := x.tx.map (fun b => (b.toNat : Int)) ++ [x.n]
def ddp (l : List (List Int)) : List (List Int) := l.foldl (fun K p => if p ∈ K then K else K ++ [p]) []
def outsE : List Outp → Nat
 | [] => 0
 | o :: r => if ouE o ≠ 0 then ouE o else outsE r
def chkT (t : Txn) : Nat :=
 if t.lk < 0 ∨ 1099511627776 < t.lk ∨ ¬ (1 ≤ t.ins.length ∧ t.ins.length ≤ 64) ∨ ¬ (1 ≤ t.outs.length ∧ t.outs.length ≤ 64) ∨ t.ins.all inM = false then 4
 else if ¬ (t.ins.map ptI).Nodup then 9
 else if outsE t.outs ≠ 0 then outsE t.outs
 else (totO 0 t.outs).2
theorem revRec {α : Type} {C : List α → Prop} (h0 : C []) (h1 : ∀ l a, C l → C (l ++ [a])) (l : List α) : C l := by
 rw [← List.reverse_reverse l]
 generalize l.reverse = r
 induction r with
 | nil => exact h0
 | cons a r ih => rw [List.reverse_cons]; exact h1 _ _ ih
theorem ddp_snoc (l : List (List Int)) (p : List Int) : ddp (l ++ [p]) = if p ∈ ddp l then ddp l else ddp l ++ [p] := by
 unfold ddp
 rw [List.foldl_append]
 rfl
theorem mem_ddp (l : List (List Int)) : ∀ p, p ∈ ddp l ↔ p ∈ l := by
 refine revRec (C := fun l => ∀ p, p ∈ ddp l ↔ p ∈ l) (fun p => by simp [ddp]) ?_ l
 ·intro l q ih p
  rw [ddp_snoc]
  split
  ·rename_i h
   rw [ih p, List.mem_append, List.mem_singleton]
   constructor
   ·exact .inl
   ·rintro (h' | rfl)
    ·exact h'
    ·exact (ih p).1 h
  ·rw [List.mem_append, List.mem_append, ih p]
theorem ddp_len (l : List (List Int)) : (ddp l).length ≤ l.length ∧ ((ddp l).length = l.length ↔ l.Nodup) := by
 refine revRec (C := fun l => (ddp l).length ≤ l.length ∧ ((ddp l).length = l.length ↔ l.Nodup)) (by simp [ddp]) ?_ l
 ·intro l q ih
  rw [ddp_snoc]
  have hn : (l ++ [q]).Nodup ↔ l.Nodup ∧ q ∉ l := by
   rw [List.nodup_append]
   constructor
   ·rintro ⟨h1, _, h3⟩
    exact ⟨h1, fun h => h3 q h q (by simp) rfl⟩
   ·rintro ⟨h1, h2⟩
    refine ⟨h1, by simp, ?_⟩
    intro a ha b hb
    simp at hb; subst hb
    rintro rfl
    exact h2 ha
  rw [hn]
  split
  ·rename_i h
   refine ⟨by simp; omega, ?_⟩
   constructor
   ·intro e; simp at e; omega
   ·rintro ⟨_, h2⟩; exact absurd ((mem_ddp l q).1 h) h2
  ·rename_i h
   simp only [List.length_append, List.length_singleton]
   refine ⟨by omega, ?_⟩
   rw [← ih.2]
   constructor
   ·intro e; exact ⟨by omega, fun h' => h ((mem_ddp l q).2 h')⟩
   ·rintro ⟨e, _⟩; omega
theorem litK_app : ∀ {ks ks' : List IntKind} {cs cs' : List EC} {a b : List Int}, litK ks cs = some a → litK ks' cs' = some b → litK (ks ++ ks') (cs ++ cs') = some (a ++ b)
 | [], ks', [], cs', a, b, h1, h2 => by simp [litK] at h1; subst h1; exact h2
 | [], ks', c :: cs, cs', a, b, h1, h2 => by simp [litK] at h1
 | k :: ks, ks', [], cs', a, b, h1, h2 => by simp [litK] at h1
 | k :: ks, ks', c :: cs, cs', a, b, h1, h2 => by
  unfold litK at h1
  split at h1
  ·simp at *
  ·rename_i k1 ks1 k2 n r e1 e2
   simp only [List.cons.injEq] at e1 e2
   obtain ⟨rfl, rfl⟩ := e1
   obtain ⟨rfl, rfl⟩ := e2
   split at h1
   ·rename_i hh
    obtain ⟨b', hb', rfl⟩ := Option.map_eq_some_iff.1 h1
    show litK (k :: (ks ++ ks')) (_ :: (cs ++ cs')) = _
    unfold litK
    rw [if_pos hh, litK_app hb' h2]
    rfl
   ·simp at h1
  ·simp at h1
theorem wf_u8 (b : UInt8) : (Lit.int .u8 (b.toNat : Int)).wf = true := by
 have := b.toNat_lt
 simp [Lit.wf, IntKind.min, IntKind.max, IntKind.signed, IntKind.bits]
 omega
theorem wf_i64 {n : Int} (h : i64 n) : (Lit.int .i64 n).wf = true := by
 unfold i64 at h
 simp [Lit.wf, IntKind.min, IntKind.max, IntKind.signed, IntKind.bits]
 omega
theorem litK_u8 : ∀ (l : List UInt8), litK (List.replicate l.length .u8) (hc l) = some (l.map fun b => (b.toNat : Int))
 | [] => rfl
 | b :: r => by
  show litK (.u8 :: List.replicate r.length .u8) (.fz (.lit (.int .u8 b.toNat)) :: hc r) = _
  unfold litK
  rw [if_pos ⟨rfl, wf_u8 b⟩, litK_u8 r]
  rfl
theorem litK_i64 {n : Int} (h : i64 n) : litK [.i64] [iC n] = some [n] := by
 simp [litK, iC, wf_i64 h]
theorem litK_pt {x : Inp} (h : x.ok) : litK (unrle [(32, .u8), (1, .i64)]) (hc x.tx ++ [iC x.n]) = some (ptI x) := by
 have e : unrle [(32, .u8), (1, .i64)] = List.replicate x.tx.length .u8 ++ [.i64] := by rw [h.1]; rfl
 rw [e]
 exact litK_app (litK_u8 x.tx) (litK_i64 h.2.1)
def vI (E : List (List Int × Int)) : List (List Int × Value) := E.map fun p => (p.1, Value.int .i64 p.2)
theorem vI_get (k : List Int) : ∀ E, ∃ c, getM (.int .i64 0) k (vI E) = Value.int .i64 c
 | [] => ⟨0, rfl⟩
 | p :: r => by
  obtain ⟨c, hc⟩ := vI_get k r
  by_cases h : p.1 = k
  ·exact ⟨p.2, by simp [vI, getM, h]⟩
  ·refine ⟨c, ?_⟩
   show getM (.int .i64 0) k ((p.1, Value.int .i64 p.2) :: vI r) = _
   simp only [getM, if_neg h]
   exact hc
theorem vI_ent (k : List Int) : ∀ E, ∃ E', entM (.int .i64 0) k (vI E) = vI E' ∧ E'.map (·.1) = (if k ∈ E.map (·.1) then E.map (·.1) else E.map (·.1) ++ [k]) ∧ idxM k (vI E) < E'.length
 | [] => ⟨[(k, 0)], rfl, by simp, by simp [vI, idxM]⟩
 | p :: r => by
  by_cases h : p.1 = k
  ·exact ⟨p :: r, by simp [vI, entM, h], by simp [h], by simp [vI, idxM, h]⟩
  ·obtain ⟨E', h1, h2, h3⟩ := vI_ent k r
   refine ⟨p :: E', ?_, ?_, ?_⟩
   ·show entM (.int .i64 0) k ((p.1, Value.int .i64 p.2) :: vI r) = _
    simp only [entM, if_neg h, h1]
    rfl
   ·simp only [List.map_cons, List.mem_cons, h2, fun e : k = p.1 => h e.symm]
    by_cases hm : k ∈ r.map (·.1)
    ·rw [if_pos hm, if_pos (.inr hm)]
    ·rw [if_neg hm, if_neg (by rintro (e | e); exact h e.symm; exact hm e)]
     rfl
   ·show idxM k ((p.1, Value.int .i64 p.2) :: vI r) < _
    simp only [idxM, if_neg h, List.length_cons]
    omega
theorem vI_put (s : Nat) (c : Int) (E : List (List Int × Int)) : ∃ E', putM s (.int .i64 c) (vI E) = vI E' ∧ E'.map (·.1) = E.map (·.1) := by
 refine ⟨E.modify s fun p => (p.1, c), ?_, ?_⟩
 ·unfold putM vI
  apply List.ext_getElem?
  intro i
  simp only [List.getElem?_modify, List.getElem?_map]
  by_cases h : s = i
  ·subst h; cases E[s]? <;> simp
  ·cases E[i]? <;> simp [h]
 ·apply List.ext_getElem?
  intro i
  simp only [List.getElem?_modify, List.getElem?_map]
  by_cases h : s = i
  ·subst h; cases E[s]? <;> simp
  ·cases E[i]? <;> simp [h]
theorem TxTotal_ok (t : Txn) (ht : t.ok) : ECalls Tryz.prog 118 [TXv t] [] fun y H' => H' = [] ∧ y = .tup [.c (iC (totO 0 t.outs).1), .c (.fz (.lit (errV (totO 0 t.outs).2)))] := by
 obtain ⟨h1, h2, h3, h4, h5⟩ := ht
 obtain ⟨F, hF⟩ : ∃ F, totO 0 t.outs = F := ⟨_, rfl⟩
 rw [hF]
 refine ecalls k_TxTotal ?_
 simp [c_TxTotal, TXv, txC, I, iC]
 refine eloop (α := Nat × Int) (fun a => a.1 ≤ t.outs.length ∧ totO a.2 (t.outs.drop a.1) = F ∧ 0 ≤ a.2 ∧ a.2 ≤ 1125899906842624) (fun a => t.outs.length - a.1)
  (fun a => [xA, xA, xA, xA, I .i64 a.2, xA, xA, xA, .v (.c (.fz (.sl 2 (outv t.outs)))), I .i64 t.outs.length, I .i64 a.1, xA, xA, xA, xA, xA, xA, xA, xA, xA, xA, xA, xA, xA, xA, xA, xA, xA, xA, xA, .any]) (fun _ => []) (0, 0) []
  ⟨by simp, by simpa using hF, by simp, by simp⟩ (by simp [I]) (by simp) (by simp) (by simp) (by simp) ?_
 rintro ⟨i, n⟩ ⟨hi1, hi2, hi3, hi4⟩
 dsimp only at hi1 hi2 hi3 hi4
 simp [I]
 refine alt (fun hlt => ?_) (fun hlt => ?_)
 ·have hln : i < t.outs.length := by omega
  obtain ⟨p, hc⟩ : ∃ p, t.outs[i]? = some p := ⟨t.outs[i], by simp [hln]⟩
  have hge : (outv t.outs)[i]'(by simp [hln]) = outF p := gE (outv_get hc)
  have hpo := h3 p (List.mgE hc)
  have hpa := hpo.1
  unfold i64 at hpa
  rw [drop_cons hc] at hi2
  have w1 := wS (i := i) (by omega)
  have w2 : IntKind.i64.wrap (1125899906842624 - n) = 1125899906842624 - n := wrap_i64 (by omega) (by omega)
  simp [hln, hge, outF, iF]
  by_cases c1 : p.am < 0
  ·have c1' : ¬ 0 ≤ p.am := by omega
   have hv : F = (0, 5) := by rw [← hi2]; exact if_pos (.inl c1)
   rw [hv]
   simp [c1, c1', w2]
   exact fin0
  have c1' : 0 ≤ p.am := by omega
  by_cases c2 : 1125899906842624 - n < p.am
  ·have c2' : ¬ p.am ≤ 1125899906842624 - n := by omega
   have hv : F = (0, 5) := by rw [← hi2]; exact if_pos (.inr c2)
   rw [hv]
   simp [c1, c1', w2, c2, c2']
   exact fin0
  have c2' : p.am ≤ 1125899906842624 - n := by omega
  have w3 : IntKind.i64.wrap (n + p.am) = n + p.am := wrap_i64 (by omega) (by omega)
  have hn : totO (n + p.am) (t.outs.drop (i + 1)) = F := by rw [← hi2]; exact (if_neg (by omega)).symm
  simp [c1, c1', w2, c2, c2', w3, w1, -Int.natCast_add]
  exact round (i + 1, n + p.am) [] ⟨by dsimp only; omega, hn, by dsimp only; omega, by dsimp only; omega⟩ (by dsimp only; omega) (by simp [I]) (by simp) (by simp) (by simp) (by simp)
 ·have hd : t.outs.drop i = [] := by rw [List.drop_eq_nil_iff]; omega
  rw [hd] at hi2
  rw [← hi2]
  simp
  exact fin0
def seenO (E : List (List Int × Int)) : EO := .mp [(32, .u8), (1, .i64)] (vI E)
theorem drop35i (a b c : EC) : List.drop 35 (hc hz ++ [a, b, c]) = [] := by rw [List.drop_eq_nil_iff]; simp [hz]
theorem TxCheck_ok (t : Txn) (ht : t.ok) : ECalls Tryz.prog 57 [TXv t] [] fun y H' => H' = [] ∧ y = .lit (errV (chkT t)) := by
 obtain ⟨h1, h2, h3, h4, h5⟩ := id ht
 have hv4 : (t.lk < 0 ∨ 1099511627776 < t.lk ∨ ¬ (1 ≤ t.ins.length ∧ t.ins.length ≤ 64) ∨ ¬ (1 ≤ t.outs.length ∧ t.outs.length ≤ 64) ∨ t.ins.all inM = false) → chkT t = 4 := fun h => if_pos h
 refine ecalls k_TxCheck ?_
 simp [c_TxCheck, TXv, txC, I, iC]
 by_cases c1 : t.lk < 0
 ·have c1' : ¬ 0 ≤ t.lk := by omega
  rw [hv4 (.inl c1)]
  simp [c1, c1']
  exact fin0
 have c1' : 0 ≤ t.lk := by omega
 by_cases c2 : 1099511627776 < t.lk
 ·have c2' : ¬ t.lk ≤ 1099511627776 := by omega
  rw [hv4 (.inr (.inl c2))]
  simp [c1, c1', c2, c2']
  exact fin0
 have c2' : t.lk ≤ 1099511627776 := by omega
 simp [c1, c1', c2, c2', I]
 refine call0 (TxSome_ok (t.ins.length : Int)) (by simp [I]) ?_
 rintro y H' ⟨rfl, rfl⟩
 refine ⟨.inl (by simp), le_ok rfl, ?_⟩
 cases c3 : decide (1 ≤ (t.ins.length : Int) ∧ (t.ins.length : Int) ≤ 64)
 ·have c3 := of_decide_eq_false c3
  rw [hv4 (.inr (.inr (.inl (by omega))))]
  simp [I]
  exact fin0
 have c3 := of_decide_eq_true c3
 simp [I]
 refine call0 (TxSome_ok (t.outs.length : Int)) (by simp [I]) ?_
 rintro y H' ⟨rfl, rfl⟩
 refine ⟨.inl (by simp), le_ok rfl, ?_⟩
 cases c4 : decide (1 ≤ (t.outs.length : Int) ∧ (t.outs.length : Int) ≤ 64)
 ·have c4 := of_decide_eq_false c4
  rw [hv4 (.inr (.inr (.inr (.inl (by omega)))))]
  simp [I]
  exact fin0
 have c4 := of_decide_eq_true c4
 simp [I]
 refine call0 (ConIn_ok t.ins h2 h4) (by simp) ?_
 rintro y H' ⟨rfl, rfl⟩
 refine ⟨.inl (by simp), le_ok rfl, ?_⟩
 cases c5 : t.ins.all inM
 ·rw [hv4 (.inr (.inr (.inr (.inr c5))))]
  simp [I]
  exact fin0
 have hv9 : chkT t = if ¬ (t.ins.map ptI).Nodup then 9 else if outsE t.outs ≠ 0 then outsE t.outs else (totO 0 t.outs).2 := by
  unfold chkT
  rw [if_neg]
  rintro (h | h | h | h | h)
  ·exact c1 h
  ·exact c2 h
  ·omega
  ·omega
  ·rw [c5] at h; simp at h
 simp [I]
 refine eloop (α := Nat × List (List Int × Int)) (fun a => a.1 ≤ t.ins.length ∧ a.2.map (·.1) = ddp ((t.ins.take a.1).map ptI)) (fun a => t.ins.length - a.1)
  (fun a => [xA, Ptr 0, xA, xA, .v (.c (.mp 1)), xA, xA, xA, xA, xA, xA, xA, xA, xA, xA, xA, xA, xA, xA, xA, xA, xA, xA, xA, xA, xA, xA, xA, xA, xA, xA, xA, xA, xA, xA, xA, xA, xA, xA, xA, xA, xA, xA, .v (.c (.fz (.sl 35 (inpv t.ins)))), I .i64 t.ins.length, I .i64 a.1, xA, xA, xA, xA, xA, xA, xA, xA, xA, xA, xA, xA, xA, xA, xA, xA, xA, xA, xA, xA, xA, xA, xA, xA, xA, xA, xA, xA, xA, xA, xA, xA, xA, xA, xA, xA, .any]) (fun a => [some (.box 71 (txC t)), some (seenO a.2)]) (0, []) [0, 496]
  ⟨by simp, by simp [ddp]⟩ (by simp [I, Ptr]) (by simp [txC, iC, seenO, vI]) (by simp) (by simp) (by simp) ?_
 rintro ⟨i, E⟩ ⟨hi1, hi2⟩
 dsimp only at hi1 hi2
 simp [I, Ptr, txC, iC, seenO]
 refine alt (fun hlt => ?_) (fun hlt => ?_)
 ·have hln : i < t.ins.length := by omega
  obtain ⟨p, hcp⟩ : ∃ p, t.ins[i]? = some p := ⟨t.ins[i], by simp [hln]⟩
  have hge : (inpv t.ins)[i]'(by simp [hln]) = inpF p := gE (inpv_get hcp)
  have hpo := h2 p (List.mgE hcp)
  have l0 := ic_len hpo.1
  have l1 := if_len hpo.1
  have tk := ic_take hpo.1
  have pt := ic_pt hpo.1
  have hkl : (hc p.tx ++ [EC.fz (FV.lit (Value.int IntKind.i64 p.n))]).length = 33 := by simp [hpo.1]
  have lk := litK_pt hpo
  have w1 := wS (i := i) (by omega)
  simp [hln, hge, inpF_fz, l0, l1, tk, pt, drop35i, iC]
  have lk' : litK (unrle [(32, .u8), (1, .i64)]) (EW.hc p.tx ++ [EC.fz (FV.lit (Value.int IntKind.i64 p.n))]) = some (ptI p) := lk
  obtain ⟨c, hg⟩ := vI_get (ptI p) E
  obtain ⟨E', he1, he2, he3⟩ := vI_ent (ptI p) E
  obtain ⟨d, hd⟩ : ∃ d, IntKind.i64.wrap (c + 1) = d := ⟨_, rfl⟩
  obtain ⟨E2, hp1, hp2⟩ := vI_put (idxM (ptI p) (vI E)) d E'
  have hEl : (vI E').length = E'.length := by simp [vI]
  have hkeys : E2.map (·.1) = ddp ((t.ins.take (i + 1)).map ptI) := by
   rw [hp2, he2, hi2, take_s hcp, List.map_append, List.map_singleton, ddp_snoc]
  simp [lk', hg, hd, he1, he3, hEl, hp1, w1, -Int.natCast_add]
  exact round (i + 1, E2) [0, 1] ⟨by dsimp only; omega, by dsimp only; rw [← List.map_take]; exact hkeys⟩ (by dsimp only; omega) (by simp [I, Ptr]) (by simp) (by simp) (by simp) (by simp)
 have hil : i = t.ins.length := by omega
 subst hil
 rw [List.take_length] at hi2
 have hEl : E.length = (ddp (t.ins.map ptI)).length := by rw [← hi2]; simp
 have hvl : (vI E).length = E.length := by simp [vI]
 obtain ⟨d1, d2⟩ := ddp_len (t.ins.map ptI)
 rw [List.length_map] at d1 d2
 simp [hvl]
 by_cases c6 : (t.ins.map ptI).Nodup
 rotate_left
 ·have hne : ¬ E.length = t.ins.length := by rw [hEl, d2]; exact c6
  have hne' : ¬ (E.length : Int) = (t.ins.length : Int) := by omega
  rw [hv9, if_pos c6]
  simp [hne, hne']
  exact fin0
 have hne : E.length = t.ins.length := by rw [hEl, d2]; exact c6
 have hne' : (E.length : Int) = (t.ins.length : Int) := by omega
 rw [hv9, if_neg (by simpa using c6)]
 obtain ⟨V, hV⟩ : ∃ V, (if outsE t.outs ≠ 0 then outsE t.outs else (totO 0 t.outs).2) = V := ⟨_, rfl⟩
 rw [hV]
 simp [hne, hne', -errV_0]
 refine eloop (α := Nat) (fun i => i ≤ t.outs.length ∧ outsE t.outs = outsE (t.outs.drop i)) (fun i => t.outs.length - i)
  (fun i => [xA, Ptr 0, xA, xA, xA, xA, xA, xA, xA, xA, xA, xA, xA, xA, xA, xA, xA, xA, xA, xA, xA, xA, xA, xA, xA, xA, xA, xA, xA, xA, xA, xA, xA, xA, xA, xA, xA, xA, xA, xA, xA, xA, xA, xA, xA, xA, xA, xA, xA, xA, xA, xA, xA, xA, xA, xA, xA, xA, xA, xA, xA, xA, xA, xA, xA, .v (.c (.fz (.sl 2 (outv t.outs)))), I .i64 t.outs.length, I .i64 i, xA, xA, xA, xA, xA, xA, xA, xA, xA, xA, xA, xA, xA, xA, .any]) (fun _ => [some (.box 71 (txC t))]) 0 [0]
  ⟨by simp, by simp⟩ (by simp [I, Ptr]) (by simp [txC, iC]) (by simp) (by simp) (by simp) ?_
 clear hi1 hi2 hlt
 rintro i ⟨hi1, hi2⟩
 simp [I, Ptr, txC, iC, -errV_0]
 refine alt (fun hlt => ?_) (fun hlt => ?_)
 ·have hln : i < t.outs.length := by omega
  obtain ⟨p, hcp⟩ : ∃ p, t.outs[i]? = some p := ⟨t.outs[i], by simp [hln]⟩
  have hge : (outv t.outs)[i]'(by simp [hln]) = outF p := gE (outv_get hcp)
  have hpo := h3 p (List.mgE hcp)
  rw [drop_cons hcp] at hi2
  have w1 := wS (i := i) (by omega)
  simp [hln, hge, outF, iF, -errV_0]
  refine call0 (OutChk_ok p hpo) (by simp [outC, iC]) ?_
  rintro y H' ⟨rfl, rfl⟩
  refine ⟨.inl (by simp), le_ok rfl, ?_⟩
  by_cases c7 : ouE p = 0
  ·have hn : outsE t.outs = outsE (t.outs.drop (i + 1)) := by rw [hi2]; exact if_neg (by simpa using c7)
   simp [c7, w1, -errV_0, -Int.natCast_add]
   exact round (i + 1) [0] ⟨by omega, hn⟩ (by omega) (by simp [I, Ptr]) (by simp) (by simp) (by simp) (by simp)
  ·have hn : outsE t.outs = ouE p := by rw [hi2]; exact if_pos c7
   rw [show V = ouE p by rw [← hV, if_pos (by rw [hn]; exact c7), hn]]
   simp [c7, -errV_0]
   exact fin0
 have hil : i = t.outs.length := by omega
 subst hil
 rw [List.drop_length] at hi2
 have hz0 : outsE t.outs = 0 := hi2
 rw [show V = (totO 0 t.outs).2 by rw [← hV, if_neg (by simpa using hz0)]]
 simp [-errV_0]
 refine call0 (TxTotal_ok t ht) (by simp [TXv, txC, iC]) ?_
 rintro y H' ⟨rfl, rfl⟩
 refine ⟨.inl (by simp [iC]), le_ok rfl, ?_⟩
 simp [iC, -errV_0]
 exact fin0
def zTx : Txn := ⟨0, [], []⟩
def donT (t : Txn) : Txn × Nat := if chkT t ≠ 0 then (zTx, chkT t) else (t, 0)
theorem drop33i (a b c : EC) : List.drop 33 (hc hz ++ [a, b, c]) = [b, c] := by
 rw [List.drop_append, List.drop_of_length_le (by simp [hz])]
 rfl
end Go.Proofs.YtejjhgdnmknejaaGreatDoor
