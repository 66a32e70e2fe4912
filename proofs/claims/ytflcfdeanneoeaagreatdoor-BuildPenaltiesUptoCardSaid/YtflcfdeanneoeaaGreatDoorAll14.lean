import Derived.Test.YtflcfdeanneoeaaGreatDoorAll9
import Derived.Test.YtflcfdeanneoeaaGreatDoorAll13
import Derived.Test.YtflcfdeanneoeaaGreatDoorAll10
import Derived.Test.YtflcfdeanneoeaaGreatDoorAll8
set_option maxHeartbeats 64000000
namespace Go.Proofs.YtflcfdeanneoeaaGreatDoor
open Go Go.EW
set_option linter.unusedSimpArgs false
set_option linter.unusedVariables false
@[simp] def yla1 : UL | _ => [xQ 0 1 (.box 28 (.t 0)), xQ 1 2 (.alloc 42 (zU8 ++ [xZ, xZ, xZ, xZ, xZ, xZ]))]
@[simp] def yla2 : UL | _ => [xQ 6 9 (.fad 36 (.t 1)), xQ 7 10 (.ldc (.t 9)), xQ 8 11 (.fad 37 (.t 1)), xQ 9 12 (.ldc (.t 11)), xQ 10 13 (.build (zU8 ++ [xZ, xZ, xZ, xZ, xZ, xZ]) [(0, 33, (.t 4)), (33, 1, (.t 6)), (34, 2, (.t 8)), (36, 1, (.t 10)), (37, 1, (.t 12))]), xN 11 (.sto 38 (.t 2) (.t 13))]
@[simp] def yla3 : UL | _ => xQ 0 3 (.fad 0 (.t 1)) :: xQ 1 4 (.lda 33 (.t 3)) :: xQ 2 5 (.fad 33 (.t 1)) :: xQ 3 6 (.ldc (.t 5)) :: xQ 4 7 (.fad 34 (.t 1)) :: xQ 5 8 (.lda 2 (.t 7)) :: hid yla2
@[simp] def yba4 : UB | _ => .seq (reg0 (hid yla1) 2) (.seq (reg0 (hid yla3) 12) .ret)
def c_giveP : EB × List QOp × Nat := ((hid yba4), [(.lda 38 (.t 2))], 14)
theorem k_giveP : cfun Tryz.prog 14 = some c_giveP := by kernel_rfl
theorem pm_33 {p : Prm} (h : p.tx.length = 32) : (prmC p).take 33 = hc p.tx ++ [iC p.n] := by
  have e : (hc p.tx).length = 32 := by rw [hc_len, h]
  unfold prmC
  rw [List.take_append, e, List.take_of_length_le (by omega)]
  rfl
theorem pm_at {p : Prm} (h : p.tx.length = 32) (i : Nat) : (prmC p)[32 + i]? = [iC p.n, iC p.am, iC p.k0, iC p.k1, iC p.dl, iC p.fe][i]? := by
  have e : (hc p.tx).length = 32 := by rw [hc_len, h]
  unfold prmC
  rw [List.getElem?_append_right (by omega), e]
  congr 1
  omega
theorem list32 (l : List EC) (h : l.length = 32) : ∃ c0 c1 c2 c3 c4 c5 c6 c7 c8 c9 c10 c11 c12 c13 c14 c15 c16 c17 c18 c19 c20 c21 c22 c23 c24 c25 c26 c27 c28 c29 c30 c31, l = [c0, c1, c2, c3, c4, c5, c6, c7, c8, c9, c10, c11, c12, c13, c14, c15, c16, c17, c18, c19, c20, c21, c22, c23, c24, c25, c26, c27, c28, c29, c30, c31] := by
  match l, h with
  | [c0, c1, c2, c3, c4, c5, c6, c7, c8, c9, c10, c11, c12, c13, c14, c15, c16, c17, c18, c19, c20, c21, c22, c23, c24, c25, c26, c27, c28, c29, c30, c31], _ => exact ⟨c0, c1, c2, c3, c4, c5, c6, c7, c8, c9, c10, c11, c12, c13, c14, c15, c16, c17, c18, c19, c20, c21, c22, c23, c24, c25, c26, c27, c28, c29, c30, c31, rfl⟩
set_option maxRecDepth 8000 in
theorem giveP_ok (p : Prm) (hp : p.tx.length = 32) : ECalls Tryz.prog 14 [PVv p] [] fun y H' => H' = [] ∧ y = PVv p := by
  have h1 := prmC_len hp
  have h2 := pm_take hp
  have h3 := pm_d34 hp
  have h4 := pm_33 hp
  have e33 := idx_of (pm_at hp 1) (by omega)
  have e36 := idx_of (pm_at hp 4) (by omega)
  have e37 := idx_of (pm_at hp 5) (by omega)
  have e : (hc p.tx).length = 32 := by rw [hc_len, hp]
  refine ecalls k_giveP ?_
  simp [c_giveP, PVv, h1, h2, h3, h4, e33, e36, e37, e, hp, iC]
  obtain ⟨c0, c1, c2, c3, c4, c5, c6, c7, c8, c9, c10, c11, c12, c13, c14, c15, c16, c17, c18, c19, c20, c21, c22, c23, c24, c25, c26, c27, c28, c29, c30, c31, hX⟩ := list32 (hc p.tx) e
  have hP : prmC p = [c0, c1, c2, c3, c4, c5, c6, c7, c8, c9, c10, c11, c12, c13, c14, c15, c16, c17, c18, c19, c20, c21, c22, c23, c24, c25, c26, c27, c28, c29, c30, c31, iC p.n, iC p.am, iC p.k0, iC p.k1, iC p.dl, iC p.fe] := by unfold prmC; rw [hX]; rfl
  rw [hX]
  exact fin [] (by decide) (v := .v (.agg [c0, c1, c2, c3, c4, c5, c6, c7, c8, c9, c10, c11, c12, c13, c14, c15, c16, c17, c18, c19, c20, c21, c22, c23, c24, c25, c26, c27, c28, c29, c30, c31, iC p.n, iC p.am, iC p.k0, iC p.k1, iC p.dl, iC p.fe])) rfl (y := PVv p) (by rw [← hP]; simp [conR, conTs, conT, PVv]) rfl ⟨rfl, rfl⟩
@[simp] def yla5 : UL | _ => [xQ 0 1 (.box 63 (.t 0)), xQ 1 2 (.mov (xK 0)), xQ 2 3 (.mov (.k .nilIface))]
@[simp] def yla6 : UL | _ => [xQ 0 4 (.mov (xK 0))]
@[simp] def yla7 : UL | _ => [xQ 0 7 (.fad 2 (.t 1)), xQ 1 8 (.ldc (.t 7)), xQ 2 9 (.len (.t 8)), xQ 3 10 (.mov (xK 0))]
@[simp] def yla8 : UL | _ => [xQ 0 11 (.bin .lss (.t 10) (.t 9))]
@[simp] def yla9 : UL | _ => [xQ 0 12 (.isl 2 (.t 8) (.t 10)), xQ 1 13 (.lda 2 (.t 12)), xQ 2 6 (.alloc 118 [xZ, xS]), xN 3 (.fz (.sto 2 (.t 6) (.t 13)))]
@[simp] def ylaa : UL | _ => [xG 6 20 17 false (.mov (.t 4)), xG 7 21 17 false (.bin .sub (xK 1125899906842624) (.t 20)), xG 8 22 17 false (.bin .gtr (.t 19) (.t 21)), xQ 9 23 (.pick (.t 17) (.k (.bool true)) (.t 22))]
@[simp] def ylab : UL | _ => xQ 0 14 (.fad 0 (.t 6)) :: xQ 1 15 (.ldc (.t 14)) :: xQ 2 16 (.bin .lss (.t 15) (xK 0)) :: xM 3 17 16 :: xG 4 18 17 false (.fad 0 (.t 6)) :: xG 5 19 17 false (.ldc (.t 18)) :: hid ylaa
@[simp] def ylac : UL | _ => [xQ 0 24 (.mki 120 (xK 5)), xQ 1 2 (.mov (xK 0)), xM 2 3 24]
@[simp] def ybad : UB | _ => .seq (reg0 (hid ylab) 10) (.cond (.t 23) (.seq (reg0 (hid ylac) 3) .ret) .skip)
@[simp] def ylae : UL | _ => [xM 0 25 4, xQ 1 26 (.fad 0 (.t 6)), xQ 2 27 (.ldc (.t 26)), xQ 3 28 (.bin .add (.t 25) (.t 27)), xM 4 4 28]
@[simp] def ybaf : UB | _ => .seq (reg0 (hid yla9) 4) (.seq (hid ybad) (reg0 (hid ylae) 5))
@[simp] def ylag : UL | _ => [xQ 0 29 (.bin .add (.t 10) (xK 1)), xM 1 10 29]
@[simp] def ybah : UB | _ => .seq (.cond (.t 11) .skip (.exit 0)) (.seq (.block 1 (hid ybaf)) (reg0 (hid ylag) 2))
@[simp] def ybai : UB | _ => .seq (reg0 (hid yla7) 4) (.block 0 (.loop (.seq (reg0 (hid yla8) 1) (hid ybah))))
@[simp] def ylaj : UL | _ => [xM 0 30 4, xM 1 2 30, xQ 2 3 (.mov (.k .nilIface))]
@[simp] def ybak : UB | _ => .seq (reg0 (hid yla6) 1) (.seq (hid ybai) (.seq (reg0 (hid ylaj) 3) .ret))
@[simp] def ybal : UB | _ => .seq (reg0 (hid yla5) 3) (hid ybak)
def c_TxTotal : EB × List QOp × Nat := ((hid ybal), [(.mov (.t 2)), (.mov (.t 3))], 31)
theorem k_TxTotal : cfun Tryz.prog 73 = some c_TxTotal := by kernel_rfl
@[simp] def ylam : UL | _ => [xQ 0 1 (.box 63 (.t 0)), xQ 1 2 (.mov (.k .nilIface))]
@[simp] def ylan : UL | _ => [xQ 0 3 (.mov (.k (.func (.func 132) #[] #[])))]
@[simp] def ylao : UL | _ => [xG 24 36 34 false (.ldc (.t 35)), xG 25 37 34 false (.mov (.t 3)), ⟨26, (some 38), (some (34, false)), (.call 135 [(.t 36), (.t 37)]), []⟩, xQ 27 39 (.pick (.t 34) (.k (.bool true)) (.t 38))]
@[simp] def ylap : UL | _ => xG 18 30 27 false (.len (.t 29)) :: ⟨19, (some 31), (some (27, false)), (.call 134 [(.t 30)]), []⟩ :: xG 20 32 27 false (.un .not (.t 31)) :: xQ 21 33 (.pick (.t 27) (.k (.bool true)) (.t 32)) :: xM 22 34 33 :: xG 23 35 34 false (.fad 1 (.t 1)) :: hid ylao
@[simp] def ylaq : UL | _ => ⟨12, (some 24), (some (20, false)), (.call 134 [(.t 23)]), []⟩ :: xG 13 25 20 false (.un .not (.t 24)) :: xQ 14 26 (.pick (.t 20) (.k (.bool true)) (.t 25)) :: xM 15 27 26 :: xG 16 28 27 false (.fad 2 (.t 1)) :: xG 17 29 27 false (.ldc (.t 28)) :: hid ylap
@[simp] def ylar : UL | _ => xG 6 18 15 false (.bin .gtr (.t 17) (xK 1099511627776)) :: xQ 7 19 (.pick (.t 15) (.k (.bool true)) (.t 18)) :: xM 8 20 19 :: xG 9 21 20 false (.fad 1 (.t 1)) :: xG 10 22 20 false (.ldc (.t 21)) :: xG 11 23 20 false (.len (.t 22)) :: hid ylaq
@[simp] def ylas : UL | _ => xQ 0 12 (.fad 0 (.t 1)) :: xQ 1 13 (.ldc (.t 12)) :: xQ 2 14 (.bin .lss (.t 13) (xK 0)) :: xM 3 15 14 :: xG 4 16 15 false (.fad 0 (.t 1)) :: xG 5 17 15 false (.ldc (.t 16)) :: hid ylar
@[simp] def ylat : UL | _ => [xQ 0 40 (.mki 120 (xK 4)), xM 1 2 40]
@[simp] def ybau : UB | _ => .seq (reg0 (hid ylas) 28) (.cond (.t 39) (.seq (reg0 (hid ylat) 2) .ret) .skip)
@[simp] def ylav : UL | _ => [xO 0 41 (.mp (.new [(32, .u8), (1, .i64)]) []), xM 1 4 41]
@[simp] def ylaw : UL | _ => [xQ 0 42 (.fad 1 (.t 1)), xQ 1 43 (.ldc (.t 42)), xQ 2 44 (.len (.t 43)), xQ 3 45 (.mov (xK 0))]
@[simp] def ylax : UL | _ => [xQ 0 46 (.bin .lss (.t 45) (.t 44))]
@[simp] def ylay : UL | _ => [xQ 0 47 (.isl 35 (.t 43) (.t 45)), xQ 1 48 (.lda 35 (.t 47)), xQ 2 6 (.alloc 135 (zU8 ++ [xZ, xZ, xS])), xN 3 (.fz (.sto 35 (.t 6) (.t 48)))]
@[simp] def ylaz : UL | _ => [xQ 6 55 (.ext 1 (.t 54)), xN 7 (.mp .sto [(.t 49), (.t 55), (.t 53)])]
@[simp] def ylb0 : UL | _ => xM 0 49 4 :: xQ 1 50 (.fad 0 (.t 6)) :: xQ 2 51 (.lda 33 (.t 50)) :: xQ 3 52 (.mget [(32, .u8), (1, .i64)] .i64 (.t 49) (.t 51)) :: xQ 4 53 (.bin .add (.t 52) (xK 1)) :: ⟨5, (some 54), none, (.mp (.ent [(32, .u8), (1, .i64)] .i64) [(.t 49), (.t 51)]), [4]⟩ :: hid ylaz
@[simp] def ybb1 : UB | _ => .block 1 (.seq (reg0 (hid ylay) 4) (reg1 (hid ylb0) 8))
@[simp] def ylb2 : UL | _ => [xQ 0 56 (.bin .add (.t 45) (xK 1)), xM 1 45 56]
@[simp] def ybb3 : UB | _ => .seq (.cond (.t 46) .skip (.exit 0)) (.seq (hid ybb1) (reg0 (hid ylb2) 2))
@[simp] def ybb4 : UB | _ => .seq (reg0 (hid ylaw) 4) (.block 0 (.loop (.seq (reg0 (hid ylax) 1) (hid ybb3))))
@[simp] def ylb5 : UL | _ => [xM 0 57 4, xO 1 58 (.mp .len [(.t 57)]), xQ 2 59 (.fad 1 (.t 1)), xQ 3 60 (.ldc (.t 59)), xQ 4 61 (.len (.t 60)), xQ 5 62 (.bin .neq (.t 58) (.t 61))]
@[simp] def ylb6 : UL | _ => [xQ 0 63 (.mki 120 (xK 9)), xM 1 2 63]
@[simp] def ybb7 : UB | _ => .seq (reg0 (hid ylb5) 6) (.cond (.t 62) (.seq (reg0 (hid ylb6) 2) .ret) .skip)
@[simp] def ylb8 : UL | _ => [xQ 0 64 (.fad 2 (.t 1)), xQ 1 65 (.ldc (.t 64)), xQ 2 66 (.len (.t 65)), xQ 3 67 (.mov (xK 0))]
@[simp] def ylb9 : UL | _ => [xQ 0 68 (.bin .lss (.t 67) (.t 66))]
@[simp] def ylba : UL | _ => [xQ 0 69 (.isl 2 (.t 65) (.t 67)), xQ 1 70 (.lda 2 (.t 69)), xQ 2 8 (.alloc 118 [xZ, xS]), xN 3 (.fz (.sto 2 (.t 8) (.t 70)))]
@[simp] def ylbb : UL | _ => [xQ 0 71 (.lda 2 (.t 8)), xO 1 72 (.call 136 [(.t 71)]), xM 2 9 72]
@[simp] def ylbc : UL | _ => [xM 0 73 9, xQ 1 74 (.eqi true (.t 73))]
@[simp] def ylbd : UL | _ => [xM 0 75 9, xM 1 2 75]
@[simp] def ybbe : UB | _ => .seq (reg0 (hid ylbc) 2) (.cond (.t 74) (.seq (reg0 (hid ylbd) 2) .ret) .skip)
@[simp] def ybbf : UB | _ => .seq (reg0 (hid ylba) 4) (.seq (reg0 (hid ylbb) 3) (hid ybbe))
@[simp] def ylbg : UL | _ => [xQ 0 76 (.bin .add (.t 67) (xK 1)), xM 1 67 76]
@[simp] def ybbh : UB | _ => .seq (.cond (.t 68) .skip (.exit 2)) (.seq (.block 3 (hid ybbf)) (reg0 (hid ylbg) 2))
@[simp] def ybbi : UB | _ => .seq (reg0 (hid ylb8) 4) (.block 2 (.loop (.seq (reg0 (hid ylb9) 1) (hid ybbh))))
@[simp] def ylbj : UL | _ => [xM 6 11 81]
@[simp] def ylbk : UL | _ => xQ 0 78 (.lda 3 (.t 1)) :: xO 1 79 (.call 73 [(.t 78)]) :: xM 2 77 79 :: xQ 3 80 (.ext 0 (.t 77)) :: xQ 4 81 (.ext 1 (.t 77)) :: xM 5 10 80 :: hid ylbj
@[simp] def ylbl : UL | _ => [xM 0 82 11, xM 1 2 82]
@[simp] def ybbm : UB | _ => .seq (reg0 (hid ylbk) 7) (.seq (reg0 (hid ylbl) 2) .ret)
@[simp] def ybbn : UB | _ => .seq (hid ybb4) (.seq (hid ybb7) (.seq (hid ybbi) (hid ybbm)))
@[simp] def ybbo : UB | _ => .seq (hid ybau) (.seq (reg0 (hid ylav) 2) (hid ybbn))
@[simp] def ybbp : UB | _ => .seq (reg0 (hid ylam) 2) (.seq (reg0 (hid ylan) 1) (hid ybbo))
def c_TxCheck : EB × List QOp × Nat := ((hid ybbp), [(.mov (.t 2))], 83)
theorem k_TxCheck : cfun Tryz.prog 79 = some c_TxCheck := by kernel_rfl
def totO : Int → List Outp → Int × Nat
  | n, [] => (n, 0)
  | n, o :: r => if o.am < 0 ∨ 1125899906842624 - n < o.am then (0, 5) else totO (n + o.am) r
def ptI (x : Inp) : List Int := x.tx.map (fun b => (b.toNat : Int)) ++ [x.n]
def ddp (l : List (List Int)) : List (List Int) := l.foldl (fun K p => if p ∈ K then K else K ++ [p]) []
def outsE : List Outp → Nat
  | [] => 0
  | o :: r => if ouE o ≠ 0 then ouE o else outsE r
def chkT (t : Txn) : Nat :=
  if t.lk < 0 ∨ 1099511627776 < t.lk ∨ ¬ (1 ≤ t.ins.length ∧ t.ins.length ≤ 64) ∨ ¬ (1 ≤ t.outs.length ∧ t.outs.length ≤ 64) ∨ t.ins.all inM = false then 4
  else if ¬ (t.ins.map ptI).Nodup then 9
  else if outsE t.outs ≠ 0 then outsE t.outs
  else (totO 0 t.outs).2
theorem revRec {α : Type} {C : List α → Prop} (h0 : C []) (h1 : ∀ l a, C l → C (l ++ [a])) (l : List α) : C l := by
  rw [← List.reverse_reverse l]
  generalize l.reverse = r
  induction r with
  | nil => exact h0
  | cons a r ih => rw [List.reverse_cons]; exact h1 _ _ ih
theorem ddp_snoc (l : List (List Int)) (p : List Int) : ddp (l ++ [p]) = if p ∈ ddp l then ddp l else ddp l ++ [p] := by
  unfold ddp
  rw [List.foldl_append]
  rfl
theorem mem_ddp (l : List (List Int)) : ∀ p, p ∈ ddp l ↔ p ∈ l := by
  refine revRec (C := fun l => ∀ p, p ∈ ddp l ↔ p ∈ l) (fun p => by simp [ddp]) ?_ l
  · intro l q ih p
    rw [ddp_snoc]
    split
    · rename_i h
      rw [ih p, List.mem_append, List.mem_singleton]
      constructor
      · exact .inl
      · rintro (h' | rfl)
        · exact h'
        · exact (ih p).1 h
    · rw [List.mem_append, List.mem_append, ih p]
theorem ddp_len (l : List (List Int)) : (ddp l).length ≤ l.length ∧ ((ddp l).length = l.length ↔ l.Nodup) := by
  refine revRec (C := fun l => (ddp l).length ≤ l.length ∧ ((ddp l).length = l.length ↔ l.Nodup)) (by simp [ddp]) ?_ l
  · intro l q ih
    rw [ddp_snoc]
    have hn : (l ++ [q]).Nodup ↔ l.Nodup ∧ q ∉ l := by
      rw [List.nodup_append]
      constructor
      · rintro ⟨h1, _, h3⟩
        exact ⟨h1, fun h => h3 q h q (by simp) rfl⟩
      · rintro ⟨h1, h2⟩
        refine ⟨h1, by simp, ?_⟩
        intro a ha b hb
        simp at hb; subst hb
        rintro rfl
        exact h2 ha
    rw [hn]
    split
    · rename_i h
      refine ⟨by simp; omega, ?_⟩
      constructor
      · intro e; simp at e; omega
      · rintro ⟨_, h2⟩; exact absurd ((mem_ddp l q).1 h) h2
    · rename_i h
      simp only [List.length_append, List.length_singleton]
      refine ⟨by omega, ?_⟩
      rw [← ih.2]
      constructor
      · intro e; exact ⟨by omega, fun h' => h ((mem_ddp l q).2 h')⟩
      · rintro ⟨e, _⟩; omega
theorem litK_app : ∀ {ks ks' : List IntKind} {cs cs' : List EC} {a b : List Int}, litK ks cs = some a → litK ks' cs' = some b → litK (ks ++ ks') (cs ++ cs') = some (a ++ b)
  | [], ks', [], cs', a, b, h1, h2 => by simp [litK] at h1; subst h1; exact h2
  | [], ks', c :: cs, cs', a, b, h1, h2 => by simp [litK] at h1
  | k :: ks, ks', [], cs', a, b, h1, h2 => by simp [litK] at h1
  | k :: ks, ks', c :: cs, cs', a, b, h1, h2 => by
    unfold litK at h1
    split at h1
    · simp at *
    · rename_i k1 ks1 k2 n r e1 e2
      simp only [List.cons.injEq] at e1 e2
      obtain ⟨rfl, rfl⟩ := e1
      obtain ⟨rfl, rfl⟩ := e2
      split at h1
      · rename_i hh
        obtain ⟨b', hb', rfl⟩ := Option.map_eq_some_iff.1 h1
        show litK (k :: (ks ++ ks')) (_ :: (cs ++ cs')) = _
        unfold litK
        rw [if_pos hh, litK_app hb' h2]
        rfl
      · simp at h1
    · simp at h1
theorem wf_u8 (b : UInt8) : (Lit.int .u8 (b.toNat : Int)).wf = true := by
  have := b.toNat_lt
  simp [Lit.wf, IntKind.min, IntKind.max, IntKind.signed, IntKind.bits]
  omega
theorem wf_i64 {n : Int} (h : i64 n) : (Lit.int .i64 n).wf = true := by
  unfold i64 at h
  simp [Lit.wf, IntKind.min, IntKind.max, IntKind.signed, IntKind.bits]
  omega
theorem litK_u8 : ∀ (l : List UInt8), litK (List.replicate l.length .u8) (hc l) = some (l.map fun b => (b.toNat : Int))
  | [] => rfl
  | b :: r => by
    show litK (.u8 :: List.replicate r.length .u8) (.fz (.lit (.int .u8 b.toNat)) :: hc r) = _
    unfold litK
    rw [if_pos ⟨rfl, wf_u8 b⟩, litK_u8 r]
    rfl
theorem litK_i64 {n : Int} (h : i64 n) : litK [.i64] [iC n] = some [n] := by
  simp [litK, iC, wf_i64 h]
theorem litK_pt {x : Inp} (h : x.ok) : litK (unrle [(32, .u8), (1, .i64)]) (hc x.tx ++ [iC x.n]) = some (ptI x) := by
  have e : unrle [(32, .u8), (1, .i64)] = List.replicate x.tx.length .u8 ++ [.i64] := by rw [h.1]; rfl
  rw [e]
  exact litK_app (litK_u8 x.tx) (litK_i64 h.2.1)
def vI (E : List (List Int × Int)) : List (List Int × Value) := E.map fun p => (p.1, Value.int .i64 p.2)
theorem vI_get (k : List Int) : ∀ E, ∃ c, getM (.int .i64 0) k (vI E) = Value.int .i64 c
  | [] => ⟨0, rfl⟩
  | p :: r => by
    obtain ⟨c, hc⟩ := vI_get k r
    by_cases h : p.1 = k
    · exact ⟨p.2, by simp [vI, getM, h]⟩
    · refine ⟨c, ?_⟩
      show getM (.int .i64 0) k ((p.1, Value.int .i64 p.2) :: vI r) = _
      simp only [getM, if_neg h]
      exact hc
theorem vI_ent (k : List Int) : ∀ E, ∃ E', entM (.int .i64 0) k (vI E) = vI E' ∧ E'.map (·.1) = (if k ∈ E.map (·.1) then E.map (·.1) else E.map (·.1) ++ [k]) ∧ idxM k (vI E) < E'.length
  | [] => ⟨[(k, 0)], rfl, by simp, by simp [vI, idxM]⟩
  | p :: r => by
    by_cases h : p.1 = k
    · exact ⟨p :: r, by simp [vI, entM, h], by simp [h], by simp [vI, idxM, h]⟩
    · obtain ⟨E', h1, h2, h3⟩ := vI_ent k r
      refine ⟨p :: E', ?_, ?_, ?_⟩
      · show entM (.int .i64 0) k ((p.1, Value.int .i64 p.2) :: vI r) = _
        simp only [entM, if_neg h, h1]
        rfl
      · simp only [List.map_cons, List.mem_cons, h2, fun e : k = p.1 => h e.symm]
        by_cases hm : k ∈ r.map (·.1)
        · rw [if_pos hm, if_pos (.inr hm)]
        · rw [if_neg hm, if_neg (by rintro (e | e); exact h e.symm; exact hm e)]
          rfl
      · show idxM k ((p.1, Value.int .i64 p.2) :: vI r) < _
        simp only [idxM, if_neg h, List.length_cons]
        omega
theorem vI_put (s : Nat) (c : Int) (E : List (List Int × Int)) : ∃ E', putM s (.int .i64 c) (vI E) = vI E' ∧ E'.map (·.1) = E.map (·.1) := by
  refine ⟨E.modify s fun p => (p.1, c), ?_, ?_⟩
  · unfold putM vI
    apply List.ext_getElem?
    intro i
    simp only [List.getElem?_modify, List.getElem?_map]
    by_cases h : s = i
    · subst h; cases E[s]? <;> simp
    · cases E[i]? <;> simp [h]
  · apply List.ext_getElem?
    intro i
    simp only [List.getElem?_modify, List.getElem?_map]
    by_cases h : s = i
    · subst h; cases E[s]? <;> simp
    · cases E[i]? <;> simp [h]
theorem TxTotal_ok (t : Txn) (ht : t.ok) : ECalls Tryz.prog 73 [TXv t] [] fun y H' => H' = [] ∧ y = .tup [.c (iC (totO 0 t.outs).1), .c (.fz (.lit (errV (totO 0 t.outs).2)))] := by
  obtain ⟨h1, h2, h3, h4, h5⟩ := ht
  obtain ⟨F, hF⟩ : ∃ F, totO 0 t.outs = F := ⟨_, rfl⟩
  rw [hF]
  refine ecalls k_TxTotal ?_
  simp [c_TxTotal, TXv, txC, I, iC]
  refine eloop (α := Nat × Int) (fun a => a.1 ≤ t.outs.length ∧ totO a.2 (t.outs.drop a.1) = F ∧ 0 ≤ a.2 ∧ a.2 ≤ 1125899906842624) (fun a => t.outs.length - a.1)
    (fun a => [xA, xA, xA, xA, I .i64 a.2, xA, xA, xA, .v (.c (.fz (.sl 2 (outv t.outs)))), I .i64 t.outs.length, I .i64 a.1, xA, xA, xA, xA, xA, xA, xA, xA, xA, xA, xA, xA, xA, xA, xA, xA, xA, xA, xA, .any]) (fun _ => []) (0, 0) []
    ⟨by simp, by simpa using hF, by simp, by simp⟩ (by simp [I]) (by simp) (by simp) (by simp) (by simp) ?_
  rintro ⟨i, n⟩ ⟨hi1, hi2, hi3, hi4⟩
  dsimp only at hi1 hi2 hi3 hi4
  simp [I]
  refine alt (fun hlt => ?_) (fun hlt => ?_)
  · have hln : i < t.outs.length := by omega
    obtain ⟨p, hc⟩ : ∃ p, t.outs[i]? = some p := ⟨t.outs[i], by simp [hln]⟩
    have hge : (outv t.outs)[i]'(by simp [hln]) = outF p := gE (outv_get hc)
    have hpo := h3 p (List.mem_of_getElem? hc)
    have hpa := hpo.1
    unfold i64 at hpa
    rw [drop_cons hc] at hi2
    have w1 := wS (i := i) (by omega)
    have w2 : IntKind.i64.wrap (1125899906842624 - n) = 1125899906842624 - n := wrap_i64 (by omega) (by omega)
    simp [hln, hge, outF, iF]
    by_cases c1 : p.am < 0
    · have c1' : ¬ 0 ≤ p.am := by omega
      have hv : F = (0, 5) := by rw [← hi2]; exact if_pos (.inl c1)
      rw [hv]
      simp [c1, c1', w2]
      exact fin0
    have c1' : 0 ≤ p.am := by omega
    by_cases c2 : 1125899906842624 - n < p.am
    · have c2' : ¬ p.am ≤ 1125899906842624 - n := by omega
      have hv : F = (0, 5) := by rw [← hi2]; exact if_pos (.inr c2)
      rw [hv]
      simp [c1, c1', w2, c2, c2']
      exact fin0
    have c2' : p.am ≤ 1125899906842624 - n := by omega
    have w3 : IntKind.i64.wrap (n + p.am) = n + p.am := wrap_i64 (by omega) (by omega)
    have hn : totO (n + p.am) (t.outs.drop (i + 1)) = F := by rw [← hi2]; exact (if_neg (by omega)).symm
    simp [c1, c1', w2, c2, c2', w3, w1, -Int.natCast_add]
    exact round (i + 1, n + p.am) [] ⟨by dsimp only; omega, hn, by dsimp only; omega, by dsimp only; omega⟩ (by dsimp only; omega) (by simp [I]) (by simp) (by simp) (by simp) (by simp)
  · have hd : t.outs.drop i = [] := by rw [List.drop_eq_nil_iff]; omega
    rw [hd] at hi2
    rw [← hi2]
    simp
    exact fin0
def seenO (E : List (List Int × Int)) : EO := .mp [(32, .u8), (1, .i64)] (vI E)
theorem drop35i (a b c : EC) : List.drop 35 (hc hz ++ [a, b, c]) = [] := by rw [List.drop_eq_nil_iff]; simp [hz]
theorem TxCheck_ok (t : Txn) (ht : t.ok) : ECalls Tryz.prog 79 [TXv t] [] fun y H' => H' = [] ∧ y = .lit (errV (chkT t)) := by
  obtain ⟨h1, h2, h3, h4, h5⟩ := id ht
  have hv4 : (t.lk < 0 ∨ 1099511627776 < t.lk ∨ ¬ (1 ≤ t.ins.length ∧ t.ins.length ≤ 64) ∨ ¬ (1 ≤ t.outs.length ∧ t.outs.length ≤ 64) ∨ t.ins.all inM = false) → chkT t = 4 := fun h => if_pos h
  refine ecalls k_TxCheck ?_
  simp [c_TxCheck, TXv, txC, I, iC]
  by_cases c1 : t.lk < 0
  · have c1' : ¬ 0 ≤ t.lk := by omega
    rw [hv4 (.inl c1)]
    simp [c1, c1']
    exact fin0
  have c1' : 0 ≤ t.lk := by omega
  by_cases c2 : 1099511627776 < t.lk
  · have c2' : ¬ t.lk ≤ 1099511627776 := by omega
    rw [hv4 (.inr (.inl c2))]
    simp [c1, c1', c2, c2']
    exact fin0
  have c2' : t.lk ≤ 1099511627776 := by omega
  simp [c1, c1', c2, c2', I]
  refine call0 (TxSome_ok (t.ins.length : Int)) (by simp [I]) ?_
  rintro y H' ⟨rfl, rfl⟩
  refine ⟨.inl (by simp), le_ok rfl, ?_⟩
  cases c3 : decide (1 ≤ (t.ins.length : Int) ∧ (t.ins.length : Int) ≤ 64)
  · have c3 := of_decide_eq_false c3
    rw [hv4 (.inr (.inr (.inl (by omega))))]
    simp [I]
    exact fin0
  have c3 := of_decide_eq_true c3
  simp [I]
  refine call0 (TxSome_ok (t.outs.length : Int)) (by simp [I]) ?_
  rintro y H' ⟨rfl, rfl⟩
  refine ⟨.inl (by simp), le_ok rfl, ?_⟩
  cases c4 : decide (1 ≤ (t.outs.length : Int) ∧ (t.outs.length : Int) ≤ 64)
  · have c4 := of_decide_eq_false c4
    rw [hv4 (.inr (.inr (.inr (.inl (by omega)))))]
    simp [I]
    exact fin0
  have c4 := of_decide_eq_true c4
  simp [I]
  refine call0 (ConIn_ok t.ins h2 h4) (by simp) ?_
  rintro y H' ⟨rfl, rfl⟩
  refine ⟨.inl (by simp), le_ok rfl, ?_⟩
  cases c5 : t.ins.all inM
  · rw [hv4 (.inr (.inr (.inr (.inr c5))))]
    simp [I]
    exact fin0
  have hv9 : chkT t = if ¬ (t.ins.map ptI).Nodup then 9 else if outsE t.outs ≠ 0 then outsE t.outs else (totO 0 t.outs).2 := by
    unfold chkT
    rw [if_neg]
    rintro (h | h | h | h | h)
    · exact c1 h
    · exact c2 h
    · omega
    · omega
    · rw [c5] at h; simp at h
  simp [I]
  refine eloop (α := Nat × List (List Int × Int)) (fun a => a.1 ≤ t.ins.length ∧ a.2.map (·.1) = ddp ((t.ins.take a.1).map ptI)) (fun a => t.ins.length - a.1)
    (fun a => [xA, Ptr 0, xA, xA, .v (.c (.mp 1)), xA, xA, xA, xA, xA, xA, xA, xA, xA, xA, xA, xA, xA, xA, xA, xA, xA, xA, xA, xA, xA, xA, xA, xA, xA, xA, xA, xA, xA, xA, xA, xA, xA, xA, xA, xA, xA, xA, .v (.c (.fz (.sl 35 (inpv t.ins)))), I .i64 t.ins.length, I .i64 a.1, xA, xA, xA, xA, xA, xA, xA, xA, xA, xA, xA, xA, xA, xA, xA, xA, xA, xA, xA, xA, xA, xA, xA, xA, xA, xA, xA, xA, xA, xA, xA, xA, xA, xA, xA, xA, .any]) (fun a => [some (.box 63 (txC t)), some (seenO a.2)]) (0, []) [0, 496]
    ⟨by simp, by simp [ddp]⟩ (by simp [I, Ptr]) (by simp [txC, iC, seenO, vI]) (by simp) (by simp) (by simp) ?_
  rintro ⟨i, E⟩ ⟨hi1, hi2⟩
  dsimp only at hi1 hi2
  simp [I, Ptr, txC, iC, seenO]
  refine alt (fun hlt => ?_) (fun hlt => ?_)
  · have hln : i < t.ins.length := by omega
    obtain ⟨p, hcp⟩ : ∃ p, t.ins[i]? = some p := ⟨t.ins[i], by simp [hln]⟩
    have hge : (inpv t.ins)[i]'(by simp [hln]) = inpF p := gE (inpv_get hcp)
    have hpo := h2 p (List.mem_of_getElem? hcp)
    have l0 := ic_len hpo.1
    have l1 := if_len hpo.1
    have tk := ic_take hpo.1
    have pt := ic_pt hpo.1
    have hkl : (hc p.tx ++ [EC.fz (FV.lit (Value.int IntKind.i64 p.n))]).length = 33 := by simp [hpo.1]
    have lk := litK_pt hpo
    have w1 := wS (i := i) (by omega)
    simp [hln, hge, inpF_fz, l0, l1, tk, pt, drop35i, iC]
    have lk' : litK (unrle [(32, .u8), (1, .i64)]) (EW.hc p.tx ++ [EC.fz (FV.lit (Value.int IntKind.i64 p.n))]) = some (ptI p) := lk
    obtain ⟨c, hg⟩ := vI_get (ptI p) E
    obtain ⟨E', he1, he2, he3⟩ := vI_ent (ptI p) E
    obtain ⟨d, hd⟩ : ∃ d, IntKind.i64.wrap (c + 1) = d := ⟨_, rfl⟩
    obtain ⟨E2, hp1, hp2⟩ := vI_put (idxM (ptI p) (vI E)) d E'
    have hEl : (vI E').length = E'.length := by simp [vI]
    have hkeys : E2.map (·.1) = ddp ((t.ins.take (i + 1)).map ptI) := by
      rw [hp2, he2, hi2, take_s hcp, List.map_append, List.map_singleton, ddp_snoc]
    simp [lk', hg, hd, he1, he3, hEl, hp1, w1, -Int.natCast_add]
    exact round (i + 1, E2) [0, 1] ⟨by dsimp only; omega, by dsimp only; rw [← List.map_take]; exact hkeys⟩ (by dsimp only; omega) (by simp [I, Ptr]) (by simp) (by simp) (by simp) (by simp)
  have hil : i = t.ins.length := by omega
  subst hil
  rw [List.take_length] at hi2
  have hEl : E.length = (ddp (t.ins.map ptI)).length := by rw [← hi2]; simp
  have hvl : (vI E).length = E.length := by simp [vI]
  obtain ⟨d1, d2⟩ := ddp_len (t.ins.map ptI)
  rw [List.length_map] at d1 d2
  simp [hvl]
  by_cases c6 : (t.ins.map ptI).Nodup
  rotate_left
  · have hne : ¬ E.length = t.ins.length := by rw [hEl, d2]; exact c6
    have hne' : ¬ (E.length : Int) = (t.ins.length : Int) := by omega
    rw [hv9, if_pos c6]
    simp [hne, hne']
    exact fin0
  have hne : E.length = t.ins.length := by rw [hEl, d2]; exact c6
  have hne' : (E.length : Int) = (t.ins.length : Int) := by omega
  rw [hv9, if_neg (by simpa using c6)]
  obtain ⟨V, hV⟩ : ∃ V, (if outsE t.outs ≠ 0 then outsE t.outs else (totO 0 t.outs).2) = V := ⟨_, rfl⟩
  rw [hV]
  simp [hne, hne', -errV_0]
  refine eloop (α := Nat) (fun i => i ≤ t.outs.length ∧ outsE t.outs = outsE (t.outs.drop i)) (fun i => t.outs.length - i)
    (fun i => [xA, Ptr 0, xA, xA, xA, xA, xA, xA, xA, xA, xA, xA, xA, xA, xA, xA, xA, xA, xA, xA, xA, xA, xA, xA, xA, xA, xA, xA, xA, xA, xA, xA, xA, xA, xA, xA, xA, xA, xA, xA, xA, xA, xA, xA, xA, xA, xA, xA, xA, xA, xA, xA, xA, xA, xA, xA, xA, xA, xA, xA, xA, xA, xA, xA, xA, .v (.c (.fz (.sl 2 (outv t.outs)))), I .i64 t.outs.length, I .i64 i, xA, xA, xA, xA, xA, xA, xA, xA, xA, xA, xA, xA, xA, xA, .any]) (fun _ => [some (.box 63 (txC t))]) 0 [0]
    ⟨by simp, by simp⟩ (by simp [I, Ptr]) (by simp [txC, iC]) (by simp) (by simp) (by simp) ?_
  clear hi1 hi2 hlt
  rintro i ⟨hi1, hi2⟩
  simp [I, Ptr, txC, iC, -errV_0]
  refine alt (fun hlt => ?_) (fun hlt => ?_)
  · have hln : i < t.outs.length := by omega
    obtain ⟨p, hcp⟩ : ∃ p, t.outs[i]? = some p := ⟨t.outs[i], by simp [hln]⟩
    have hge : (outv t.outs)[i]'(by simp [hln]) = outF p := gE (outv_get hcp)
    have hpo := h3 p (List.mem_of_getElem? hcp)
    rw [drop_cons hcp] at hi2
    have w1 := wS (i := i) (by omega)
    simp [hln, hge, outF, iF, -errV_0]
    refine call0 (OutChk_ok p hpo) (by simp [outC, iC]) ?_
    rintro y H' ⟨rfl, rfl⟩
    refine ⟨.inl (by simp), le_ok rfl, ?_⟩
    by_cases c7 : ouE p = 0
    · have hn : outsE t.outs = outsE (t.outs.drop (i + 1)) := by rw [hi2]; exact if_neg (by simpa using c7)
      simp [c7, w1, -errV_0, -Int.natCast_add]
      exact round (i + 1) [0] ⟨by omega, hn⟩ (by omega) (by simp [I, Ptr]) (by simp) (by simp) (by simp) (by simp)
    · have hn : outsE t.outs = ouE p := by rw [hi2]; exact if_pos c7
      rw [show V = ouE p by rw [← hV, if_pos (by rw [hn]; exact c7), hn]]
      simp [c7, -errV_0]
      exact fin0
  have hil : i = t.outs.length := by omega
  subst hil
  rw [List.drop_length] at hi2
  have hz0 : outsE t.outs = 0 := hi2
  rw [show V = (totO 0 t.outs).2 by rw [← hV, if_neg (by simpa using hz0)]]
  simp [-errV_0]
  refine call0 (TxTotal_ok t ht) (by simp [TXv, txC, iC]) ?_
  rintro y H' ⟨rfl, rfl⟩
  refine ⟨.inl (by simp [iC]), le_ok rfl, ?_⟩
  simp [iC, -errV_0]
  exact fin0
def zTx : Txn := ⟨0, [], []⟩
def donT (t : Txn) : Txn × Nat := if chkT t ≠ 0 then (zTx, chkT t) else (t, 0)
theorem drop33i (a b c : EC) : List.drop 33 (hc hz ++ [a, b, c]) = [b, c] := by
  rw [List.drop_append, List.drop_of_length_le (by simp [hz])]
  rfl
@[simp] def ylbq : UL | _ => [xQ 0 6 (.mov (.k (.bool false)))]
@[simp] def ylbr : UL | _ => [xG 6 13 10 true (.bin .leq (.t 11) (.t 12)), xQ 7 14 (.pick (.t 10) (.t 13) (.k (.bool false))), xM 8 6 14]
@[simp] def ylbs : UL | _ => xM 0 7 0 :: xM 1 8 1 :: xQ 2 9 (.bin .geq (.t 7) (.t 8)) :: xM 3 10 9 :: xG 4 11 10 true (.mov (.t 0)) :: xG 5 12 10 true (.mov (.t 2)) :: hid ylbr
@[simp] def ybbt : UB | _ => .seq (reg0 (hid ylbq) 1) (.seq (reg0 (hid ylbs) 9) .ret)
def c_within : EB × List QOp × Nat := ((hid ybbt), [(.mov (.t 6))], 15)
theorem k_within : cfun Tryz.prog 94 = some c_within := by kernel_rfl
@[simp] def ylbu : UL | _ => [xQ 0 1 (.box 127 (.t 0)), xQ 1 2 (.mov (.k (.bool false)))]
@[simp] def ylbv : UL | _ => [xM 24 2 26]
@[simp] def ylbw : UL | _ => xM 18 21 20 :: xG 19 22 21 true (.fad 4 (.t 1)) :: xG 20 23 21 true (.lda 32 (.t 22)) :: xG 21 24 21 true (.build zU8 []) :: xG 22 25 21 true (.eqa true 32 .u8 (.t 23) (.t 24)) :: xQ 23 26 (.pick (.t 21) (.t 25) (.k (.bool false))) :: hid ylbv
@[simp] def ylbx : UL | _ => xQ 12 15 (.pick (.t 11) (.t 14) (.k (.bool false))) :: xM 13 16 15 :: xG 14 17 16 true (.fad 3 (.t 1)) :: xG 15 18 16 true (.ldc (.t 17)) :: ⟨16, (some 19), (some (16, true)), (.call 94 [(.t 18), (xK 0), (xK 1099511627776)]), []⟩ :: xQ 17 20 (.pick (.t 16) (.t 19) (.k (.bool false))) :: hid ylbw
@[simp] def ylby : UL | _ => ⟨6, (some 9), (some (6, true)), (.call 94 [(.t 8), (xK 0), (xK 1)]), []⟩ :: xQ 7 10 (.pick (.t 6) (.t 9) (.k (.bool false))) :: xM 8 11 10 :: xG 9 12 11 true (.fad 2 (.t 1)) :: xG 10 13 11 true (.ldc (.t 12)) :: ⟨11, (some 14), (some (11, true)), (.call 94 [(.t 13), (xK 10), (xK 1125899906842624)]), []⟩ :: hid ylbx
@[simp] def ylbz : UL | _ => xQ 0 3 (.fad 0 (.t 1)) :: xQ 1 4 (.ldc (.t 3)) :: xO 2 5 (.call 94 [(.t 4), (xK 0), (xK 4294967296)]) :: xM 3 6 5 :: xG 4 7 6 true (.fad 1 (.t 1)) :: xG 5 8 6 true (.ldc (.t 7)) :: hid ylby
@[simp] def ybc0 : UB | _ => .seq (reg0 (hid ylbu) 2) (.seq (reg0 (hid ylbz) 25) .ret)
def c_RpayMay : EB × List QOp × Nat := ((hid ybc0), [(.mov (.t 2))], 27)
theorem k_RpayMay : cfun Tryz.prog 95 = some c_RpayMay := by kernel_rfl
@[simp] def ylc1 : UL | _ => [xQ 0 1 (.box 113 (.t 0)), xQ 1 2 (.mov (.k (.bool false)))]
@[simp] def ylc2 : UL | _ => [xQ 0 3 (.mov (xK 0))]
@[simp] def ylc3 : UL | _ => [xM 0 4 3, xQ 1 5 (.fad 2 (.t 1)), xQ 2 6 (.ldc (.t 5)), xQ 3 7 (.len (.t 6)), xQ 4 8 (.bin .lss (.t 4) (.t 7))]
@[simp] def ylc4 : UL | _ => [xQ 24 35 (.pick (.t 18) (.k (.bool true)) (.t 34))]
@[simp] def ylc5 : UL | _ => xG 18 29 21 true (.ldc (.t 28)) :: xG 19 30 21 true (.mov (.t 3)) :: xG 20 31 21 true (.isl 1 (.t 29) (.t 30)) :: xG 21 32 21 true (.ldc (.t 31)) :: xG 22 33 21 true (.bin .geq (.t 27) (.t 32)) :: xG 23 34 18 false (.pick (.t 21) (.t 33) (.k (.bool false))) :: hid ylc4
@[simp] def ylc6 : UL | _ => xG 12 23 21 true (.ldc (.t 22)) :: xG 13 24 21 true (.mov (.t 3)) :: xG 14 25 21 true (.bin .sub (.t 24) (xK 1)) :: xG 15 26 21 true (.isl 1 (.t 23) (.t 25)) :: xG 16 27 21 true (.ldc (.t 26)) :: xG 17 28 21 true (.fad 2 (.t 1)) :: hid ylc5
@[simp] def ylc7 : UL | _ => xQ 6 17 (.un .not (.t 16)) :: xM 7 18 17 :: xG 8 19 18 false (.mov (.t 3)) :: xG 9 20 18 false (.bin .gtr (.t 19) (xK 0)) :: xG 10 21 18 false (.mov (.t 20)) :: xG 11 22 21 true (.fad 2 (.t 1)) :: hid ylc6
@[simp] def ylc8 : UL | _ => xQ 0 11 (.fad 2 (.t 1)) :: xQ 1 12 (.ldc (.t 11)) :: xM 2 13 3 :: xQ 3 14 (.isl 1 (.t 12) (.t 13)) :: xQ 4 15 (.ldc (.t 14)) :: xO 5 16 (.call 94 [(.t 15), (xK 0), (xK 15)]) :: hid ylc7
@[simp] def ylc9 : UL | _ => [xQ 0 2 (.mov (.k (.bool false)))]
@[simp] def ybca : UB | _ => .seq (reg0 (hid ylc8) 25) (.cond (.t 35) (.seq (reg0 (hid ylc9) 1) .ret) .skip)
@[simp] def ylcb : UL | _ => [xM 0 9 3, xQ 1 10 (.bin .add (.t 9) (xK 1)), xM 2 3 10]
@[simp] def ybcc : UB | _ => .seq (.seq (reg0 (hid ylc3) 5) (.cond (.t 8) .skip (.exit 0))) (.seq (.block 1 (hid ybca)) (reg0 (hid ylcb) 3))
@[simp] def ybcd : UB | _ => .seq (reg0 (hid ylc2) 1) (.block 0 (.loop (hid ybcc)))
@[simp] def ylce : UL | _ => [xG 12 48 44 true (.bin .gtr (.t 47) (xK 0)), xQ 13 49 (.pick (.t 44) (.t 48) (.k (.bool false))), xM 14 2 49]
@[simp] def ylcf : UL | _ => ⟨6, (some 42), (some (39, true)), (.call 94 [(.t 41), (xK 10), (xK 1125899906842624)]), []⟩ :: xQ 7 43 (.pick (.t 39) (.t 42) (.k (.bool false))) :: xM 8 44 43 :: xG 9 45 44 true (.fad 2 (.t 1)) :: xG 10 46 44 true (.ldc (.t 45)) :: xG 11 47 44 true (.len (.t 46)) :: hid ylce
@[simp] def ylcg : UL | _ => xQ 0 36 (.fad 0 (.t 1)) :: xQ 1 37 (.ldc (.t 36)) :: xO 2 38 (.call 94 [(.t 37), (xK 0), (xK 4294967296)]) :: xM 3 39 38 :: xG 4 40 39 true (.fad 1 (.t 1)) :: xG 5 41 39 true (.ldc (.t 40)) :: hid ylcf
@[simp] def ybch : UB | _ => .seq (reg0 (hid ylc1) 2) (.seq (hid ybcd) (.seq (reg0 (hid ylcg) 15) .ret))
def c_RholdMay : EB × List QOp × Nat := ((hid ybch), [(.mov (.t 2))], 50)
theorem k_RholdMay : cfun Tryz.prog 96 = some c_RholdMay := by kernel_rfl
@[simp] def ylci : UL | _ => [xQ 0 1 (.box 32 (.t 0)), xQ 1 2 (.mov (xK 0))]
@[simp] def ylcj : UL | _ => [xG 36 41 35 false (.len (.t 40)), xG 37 42 35 false (.bin .add (.t 38) (.t 41)), xG 38 43 35 false (.bin .gtr (.t 42) (xK 8)), xQ 39 44 (.pick (.t 35) (.k (.bool true)) (.t 43))]
@[simp] def ylck : UL | _ => xM 30 35 34 :: xG 31 36 35 false (.fad 3 (.t 1)) :: xG 32 37 35 false (.ldc (.t 36)) :: xG 33 38 35 false (.len (.t 37)) :: xG 34 39 35 false (.fad 4 (.t 1)) :: xG 35 40 35 false (.ldc (.t 39)) :: hid ylcj
@[simp] def ylcl : UL | _ => xM 24 29 28 :: xG 25 30 29 false (.fad 4 (.t 1)) :: xG 26 31 29 false (.ldc (.t 30)) :: xG 27 32 29 false (.len (.t 31)) :: xG 28 33 29 false (.bin .gtr (.t 32) (xK 8)) :: xQ 29 34 (.pick (.t 29) (.k (.bool true)) (.t 33)) :: hid ylck
@[simp] def ylcm : UL | _ => xM 18 23 22 :: xG 19 24 23 false (.fad 3 (.t 1)) :: xG 20 25 23 false (.ldc (.t 24)) :: xG 21 26 23 false (.len (.t 25)) :: xG 22 27 23 false (.bin .gtr (.t 26) (xK 8)) :: xQ 23 28 (.pick (.t 23) (.k (.bool true)) (.t 27)) :: hid ylcl
@[simp] def ylcn : UL | _ => xG 12 17 16 false (.fad 1 (.t 1)) :: xG 13 18 16 false (.iad 2 1 (.t 17) (xK 1)) :: xG 14 19 16 false (.ldc (.t 18)) :: ⟨15, (some 20), (some (16, false)), (.call 94 [(.t 19), (xK 0), (xK 1125899906842624)]), []⟩ :: xG 16 21 16 false (.un .not (.t 20)) :: xQ 17 22 (.pick (.t 16) (.k (.bool true)) (.t 21)) :: hid ylcm
@[simp] def ylco : UL | _ => xG 6 11 9 false (.iad 2 1 (.t 10) (xK 0)) :: xG 7 12 9 false (.ldc (.t 11)) :: ⟨8, (some 13), (some (9, false)), (.call 94 [(.t 12), (xK 0), (xK 1125899906842624)]), []⟩ :: xG 9 14 9 false (.un .not (.t 13)) :: xQ 10 15 (.pick (.t 9) (.k (.bool true)) (.t 14)) :: xM 11 16 15 :: hid ylcn
@[simp] def ylcp : UL | _ => xQ 0 5 (.fad 0 (.t 1)) :: xQ 1 6 (.ldc (.t 5)) :: xO 2 7 (.call 94 [(.t 6), (xK 0), (xK 1099511627776)]) :: xQ 3 8 (.un .not (.t 7)) :: xM 4 9 8 :: xG 5 10 9 false (.fad 1 (.t 1)) :: hid ylco
@[simp] def ylcq : UL | _ => [xQ 0 2 (.mov (xK 1))]
@[simp] def ybcr : UB | _ => .seq (reg0 (hid ylcp) 40) (.cond (.t 44) (.seq (reg0 (hid ylcq) 1) .ret) .skip)
@[simp] def ylcs : UL | _ => [xQ 0 3 (.mov (xK 0))]
@[simp] def ylct : UL | _ => [xM 0 45 3, xQ 1 46 (.fad 3 (.t 1)), xQ 2 47 (.ldc (.t 46)), xQ 3 48 (.len (.t 47)), xQ 4 49 (.bin .lss (.t 45) (.t 48))]
@[simp] def ylcu : UL | _ => [xG 24 76 62 true (.bin .leq (.t 68) (.t 75)), xG 25 77 59 false (.pick (.t 62) (.t 76) (.k (.bool false))), xQ 26 78 (.pick (.t 59) (.k (.bool true)) (.t 77))]
@[simp] def ylcv : UL | _ => xG 18 70 62 true (.ldc (.t 69)) :: xG 19 71 62 true (.mov (.t 3)) :: xG 20 72 62 true (.bin .sub (.t 71) (xK 1)) :: xG 21 73 62 true (.isl 36 (.t 70) (.t 72)) :: xG 22 74 62 true (.fad 0 (.t 73)) :: xG 23 75 62 true (.ldc (.t 74)) :: hid ylcu
@[simp] def ylcw : UL | _ => xG 12 64 62 true (.ldc (.t 63)) :: xG 13 65 62 true (.mov (.t 3)) :: xG 14 66 62 true (.isl 36 (.t 64) (.t 65)) :: xG 15 67 62 true (.fad 0 (.t 66)) :: xG 16 68 62 true (.ldc (.t 67)) :: xG 17 69 62 true (.fad 3 (.t 1)) :: hid ylcv
@[simp] def ylcx : UL | _ => xQ 6 58 (.un .not (.t 57)) :: xM 7 59 58 :: xG 8 60 59 false (.mov (.t 3)) :: xG 9 61 59 false (.bin .gtr (.t 60) (xK 0)) :: xG 10 62 59 false (.mov (.t 61)) :: xG 11 63 62 true (.fad 3 (.t 1)) :: hid ylcw
@[simp] def ylcy : UL | _ => xQ 0 52 (.fad 3 (.t 1)) :: xQ 1 53 (.ldc (.t 52)) :: xM 2 54 3 :: xQ 3 55 (.isl 36 (.t 53) (.t 54)) :: xQ 4 56 (.lda 36 (.t 55)) :: xO 5 57 (.call 95 [(.t 56)]) :: hid ylcx
@[simp] def ylcz : UL | _ => [xQ 0 2 (.mov (xK 1))]
@[simp] def ybd0 : UB | _ => .seq (reg0 (hid ylcy) 27) (.cond (.t 78) (.seq (reg0 (hid ylcz) 1) .ret) .skip)
@[simp] def yld1 : UL | _ => [xM 0 50 3, xQ 1 51 (.bin .add (.t 50) (xK 1)), xM 2 3 51]
@[simp] def ybd2 : UB | _ => .seq (.seq (reg0 (hid ylct) 5) (.cond (.t 49) .skip (.exit 0))) (.seq (.block 1 (hid ybd0)) (reg0 (hid yld1) 3))
@[simp] def yld3 : UL | _ => [xQ 0 4 (.mov (xK 0))]
@[simp] def yld4 : UL | _ => [xM 0 79 4, xQ 1 80 (.fad 4 (.t 1)), xQ 2 81 (.ldc (.t 80)), xQ 3 82 (.len (.t 81)), xQ 4 83 (.bin .lss (.t 79) (.t 82))]
@[simp] def yld5 : UL | _ => [xG 24 110 96 true (.bin .leq (.t 102) (.t 109)), xG 25 111 93 false (.pick (.t 96) (.t 110) (.k (.bool false))), xQ 26 112 (.pick (.t 93) (.k (.bool true)) (.t 111))]
@[simp] def yld6 : UL | _ => xG 18 104 96 true (.ldc (.t 103)) :: xG 19 105 96 true (.mov (.t 4)) :: xG 20 106 96 true (.bin .sub (.t 105) (xK 1)) :: xG 21 107 96 true (.isl 3 (.t 104) (.t 106)) :: xG 22 108 96 true (.fad 0 (.t 107)) :: xG 23 109 96 true (.ldc (.t 108)) :: hid yld5
@[simp] def yld7 : UL | _ => xG 12 98 96 true (.ldc (.t 97)) :: xG 13 99 96 true (.mov (.t 4)) :: xG 14 100 96 true (.isl 3 (.t 98) (.t 99)) :: xG 15 101 96 true (.fad 0 (.t 100)) :: xG 16 102 96 true (.ldc (.t 101)) :: xG 17 103 96 true (.fad 4 (.t 1)) :: hid yld6
@[simp] def yld8 : UL | _ => xQ 6 92 (.un .not (.t 91)) :: xM 7 93 92 :: xG 8 94 93 false (.mov (.t 4)) :: xG 9 95 93 false (.bin .gtr (.t 94) (xK 0)) :: xG 10 96 93 false (.mov (.t 95)) :: xG 11 97 96 true (.fad 4 (.t 1)) :: hid yld7
@[simp] def yld9 : UL | _ => xQ 0 86 (.fad 4 (.t 1)) :: xQ 1 87 (.ldc (.t 86)) :: xM 2 88 4 :: xQ 3 89 (.isl 3 (.t 87) (.t 88)) :: xQ 4 90 (.lda 3 (.t 89)) :: xO 5 91 (.call 96 [(.t 90)]) :: hid yld8
@[simp] def ylda : UL | _ => [xQ 0 2 (.mov (xK 1))]
@[simp] def ybdb : UB | _ => .seq (reg0 (hid yld9) 27) (.cond (.t 112) (.seq (reg0 (hid ylda) 1) .ret) .skip)
@[simp] def yldc : UL | _ => [xM 0 84 4, xQ 1 85 (.bin .add (.t 84) (xK 1)), xM 2 4 85]
@[simp] def ybdd : UB | _ => .seq (.seq (reg0 (hid yld4) 5) (.cond (.t 83) .skip (.exit 2))) (.seq (.block 3 (hid ybdb)) (reg0 (hid yldc) 3))
@[simp] def ylde : UL | _ => [xQ 0 113 (.lda 5 (.t 1)), xO 1 114 (.call 97 [(.t 113)]), xQ 2 115 (.bin .gtr (.t 114) (xK 1125899906842624))]
@[simp] def yldf : UL | _ => [xQ 0 2 (.mov (xK 1))]
@[simp] def ybdg : UB | _ => .seq (reg0 (hid ylde) 3) (.cond (.t 115) (.seq (reg0 (hid yldf) 1) .ret) .skip)
@[simp] def yldh : UL | _ => [xQ 0 2 (.mov (xK 0))]
@[simp] def ybdi : UB | _ => .seq (.seq (reg0 (hid yld3) 1) (.block 2 (.loop (hid ybdd)))) (.seq (hid ybdg) (.seq (reg0 (hid yldh) 1) .ret))
@[simp] def ybdj : UB | _ => .seq (.seq (reg0 (hid ylcs) 1) (.block 0 (.loop (hid ybd2)))) (hid ybdi)
@[simp] def ybdk : UB | _ => .seq (reg0 (hid ylci) 2) (.seq (hid ybcr) (hid ybdj))
def c_RCheck : EB × List QOp × Nat := ((hid ybdk), [(.mov (.t 2))], 116)
theorem k_RCheck : cfun Tryz.prog 51 = some c_RCheck := by kernel_rfl
@[simp] def yldl : UL | _ => [xQ 0 1 (.box 32 (.t 0)), xQ 1 2 (.mov (xK 0))]
@[simp] def yldm : UL | _ => [xQ 6 12 (.bin .add (.t 8) (.t 11)), xM 7 3 12]
@[simp] def yldn : UL | _ => xQ 0 6 (.fad 1 (.t 1)) :: xQ 1 7 (.iad 2 1 (.t 6) (xK 0)) :: xQ 2 8 (.ldc (.t 7)) :: xQ 3 9 (.fad 1 (.t 1)) :: xQ 4 10 (.iad 2 1 (.t 9) (xK 1)) :: xQ 5 11 (.ldc (.t 10)) :: hid yldm
@[simp] def yldo : UL | _ => [xQ 0 4 (.mov (xK 0))]
@[simp] def yldp : UL | _ => [xM 0 13 4, xQ 1 14 (.fad 3 (.t 1)), xQ 2 15 (.ldc (.t 14)), xQ 3 16 (.len (.t 15)), xQ 4 17 (.bin .lss (.t 13) (.t 16))]
@[simp] def yldq : UL | _ => [xQ 6 26 (.ldc (.t 25)), xQ 7 27 (.bin .add (.t 20) (.t 26)), xM 8 3 27]
@[simp] def yldr : UL | _ => xM 0 20 3 :: xQ 1 21 (.fad 3 (.t 1)) :: xQ 2 22 (.ldc (.t 21)) :: xM 3 23 4 :: xQ 4 24 (.isl 36 (.t 22) (.t 23)) :: xQ 5 25 (.fad 2 (.t 24)) :: hid yldq
@[simp] def ylds : UL | _ => [xM 0 18 4, xQ 1 19 (.bin .add (.t 18) (xK 1)), xM 2 4 19]
@[simp] def ybdt : UB | _ => .seq (.seq (reg0 (hid yldp) 5) (.cond (.t 17) .skip (.exit 0))) (.seq (.block 1 (reg0 (hid yldr) 9)) (reg0 (hid ylds) 3))
@[simp] def yldu : UL | _ => [xQ 0 5 (.mov (xK 0))]
@[simp] def yldv : UL | _ => [xM 0 28 5, xQ 1 29 (.fad 4 (.t 1)), xQ 2 30 (.ldc (.t 29)), xQ 3 31 (.len (.t 30)), xQ 4 32 (.bin .lss (.t 28) (.t 31))]
@[simp] def yldw : UL | _ => [xQ 6 41 (.ldc (.t 40)), xQ 7 42 (.bin .add (.t 35) (.t 41)), xM 8 3 42]
@[simp] def yldx : UL | _ => xM 0 35 3 :: xQ 1 36 (.fad 4 (.t 1)) :: xQ 2 37 (.ldc (.t 36)) :: xM 3 38 5 :: xQ 4 39 (.isl 3 (.t 37) (.t 38)) :: xQ 5 40 (.fad 1 (.t 39)) :: hid yldw
@[simp] def yldy : UL | _ => [xM 0 33 5, xQ 1 34 (.bin .add (.t 33) (xK 1)), xM 2 5 34]
@[simp] def ybdz : UB | _ => .seq (.seq (reg0 (hid yldv) 5) (.cond (.t 32) .skip (.exit 2))) (.seq (.block 3 (reg0 (hid yldx) 9)) (reg0 (hid yldy) 3))
@[simp] def yle0 : UL | _ => [xM 0 43 3, xM 1 2 43]
@[simp] def ybe1 : UB | _ => .seq (.seq (reg0 (hid yldu) 1) (.block 2 (.loop (hid ybdz)))) (.seq (reg0 (hid yle0) 2) .ret)
@[simp] def ybe2 : UB | _ => .seq (.seq (reg0 (hid yldo) 1) (.block 0 (.loop (hid ybdt)))) (hid ybe1)
@[simp] def ybe3 : UB | _ => .seq (reg0 (hid yldl) 2) (.seq (reg0 (hid yldn) 8) (hid ybe2))
def c_Rsum : EB × List QOp × Nat := ((hid ybe3), [(.mov (.t 2))], 44)
theorem k_Rsum : cfun Tryz.prog 97 = some c_Rsum := by kernel_rfl
@[simp] def yle4 : UL | _ => [xQ 0 1 (.box 32 (.t 0)), xQ 1 2 (.mov (xK 0))]
@[simp] def yle5 : UL | _ => [xQ 0 3 (.lda 5 (.t 1)), xO 1 4 (.call 51 [(.t 3)]), xQ 2 5 (.bin .neq (.t 4) (xK 0))]
@[simp] def yle6 : UL | _ => [xQ 0 2 (.mov (xK 0))]
@[simp] def ybe7 : UB | _ => .seq (reg0 (hid yle5) 3) (.cond (.t 5) (.seq (reg0 (hid yle6) 1) .ret) .skip)
@[simp] def yle8 : UL | _ => [xQ 0 6 (.lda 5 (.t 1)), xO 1 7 (.call 97 [(.t 6)]), xM 2 2 7]
@[simp] def ybe9 : UB | _ => .seq (reg0 (hid yle4) 2) (.seq (hid ybe7) (.seq (reg0 (hid yle8) 3) .ret))
def c_RTotal : EB × List QOp × Nat := ((hid ybe9), [(.mov (.t 2))], 8)
theorem k_RTotal : cfun Tryz.prog 53 = some c_RTotal := by kernel_rfl
theorem within_ok (n lo hi : Int) : ECalls Tryz.prog 94 [I .i64 n, I .i64 lo, I .i64 hi] [] fun y H' => H' = [] ∧ y = .lit (.bool (decide (lo ≤ n ∧ n ≤ hi))) := by
  refine ecalls k_within ?_
  simp [c_within, I]
  by_cases h : lo ≤ n
  · simp [h]
    exact fin0
  · simp [h]
    exact fin0
theorem RpayMay_ok (p : Pay) (hp : p.lock.length = 32) : ECalls Tryz.prog 95 [.v (.agg (payC p))] [] fun y H' => H' = [] ∧ y = .lit (.bool (mayP p)) := by
  have ht : p.lock.take 32 = p.lock := List.take_of_length_le (by omega)
  refine ecalls k_RpayMay ?_
  simp [c_RpayMay, payC, I, ht]
  refine call0 (within_ok p.id 0 4294967296) (by simp [Ptr, I, EV.lit]) ?_
  rintro y H' ⟨rfl, rfl⟩
  cases h1 : decide (0 ≤ p.id ∧ p.id ≤ 4294967296)
  · have h1 := of_decide_eq_false h1
    simp [Ptr, I, EV.lit]
    exact fin [] (by decide) rfl rfl rfl ⟨rfl, by rw [show mayP p = false from decide_eq_false (by omega)]⟩
  have h1 := of_decide_eq_true h1
  simp [Ptr, I, EV.lit]
  refine call0 (within_ok p.fr 0 1) (by simp [Ptr, I, EV.lit]) ?_
  rintro y H' ⟨rfl, rfl⟩
  cases h2 : decide (0 ≤ p.fr ∧ p.fr ≤ 1)
  · have h2 := of_decide_eq_false h2
    simp [Ptr, I, EV.lit]
    exact fin [] (by decide) rfl rfl rfl ⟨rfl, by rw [show mayP p = false from decide_eq_false (by omega)]⟩
  have h2 := of_decide_eq_true h2
  simp [Ptr, I, EV.lit]
  refine call0 (within_ok p.am 10 1125899906842624) (by simp [Ptr, I, EV.lit]) ?_
  rintro y H' ⟨rfl, rfl⟩
  cases h3 : decide (10 ≤ p.am ∧ p.am ≤ 1125899906842624)
  · have h3 := of_decide_eq_false h3
    simp [Ptr, I, EV.lit]
    exact fin [] (by decide) rfl rfl rfl ⟨rfl, by rw [show mayP p = false from decide_eq_false (by omega)]⟩
  have h3 := of_decide_eq_true h3
  simp [Ptr, I, EV.lit]
  refine call0 (within_ok p.af 0 1099511627776) (by simp [I]) ?_
  rintro y H' ⟨rfl, rfl⟩
  cases h4 : decide (0 ≤ p.af ∧ p.af ≤ 1099511627776)
  · have h4 := of_decide_eq_false h4
    simp [EV.lit]
    exact fin [] (by decide) rfl rfl rfl ⟨rfl, by rw [show mayP p = false from decide_eq_false (by omega)]⟩
  have h4 := of_decide_eq_true h4
  simp [EV.lit, hp, ht]
  have hm : mayP p = !decide (p.lock = hz) := by
    by_cases e : p.lock = hz
    · rw [show mayP p = false from decide_eq_false (fun h => h.2.2.2.2.2.2.2 e)]; simp [e]
    · rw [show mayP p = true from decide_eq_true ⟨by omega, by omega, by omega, by omega, by omega, by omega, by omega, e⟩]; simp [e]
  exact fin [] (by decide) rfl rfl rfl ⟨rfl, by rw [hm]⟩
def prevK (l : List Int) (i : Nat) : Int := if i = 0 then -1 else (l[i - 1]?).getD 0
theorem RholdMay_ok (h : Hol) (hk : h.keys.length ≤ 100000000) : ECalls Tryz.prog 96 [.v (.agg (holC h))] [] fun y H' => H' = [] ∧ y = .lit (.bool (mayH h)) := by
  refine ecalls k_RholdMay ?_
  simp [c_RholdMay, holC]
  refine eloop (α := Nat) (fun i => i ≤ h.keys.length ∧ keysS (-1) h.keys = keysS (prevK h.keys i) (h.keys.drop i) ∧ -1 ≤ prevK h.keys i) (fun i => h.keys.length - i)
    (fun i => [xA, Ptr 0, xA, I .i64 i, xA, xA, xA, xA, xA, xA, xA, xA, xA, xA, xA, xA, xA, xA, xA, xA, xA, xA, xA, xA, xA, xA, xA, xA, xA, xA, xA, xA, xA, xA, xA, xA, xA, xA, xA, xA, xA, xA, xA, xA, xA, xA, xA, xA, xA, .any]) (fun i => [some (.box 113 (holC h))]) 0 [0]
    ⟨by simp, by simp [prevK], by simp [prevK]⟩ (by simp [Ptr, I]) (by simp [holC]) (by simp) (by simp) (by simp) ?_
  rintro i ⟨hi1, hi2, hi3⟩
  simp [Ptr, I, holC] at hi1 hi2 hi3 ⊢
  refine alt (fun hlt => ?_) (fun hlt => ?_)
  · obtain ⟨k, hc⟩ : ∃ k, h.keys[i]? = some k := ⟨h.keys[i], by simp [hlt]⟩
    have hcb := intv_get hc
    rw [drop_cons hc] at hi2
    have w1 := wS (i := i) (by omega)
    have w3 : IntKind.i64.wrap ((i : Int) - 1) = (i : Int) - 1 := wrap_i64 (by omega) (by omega)
    have hbad : ¬ (prevK h.keys i < k ∧ k < 16) → mayH h = false := fun q => by simp only [mayH, hi2, keysS, decide_eq_false q, Bool.false_and]
    have hnk : prevK h.keys (i + 1) = k := by simp [prevK, hc]
    have hgood : prevK h.keys i < k → k < 16 → keysS (-1) h.keys = keysS (prevK h.keys (i + 1)) (h.keys.drop (i + 1)) := fun q1 q2 => by rw [hi2, keysS, decide_eq_true ⟨q1, q2⟩, Bool.true_and, hnk]
    simp [hcb]
    refine call0 (within_ok k 0 15) (by simp [I]) ?_
    rintro y H' ⟨rfl, rfl⟩
    cases b1 : decide (0 ≤ k ∧ k ≤ 15)
    · have b1 := of_decide_eq_false b1
      simp [EV.lit]
      exact fin [] (by decide) rfl rfl rfl ⟨rfl, by rw [hbad (by omega)]⟩
    have b1 := of_decide_eq_true b1
    simp [EV.lit]
    refine alt (fun h0 => ?_) (fun h0 => ?_)
    · obtain ⟨q, hq⟩ : ∃ q, h.keys[i - 1]? = some q := ⟨h.keys[i - 1]'(by omega), by simp⟩
      have hqb := intv_get hq
      have hti : ((i : Int) - 1).toNat = i - 1 := by omega
      have hpv : prevK h.keys i = q := by simp [prevK, hq, show i ≠ 0 by omega]
      have h1 : (1 : Int) ≤ (i : Int) := by omega
      simp [h0, w3, hqb, hti, h1, hcb]
      refine alt (fun c1 => ?_) (fun c1 => ?_)
      · simp
        exact fin [] (by decide) rfl rfl rfl ⟨rfl, by rw [hbad (by omega)]⟩
      simp [w1, -Int.natCast_add]
      exact round (i + 1) [0] ⟨by omega, hgood (by omega) (by omega), by omega⟩ (by omega) (by simp) (by simp) (by simp) (by simp) (by simp)
    · have hi0 : i = 0 := by omega
      subst hi0
      have hp0 : prevK h.keys 0 = -1 := by simp [prevK]
      simp [IntKind.wrap_i64]
      exact round 1 [0] ⟨by omega, hgood (by omega) (by omega), by simp at hnk; omega⟩ (by omega) (by simp) (by simp) (by simp) (by simp) (by simp)
  · have hd : h.keys.drop i = [] := by rw [List.drop_eq_nil_iff]; omega
    have hks : keysS (-1) h.keys = true := by rw [hi2, hd]; rfl
    simp
    refine call0 (within_ok h.id 0 4294967296) (by simp [Ptr, I, EV.lit]) ?_
    rintro y H' ⟨rfl, rfl⟩
    cases c1 : decide (0 ≤ h.id ∧ h.id ≤ 4294967296)
    · have c1 := of_decide_eq_false c1
      simp [Ptr, I, EV.lit]
      exact fin [] (by decide) rfl rfl rfl ⟨rfl, by rw [mayH_f (by omega)]⟩
    have c1 := of_decide_eq_true c1
    simp [Ptr, I, EV.lit]
    refine call0 (within_ok h.am 10 1125899906842624) (by simp [Ptr, I, EV.lit]) ?_
    rintro y H' ⟨rfl, rfl⟩
    cases c2 : decide (10 ≤ h.am ∧ h.am ≤ 1125899906842624)
    · have c2 := of_decide_eq_false c2
      simp [Ptr, I, EV.lit]
      exact fin [] (by decide) rfl rfl rfl ⟨rfl, by rw [mayH_f (by omega)]⟩
    have c2 := of_decide_eq_true c2
    simp [Ptr, I, EV.lit]
    by_cases q : 1 ≤ h.keys.length
    · have hm : mayH h = true := by
        simp only [mayH, hks, Bool.true_and]
        exact decide_eq_true ⟨by omega, by omega, by omega, by omega, q⟩
      exact fin [] (by decide) rfl rfl rfl ⟨rfl, litB (by rw [hm]; exact decide_eq_true (by omega))⟩
    · exact fin [] (by decide) rfl rfl rfl ⟨rfl, litB (by rw [mayH_f (by omega)]; exact decide_eq_false (by omega))⟩
theorem Rsum_ok (s : Sta) (hs : s.ok) (hr : 0 ≤ s.h0 ∧ s.h0 ≤ 1125899906842624 ∧ 0 ≤ s.h1 ∧ s.h1 ≤ 1125899906842624 ∧ s.pays.length ≤ 8 ∧ s.holds.length + s.pays.length ≤ 8) (hp : payL none s.pays = true) (hh : holL none s.holds = true) : ECalls Tryz.prog 97 [SV s] [] fun y H' => H' = [] ∧ y = I .i64 (total s) := by
  obtain ⟨ok1, ok2, ok3, ok4, ok5, ok6, ok7⟩ := id hs
  have w1 : IntKind.i64.wrap (s.h0 + s.h1) = s.h0 + s.h1 := wrap_i64 (by omega) (by omega)
  refine ecalls k_Rsum ?_
  simp [c_Rsum, SV, staC, w1]
  refine eloop (α := Nat × Int) (fun a => a.1 ≤ s.pays.length ∧ a.2 = s.h0 + s.h1 + sumP (s.pays.take a.1) ∧ 0 ≤ a.2 ∧ a.2 ≤ 2251799813685248 + (a.1 : Int) * 1125899906842624) (fun a => s.pays.length - a.1)
    (fun a => [xA, Ptr 0, xA, I .i64 a.2, I .i64 a.1, xA, xA, xA, xA, xA, xA, xA, xA, xA, xA, xA, xA, xA, xA, xA, xA, xA, xA, xA, xA, xA, xA, xA, xA, xA, xA, xA, xA, xA, xA, xA, xA, xA, xA, xA, xA, xA, xA, .any]) (fun a => [some (.box 32 (staC s))]) (0, s.h0 + s.h1) [0]
    ⟨by simp, by simp [sumP], by simp; omega, by simp; omega⟩ (by simp [Ptr, I, PL]) (by simp [staC]) (by simp) (by simp) (by simp) ?_
  rintro ⟨i, n⟩ ⟨hi1, hi3, hi4, hi5⟩
  simp [Ptr, I, PL, staC] at hi1 hi3 hi4 hi5 ⊢
  refine alt (fun hlt => ?_) (fun hlt => ?_)
  · obtain ⟨p, hc⟩ : ∃ p, s.pays[i]? = some p := ⟨s.pays[i], by simp [hlt]⟩
    have hcb := payv_get hc
    have ham := payL_am hp p (List.mem_of_getElem? hc)
    have w2 := wS (i := i) (by omega)
    have w4 : IntKind.i64.wrap (n + p.am) = n + p.am := wrap_i64 (by omega) (by omega)
    simp [hcb, payF, w2, w4, -Int.natCast_add]
    exact round (i + 1, n + p.am) [0] ⟨by omega, by rw [take_s hc, sumP_snoc]; omega, by simp; omega, by simp; omega⟩ (by simp; omega) (by simp) (by simp) (by simp) (by simp) (by simp)
  have hil : i = s.pays.length := by omega
  subst hil
  rw [List.take_length] at hi3
  simp
  refine eloop (α := Nat × Int) (fun a => a.1 ≤ s.holds.length ∧ a.2 = s.h0 + s.h1 + sumP s.pays + sumH (s.holds.take a.1) ∧ 0 ≤ a.2 ∧ a.2 ≤ 22517998136852480 + (a.1 : Int) * 1125899906842624) (fun a => s.holds.length - a.1)
    (fun a => [xA, Ptr 0, xA, I .i64 a.2, xA, I .i64 a.1, xA, xA, xA, xA, xA, xA, xA, xA, xA, xA, xA, xA, xA, xA, xA, xA, xA, xA, xA, xA, xA, xA, xA, xA, xA, xA, xA, xA, xA, xA, xA, xA, xA, xA, xA, xA, xA, .any]) (fun a => [some (.box 32 (staC s))]) (0, n) [0]
    ⟨by simp, by simp [sumH]; omega, hi4, by simp; omega⟩ (by simp [Ptr, I, HL]) (by simp [staC]) (by simp) (by simp) (by simp) ?_
  clear hi1 hi3 hi4 hi5 hlt
  clear n
  rintro ⟨i, n⟩ ⟨hi1, hi3, hi4, hi5⟩
  simp [Ptr, I, HL, staC] at hi1 hi3 hi4 hi5 ⊢
  refine alt (fun hlt => ?_) (fun hlt => ?_)
  · obtain ⟨p, hc⟩ : ∃ p, s.holds[i]? = some p := ⟨s.holds[i], by simp [hlt]⟩
    have hcb := holv_get hc
    have ham := holL_am hh p (List.mem_of_getElem? hc)
    have w2 := wS (i := i) (by omega)
    have w4 : IntKind.i64.wrap (n + p.am) = n + p.am := wrap_i64 (by omega) (by omega)
    simp [hcb, holF, w2, w4, -Int.natCast_add]
    exact round (i + 1, n + p.am) [0] ⟨by omega, by rw [take_s hc, sumH_snoc]; omega, by simp; omega, by simp; omega⟩ (by simp; omega) (by simp) (by simp) (by simp) (by simp) (by simp)
  have hil : i = s.holds.length := by omega
  subst hil
  rw [List.take_length] at hi3
  simp
  exact fin [] (by decide) rfl rfl rfl ⟨rfl, by rw [hi3]; rfl⟩
def chkS (s : Sta) : Int := if mayS s = true then 0 else 1
theorem chk_f {s : Sta} (h : mayS s = false) : chkS s = 1 := by simp [chkS, h]
theorem RCheck_ok (s : Sta) (hs : s.ok) : ECalls Tryz.prog 51 [SV s] [] fun y H' => H' = [] ∧ y = I .i64 (chkS s) := by
  obtain ⟨ok1, ok2, ok3, ok4, ok5, ok6, ok7⟩ := id hs
  refine ecalls k_RCheck ?_
  simp [c_RCheck, SV, staC]
  refine call0 (within_ok s.num 0 1099511627776) (by simp [Ptr, I, EV.lit]) ?_
  rintro y H' ⟨rfl, rfl⟩
  cases a1 : decide (0 ≤ s.num ∧ s.num ≤ 1099511627776)
  · have a1 := of_decide_eq_false a1
    simp [Ptr, I, EV.lit]
    exact fin [] (by decide) rfl rfl rfl ⟨rfl, by rw [chk_f (mayS_f (by omega))]⟩
  have a1 := of_decide_eq_true a1
  simp [Ptr, I, EV.lit]
  refine call0 (within_ok s.h0 0 1125899906842624) (by simp [Ptr, I, EV.lit]) ?_
  rintro y H' ⟨rfl, rfl⟩
  cases a2 : decide (0 ≤ s.h0 ∧ s.h0 ≤ 1125899906842624)
  · have a2 := of_decide_eq_false a2
    simp [Ptr, I, EV.lit]
    exact fin [] (by decide) rfl rfl rfl ⟨rfl, by rw [chk_f (mayS_f (by omega))]⟩
  have a2 := of_decide_eq_true a2
  simp [Ptr, I, EV.lit]
  refine call0 (within_ok s.h1 0 1125899906842624) (by simp [Ptr, I, EV.lit]) ?_
  rintro y H' ⟨rfl, rfl⟩
  cases a3 : decide (0 ≤ s.h1 ∧ s.h1 ≤ 1125899906842624)
  · have a3 := of_decide_eq_false a3
    simp [Ptr, I, EV.lit]
    exact fin [] (by decide) rfl rfl rfl ⟨rfl, by rw [chk_f (mayS_f (by omega))]⟩
  have a3 := of_decide_eq_true a3
  simp [Ptr, I, EV.lit]
  refine alt (fun a4 => ?_) (fun a4 => ?_)
  rotate_left
  · (first | simp [Ptr, I, EV.lit, a4, Int.not_le.2 a4] | simp [Ptr, I, EV.lit, a4, Int.not_lt.2 a4] | simp [Ptr, I, EV.lit, a4, Int.not_lt.1 a4] | simp [Ptr, I, EV.lit, a4, Int.not_le.1 a4] | simp [Ptr, I, EV.lit, a4])
    exact fin [] (by decide) rfl rfl rfl ⟨rfl, by rw [chk_f (mayS_f (by omega))]⟩
  (first | simp [Ptr, I, EV.lit, a4, Int.not_le.2 a4] | simp [Ptr, I, EV.lit, a4, Int.not_lt.2 a4] | simp [Ptr, I, EV.lit, a4, Int.not_lt.1 a4] | simp [Ptr, I, EV.lit, a4, Int.not_le.1 a4] | simp [Ptr, I, EV.lit, a4])
  refine alt (fun a5 => ?_) (fun a5 => ?_)
  rotate_left
  · (first | simp [Ptr, I, EV.lit, a5, Int.not_le.2 a5] | simp [Ptr, I, EV.lit, a5, Int.not_lt.2 a5] | simp [Ptr, I, EV.lit, a5, Int.not_lt.1 a5] | simp [Ptr, I, EV.lit, a5, Int.not_le.1 a5] | simp [Ptr, I, EV.lit, a5])
    exact fin [] (by decide) rfl rfl rfl ⟨rfl, by rw [chk_f (mayS_f (by omega))]⟩
  (first | simp [Ptr, I, EV.lit, a5, Int.not_le.2 a5] | simp [Ptr, I, EV.lit, a5, Int.not_lt.2 a5] | simp [Ptr, I, EV.lit, a5, Int.not_lt.1 a5] | simp [Ptr, I, EV.lit, a5, Int.not_le.1 a5] | simp [Ptr, I, EV.lit, a5])
  have w0 : IntKind.i64.wrap ((s.pays.length : Int) + (s.holds.length : Int)) = (s.pays.length : Int) + (s.holds.length : Int) := wrap_i64 (by omega) (by omega)
  rw [w0]
  refine alt (fun a6 => ?_) (fun a6 => ?_)
  · simp
    exact fin [] (by decide) rfl rfl rfl ⟨rfl, by rw [chk_f (mayS_f (by omega))]⟩
  simp
  refine eloop (α := Nat) (fun i => i ≤ s.pays.length ∧ payL none s.pays = payL (prevP s.pays i) (s.pays.drop i)) (fun i => s.pays.length - i)
    (fun i => [xA, Ptr 0, xA, I .i64 i, xA, xA, xA, xA, xA, xA, xA, xA, xA, xA, xA, xA, xA, xA, xA, xA, xA, xA, xA, xA, xA, xA, xA, xA, xA, xA, xA, xA, xA, xA, xA, xA, xA, xA, xA, xA, xA, xA, xA, xA, xA, xA, xA, xA, xA, xA, xA, xA, xA, xA, xA, xA, xA, xA, xA, xA, xA, xA, xA, xA, xA, xA, xA, xA, xA, xA, xA, xA, xA, xA, xA, xA, xA, xA, xA, xA, xA, xA, xA, xA, xA, xA, xA, xA, xA, xA, xA, xA, xA, xA, xA, xA, xA, xA, xA, xA, xA, xA, xA, xA, xA, xA, xA, xA, xA, xA, xA, xA, xA, xA, xA, .any]) (fun i => [some (.box 32 (staC s))]) 0 [0]
    ⟨by simp, by simp [prevP]⟩ (by simp [Ptr, I]) (by simp [staC]) (by simp) (by simp) (by simp) ?_
  rintro i ⟨hi1, hi2⟩
  simp [Ptr, I, PL, staC] at hi1 hi2 ⊢
  refine alt (fun hlt => ?_) (fun hlt => ?_)
  · obtain ⟨p, hc⟩ : ∃ p, s.pays[i]? = some p := ⟨s.pays[i], by simp [hlt]⟩
    have hpo := ok4 p (List.mem_of_getElem? hc)
    have hl32 := hpo.2.2.2.2
    have ht : p.lock.take 32 = p.lock := List.take_of_length_le (by omega)
    have hcb := payv_get hc
    rw [drop_cons hc] at hi2
    have w2 := wS (i := i) (by omega)
    have w3 : IntKind.i64.wrap ((i : Int) - 1) = (i : Int) - 1 := wrap_i64 (by omega) (by omega)
    simp [hcb, payF, hl32, ht]
    refine call0 (RpayMay_ok p hl32) (by simp [payC]) ?_
    rintro y H' ⟨rfl, rfl⟩
    refine ⟨.inl (by simp), le_ok rfl, ?_⟩
    cases hm : mayP p
    · simp [EV.lit]
      exact fin [] (by decide) rfl rfl rfl ⟨rfl, by rw [chk_f (mayS_p (by rw [hi2, payL, hm]; simp))]⟩
    have hnx : ∀ (q : aft (prevP s.pays i) p.id = true), payL none s.pays = payL (prevP s.pays (i + 1)) (s.pays.drop (i + 1)) := by
      intro q
      rw [hi2, payL, hm, q]
      simp [prevP, hc]
    simp [EV.lit]
    refine alt (fun h0 => ?_) (fun h0 => ?_)
    · obtain ⟨q, hq⟩ : ∃ q, s.pays[i - 1]? = some q := ⟨s.pays[i - 1]'(by omega), by simp⟩
      have hqb := payv_get hq
      have hti : ((i : Int) - 1).toNat = i - 1 := by omega
      have hpv : prevP s.pays i = some q.id := by simp [prevP, hq, show i ≠ 0 by omega]
      have h1 : (1 : Int) ≤ (i : Int) := by omega
      simp [h0, w3, hqb, hti, payF, h1, hcb]
      refine alt (fun c1 => ?_) (fun c1 => ?_)
      · simp
        exact fin [] (by decide) rfl rfl rfl ⟨rfl, by rw [chk_f (mayS_p (by rw [hi2, payL, hm, hpv]; simp [aft, decide_eq_false (show ¬ q.id < p.id by omega)]))]⟩
      simp [w2, -Int.natCast_add]
      exact round (i + 1) [0] ⟨by omega, hnx (by rw [hpv]; exact decide_eq_true (by omega))⟩ (by omega) (by simp) (by simp) (by simp) (by simp) (by simp)
    · have hi0 : i = 0 := by omega
      subst hi0
      simp [IntKind.wrap_i64]
      exact round 1 [0] ⟨by omega, hnx (by simp [prevP, aft])⟩ (by omega) (by simp) (by simp) (by simp) (by simp) (by simp)
  have hil : i = s.pays.length := by omega
  subst hil
  have hps : payL none s.pays = true := by rw [hi2]; simp [payL]
  simp
  refine eloop (α := Nat) (fun i => i ≤ s.holds.length ∧ holL none s.holds = holL (prevH s.holds i) (s.holds.drop i)) (fun i => s.holds.length - i)
    (fun i => [xA, Ptr 0, xA, xA, I .i64 i, xA, xA, xA, xA, xA, xA, xA, xA, xA, xA, xA, xA, xA, xA, xA, xA, xA, xA, xA, xA, xA, xA, xA, xA, xA, xA, xA, xA, xA, xA, xA, xA, xA, xA, xA, xA, xA, xA, xA, xA, xA, xA, xA, xA, xA, xA, xA, xA, xA, xA, xA, xA, xA, xA, xA, xA, xA, xA, xA, xA, xA, xA, xA, xA, xA, xA, xA, xA, xA, xA, xA, xA, xA, xA, xA, xA, xA, xA, xA, xA, xA, xA, xA, xA, xA, xA, xA, xA, xA, xA, xA, xA, xA, xA, xA, xA, xA, xA, xA, xA, xA, xA, xA, xA, xA, xA, xA, xA, xA, xA, .any]) (fun i => [some (.box 32 (staC s))]) 0 [0]
    ⟨by simp, by simp [prevH]⟩ (by simp [Ptr, I]) (by simp [staC]) (by simp) (by simp) (by simp) ?_
  clear hi1 hi2 hlt
  rintro i ⟨hi1, hi2⟩
  simp [Ptr, I, HL, staC] at hi1 hi2 ⊢
  refine alt (fun hlt => ?_) (fun hlt => ?_)
  · obtain ⟨p, hc⟩ : ∃ p, s.holds[i]? = some p := ⟨s.holds[i], by simp [hlt]⟩
    have hpo := ok5 p (List.mem_of_getElem? hc)
    have hcb := holv_get hc
    rw [drop_cons hc] at hi2
    have w2 := wS (i := i) (by omega)
    have w3 : IntKind.i64.wrap ((i : Int) - 1) = (i : Int) - 1 := wrap_i64 (by omega) (by omega)
    simp [hcb, holF]
    refine call0 (RholdMay_ok p hpo.2.2.2) (by simp [holC]) ?_
    rintro y H' ⟨rfl, rfl⟩
    refine ⟨.inl (by simp), le_ok rfl, ?_⟩
    cases hm : mayH p
    · simp [EV.lit]
      exact fin [] (by decide) rfl rfl rfl ⟨rfl, by rw [chk_f (mayS_h (by rw [hi2, holL, hm]; simp))]⟩
    have hnx : ∀ (q : aft (prevH s.holds i) p.id = true), holL none s.holds = holL (prevH s.holds (i + 1)) (s.holds.drop (i + 1)) := by
      intro q
      rw [hi2, holL, hm, q]
      simp [prevH, hc]
    simp [EV.lit]
    refine alt (fun h0 => ?_) (fun h0 => ?_)
    · obtain ⟨q, hq⟩ : ∃ q, s.holds[i - 1]? = some q := ⟨s.holds[i - 1]'(by omega), by simp⟩
      have hqb := holv_get hq
      have hti : ((i : Int) - 1).toNat = i - 1 := by omega
      have hpv : prevH s.holds i = some q.id := by simp [prevH, hq, show i ≠ 0 by omega]
      have h1 : (1 : Int) ≤ (i : Int) := by omega
      simp [h0, w3, hqb, hti, holF, h1, hcb]
      refine alt (fun c1 => ?_) (fun c1 => ?_)
      · simp
        exact fin [] (by decide) rfl rfl rfl ⟨rfl, by rw [chk_f (mayS_h (by rw [hi2, holL, hm, hpv]; simp [aft, decide_eq_false (show ¬ q.id < p.id by omega)]))]⟩
      simp [w2, -Int.natCast_add]
      exact round (i + 1) [0] ⟨by omega, hnx (by rw [hpv]; exact decide_eq_true (by omega))⟩ (by omega) (by simp) (by simp) (by simp) (by simp) (by simp)
    · have hi0 : i = 0 := by omega
      subst hi0
      simp [IntKind.wrap_i64]
      exact round 1 [0] ⟨by omega, hnx (by simp [prevH, aft])⟩ (by omega) (by simp) (by simp) (by simp) (by simp) (by simp)
  have hil : i = s.holds.length := by omega
  subst hil
  have hhs : holL none s.holds = true := by rw [hi2]; simp [holL]
  simp
  refine call0 (Rsum_ok s hs (by omega) hps hhs) (by simp [SV, staC]) ?_
  rintro y H' ⟨rfl, rfl⟩
  simp [I]
  have hS : mayS s = decide (total s ≤ 1125899906842624) := by
    simp only [mayS, hps, hhs, Bool.and_true]
    rw [decide_eq_true (show 0 ≤ s.num ∧ s.num ≤ 1099511627776 ∧ 0 ≤ s.h0 ∧ s.h0 ≤ 1125899906842624 ∧ 0 ≤ s.h1 ∧ s.h1 ≤ 1125899906842624 ∧ s.pays.length ≤ 8 ∧ s.holds.length + s.pays.length ≤ 8 by omega), Bool.true_and]
  refine alt (fun c => ?_) (fun c => ?_)
  · simp
    exact fin [] (by decide) rfl rfl rfl ⟨rfl, by rw [chk_f (by rw [hS]; exact decide_eq_false (by omega))]⟩
  · simp
    exact fin [] (by decide) rfl rfl rfl ⟨rfl, by rw [chkS, if_pos (by rw [hS]; exact decide_eq_true (by omega))]⟩
theorem RTotal_ok (s : Sta) (hs : s.ok) : ECalls Tryz.prog 53 [SV s] [] fun y H' => H' = [] ∧ y = I .i64 (totS s) := by
  refine ecalls k_RTotal ?_
  simp [c_RTotal, SV, staC]
  refine call0 (RCheck_ok s hs) (by simp [SV, staC]) ?_
  rintro y H' ⟨rfl, rfl⟩
  by_cases hm : mayS s = true
  · obtain ⟨hr, hp, hh, htot⟩ := mayS_t hm
    simp [I, chkS, hm]
    refine call0 (Rsum_ok s hs (by omega) hp hh) (by simp [SV, staC]) ?_
    rintro y H' ⟨rfl, rfl⟩
    simp
    exact fin [] (by decide) rfl rfl rfl ⟨rfl, by simp [totS, hm]⟩
  · simp [I, chkS, hm]
    exact fin [] (by decide) rfl rfl rfl ⟨rfl, by simp [totS, hm]⟩
end Go.Proofs.YtflcfdeanneoeaaGreatDoor
