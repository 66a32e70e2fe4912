import Derived.Test.YtddcceahaigodaaGreatDoorAll9
import Derived.Test.YtddcceahaigodaaGreatDoorAll13
import Derived.Test.YtddcceahaigodaaGreatDoorAll10
import Derived.Test.YtddcceahaigodaaGreatDoorAll12
import Derived.Test.YtddcceahaigodaaGreatDoorAll8
set_option maxHeartbeats 64000000
namespace Go.Proofs.YtddcceahaigodaaGreatDoor
open Go Go.EW
set_option linter.unusedSimpArgs false
set_option linter.unusedVariables false
def yld2 : UL | _ => [xW 0 1 28 0, xQ 1 2 (.alloc 38 (zU8 ++ [xZ, xZ, xZ, xZ, xZ, xZ]))]
def yld3 : UL | _ => [xF 6 9 36 1, xL 7 10 9, xF 8 11 37 1, xL 9 12 11, xQ 10 13 (.build (zU8 ++ [xZ, xZ, xZ, xZ, xZ, xZ]) [(0, 33, .t 4), (33, 1, .t 6), (34, 2, .t 8), (36, 1, .t 10), (37, 1, .t 12)]), xN 11 (.sto 38 (.t 2) (.t 13))]
def yld4 : UL | _ => xF 0 3 0 1 :: xD 1 4 33 3 :: xF 2 5 33 1 :: xL 3 6 5 :: xF 4 7 34 1 :: xD 5 8 2 7 :: hid yld3
def ybd5 : UB | _ => .seq (reg0 (hid yld2) 2) (.seq (reg0 (hid yld4) 12) .ret)
attribute [simp] yld2 yld3 yld4 ybd5
def c_giveP : EB × List QOp × Nat := ((hid ybd5), [(.lda 38 (.t 2))], 14)
theorem k_giveP : cfun Tryz.prog 9 = some c_giveP := by kernel_rfl
theorem pm_33 {p : Prm} (h : p.tx.length = 32) : (prmC p).take 33 = hc p.tx ++ [iC p.n] := by
 have e : (hc p.tx).length = 32 := by rw [hc_len, h]
 unfold prmC
 rw [List.take_append, e, List.tkL (by omega)]
 rfl
theorem pm_at {p : Prm} (h : p.tx.length = 32) (i : Nat) : (prmC p)[32 + i]? = [iC p.n, iC p.am, iC p.k0, iC p.k1, iC p.dl, iC p.fe][i]? := by
 have e : (hc p.tx).length = 32 := by rw [hc_len, h]
 unfold prmC
 rw [List.getElem?_append_right (by omega), e]
 congr 1
 omega
theorem list32 (l : List EC) (h : l.length = 32) : ∃ c0 c1 c2 c3 c4 c5 c6 c7 c8 c9 c10 c11 c12 c13 c14 c15 c16 c17 c18 c19 c20 c21 c22 c23 c24 c25 c26 c27 c28 c29 c30 c31, l = [c0, c1, c2, c3, c4, c5, c6, c7, c8, c9, c10, c11, c12, c13, c14, c15, c16, c17, c18, c19, c20, c21, c22, c23, c24, c25, c26, c27, c28, c29, c30, c31] := by
 match l, h with
 | [c0, c1, c2, c3, c4, c5, c6, c7, c8, c9, c10, c11, c12, c13, c14, c15, c16, c17, c18, c19, c20, c21, c22, c23, c24, c25, c26, c27, c28, c29, c30, c31], _ => exact ⟨c0, c1, c2, c3, c4, c5, c6, c7, c8, c9, c10, c11, c12, c13, c14, c15, c16, c17, c18, c19, c20, c21, c22, c23, c24, c25, c26, c27, c28, c29, c30, c31, rfl⟩
set_option maxRecDepth 8000 in
theorem giveP_ok (p : Prm) (hp : p.tx.length = 32) : ECalls Tryz.prog 9 [PVv p] [] fun y H' => H' = [] ∧ y = PVv p := by
 have h1 := prmC_len hp
 have h2 := pm_take hp
 have h3 := pm_d34 hp
 have h4 := pm_33 hp
 have e33 := idx_of (pm_at hp 1) (by omega)
 have e36 := idx_of (pm_at hp 4) (by omega)
 have e37 := idx_of (pm_at hp 5) (by omega)
 have e : (hc p.tx).length = 32 := by rw [hc_len, hp]
 refine ecalls k_giveP ?_
 simp [c_giveP, PVv, h1, h2, h3, h4, e33, e36, e37, e, hp, iC]
 obtain ⟨c0, c1, c2, c3, c4, c5, c6, c7, c8, c9, c10, c11, c12, c13, c14, c15, c16, c17, c18, c19, c20, c21, c22, c23, c24, c25, c26, c27, c28, c29, c30, c31, hX⟩ := list32 (hc p.tx) e
 have hP : prmC p = [c0, c1, c2, c3, c4, c5, c6, c7, c8, c9, c10, c11, c12, c13, c14, c15, c16, c17, c18, c19, c20, c21, c22, c23, c24, c25, c26, c27, c28, c29, c30, c31, iC p.n, iC p.am, iC p.k0, iC p.k1, iC p.dl, iC p.fe] := by unfold prmC; rw [hX]; rfl
 rw [hX]
 exact fin [] (by decide) (v := .v (.agg [c0, c1, c2, c3, c4, c5, c6, c7, c8, c9, c10, c11, c12, c13, c14, c15, c16, c17, c18, c19, c20, c21, c22, c23, c24, c25, c26, c27, c28, c29, c30, c31, iC p.n, iC p.am, iC p.k0, iC p.k1, iC p.dl, iC p.fe])) rfl (y := PVv p) (by rw [← hP]; simp [conR, conTs, conT, PVv]) rfl ⟨rfl, rfl⟩
def ylda : UL | _ => [xQ 0 5 (.bsr 102 34 (zU8 ++ [xZ, xZ]) 0 []), xM 1 6 0, xO 2 7 (.app 102 34 48 (.t 5) (.t 6)), xM 3 2 7]
def ybdb : UB | _ => .seq (reg0 [xQ 0 2 (.mov (.k xS))] 1) (.seq (.seq (reg0 [xM 0 3 0, xO 1 4 (.nild false (.t 3))] 2) (.cond (.t 4) (.seq (reg0 [xQ 0 2 (.mov (.k xS))] 1) .ret) .skip)) (.seq (reg0 (hid ylda) 4) .ret))
attribute [simp] ylda ybdb
def c_CloneCo : EB × List QOp × Nat := ((hid ybdb), [(.mov (.t 2))], 8)
theorem k_CloneCo : cfun Tryz.prog 72 = some c_CloneCo := by kernel_rfl
def yldg : UL | _ => [xQ 0 5 (.bsr 100 2 [xZ, xS] 0 []), xM 1 6 0, xO 2 7 (.app 100 2 32 (.t 5) (.t 6)), xM 3 2 7]
def ybdh : UB | _ => .seq (reg0 [xQ 0 2 (.mov (.k xS))] 1) (.seq (.seq (reg0 [xM 0 3 0, xO 1 4 (.nild false (.t 3))] 2) (.cond (.t 4) (.seq (reg0 [xQ 0 2 (.mov (.k xS))] 1) .ret) .skip)) (.seq (reg0 (hid yldg) 4) .ret))
attribute [simp] yldg ybdh
def c_CloneOu : EB × List QOp × Nat := ((hid ybdh), [(.mov (.t 2))], 8)
theorem k_CloneOu : cfun Tryz.prog 73 = some c_CloneOu := by kernel_rfl
def yldj : UL | _ => [xQ 6 9 (.build [xZ, xS] [(0, 1, .t 4), (1, 1, .t 8)]), xN 7 (.fz (.sto 2 (.t 2) (.t 9)))]
def yldk : UL | _ => xF 0 3 0 1 :: xL 1 4 3 :: xF 2 5 1 1 :: xD 3 6 1 5 :: xQ 4 7 (.build [xS] []) :: ⟨5, (some 8), none, (.call 101 [.t 6, .t 7]), [0, 1]⟩ :: hid yldj
def ybdl : UB | _ => .seq (reg0 [xW 0 1 100 0, xQ 1 2 (.alloc 100 [xZ, xS])] 2) (.seq (reg1 (hid yldk) 8) .ret)
attribute [simp] yldj yldk ybdl
def c_SOwnOut : EB × List QOp × Nat := ((hid ybdl), [(.lda 2 (.t 2))], 10)
theorem k_SOwnOut : cfun Tryz.prog 74 = some c_SOwnOut := by kernel_rfl
structure Coi where
 tx : List UInt8
 n : Int
 am : Int
structure Dea where
 p : Prm
 s : Sta
 i0 : List Coi
 i1 : List Coi
 o0 : List Outp
 o1 : List Outp
 r0 : Bool
 r1 : Bool
def coiF (c : Coi) : List FV := hf c.tx ++ [iF c.n, iF c.am]
def coiC (c : Coi) : List EC := hc c.tx ++ [iC c.n, iC c.am]
def coiv (l : List Coi) : List (List FV) := l.map coiF
def bC (b : Bool) : EC := .fz (.lit (.bool b))
def deaT (d : Dea) : List EC := [.fz (.sl 34 (coiv d.i0)), .fz (.sl 34 (coiv d.i1)), .fz (.sl 2 (outv d.o0)), .fz (.sl 2 (outv d.o1)), bC d.r0, bC d.r1]
def deaC (d : Dea) : List EC := prmC d.p ++ (staC d.s ++ deaT d)
def DV (d : Dea) : EV := .v (.agg (deaC d))
def Coi.ok (c : Coi) : Prop := c.tx.length = 32 ∧ i64 c.n ∧ i64 c.am
def Dea.ok (d : Dea) : Prop := d.p.ok ∧ d.s.ok ∧ (∀ c ∈ d.i0, c.ok) ∧ (∀ c ∈ d.i1, c.ok) ∧ (∀ o ∈ d.o0, o.ok) ∧ (∀ o ∈ d.o1, o.ok) ∧ d.i0.length ≤ 1000 ∧ d.i1.length ≤ 1000 ∧ d.o0.length ≤ 1000 ∧ d.o1.length ≤ 1000 ∧ (∀ o ∈ d.o0, o.cs.length ≤ 2000000) ∧ (∀ o ∈ d.o1, o.cs.length ≤ 2000000)
theorem coiF_fz (c : Coi) : (coiF c).map EC.fz = coiC c := by simp [coiF, coiC, iF, iC]
@[simp] theorem coiv_len (l : List Coi) : (coiv l).length = l.length := by simp [coiv]
theorem coiv_get {l : List Coi} {i : Nat} {c : Coi} (h : l[i]? = some c) : (coiv l)[i]? = some (coiF c) := by simp [coiv, h]
section
variable {L : List EC} (h : L.length = 38) (r : List EC)
include h
theorem pmT (k : Nat) : List.take (k + 38) (L ++ r) = L ++ List.take k r := by
 rw [List.take_append, List.tkL (by omega), h, Nat.add_sub_cancel]
theorem pmD (k : Nat) : List.drop (k + 38) (L ++ r) = List.drop k r := by
 rw [List.drop_append, List.drop_of_length_le (by omega), h, Nat.add_sub_cancel]; rfl
theorem pmG (k : Nat) : (L ++ r)[k + 38]? = r[k]? := by
 rw [List.getElem?_append_right (by omega), h, Nat.add_sub_cancel]
end
@[simp] theorem conAll_ap (H : Nat → Option EO) (ids : List Nat) : ∀ (a b : List EC), conAll H ids (a ++ b) = (conAll H ids a).bind fun x => (conAll H ids b).map (x ++ ·)
 | [], b => by simp [conAll]
 | c :: r, b => by
  simp only [List.cons_append, conAll, conAll_ap H ids r b]
  cases conC H ids c <;> simp
  cases conAll H ids r <;> simp
  cases conAll H ids b <;> simp
@[simp] theorem strAll_ap (ids : List Nat) : ∀ (a b : List EC), strAll ids (a ++ b) = (strAll ids a).bind fun x => (strAll ids b).map (x ++ ·)
 | [], b => by simp [strAll]
 | c :: r, b => by
  simp only [List.cons_append, strAll, strAll_ap ids r b]
  cases strC ids c <;> simp
  cases strAll ids r <;> simp
  cases strAll ids b <;> simp
def FzL (L : List EC) : Prop := ∀ c ∈ L, ∃ v, c = .fz (.lit v)
structure FzF (L : List EC) : Prop where
 ren : ∀ g, L.map (renC g) = L
 fz : ∀ o es xs, L.map (fzE o es xs) = L
 refs : L.flatMap refsC = []
 con : ∀ H ids, conAll H ids L = some L
 str : ∀ ids, strAll ids L = some L
 fzc : ∀ ids, L.flatMap (fzC ids) = []
theorem FzL.all : ∀ {L : List EC}, FzL L → FzF L
 | [], _ => by constructor <;> simp [conAll, strAll]
 | c :: r, h => by
  obtain ⟨v, rfl⟩ := h c (by simp)
  have ih := FzL.all (L := r) fun c hc => h c (by simp [hc])
  constructor
  ·intro g; rw [List.map_cons, ih.ren]; rfl
  ·intro o es xs; rw [List.map_cons, ih.fz]; rfl
  ·rw [List.flatMap_cons, ih.refs]; rfl
  ·intro H ids; simp only [conAll, ih.con]; rfl
  ·intro ids; simp only [strAll, ih.str]; rfl
  ·intro ids; rw [List.flatMap_cons, ih.fzc]; rfl
theorem fzL_hc (l : List UInt8) : FzL (hc l) := by
 intro c hc'
 simp only [hc, List.mem_map] at hc'
 obtain ⟨b, _, rfl⟩ := hc'
 exact ⟨_, rfl⟩
@[simp] theorem fzE_hc (o es : Nat) (xs : List (List FV)) (l : List UInt8) : (hc l).map (fzE o es xs) = hc l := (fzL_hc l).all.fz o es xs
theorem fzL_prm (p : Prm) : FzL (prmC p) := by
 intro c h
 unfold prmC at h
 rcases List.mem_append.1 h with h | h
 ·exact fzL_hc _ c h
 ·simp only [List.mem_cons, List.not_mem_nil, or_false] at h
  rcases h with rfl | rfl | rfl | rfl | rfl | rfl <;> exact ⟨_, rfl⟩
def deaF (d : Dea) : List FV := prmF d.p ++ ([iF d.s.num, iF d.s.h0, iF d.s.h1, .sl 36 (payv d.s.pays), .sl 3 (holv d.s.holds)] ++ [.sl 34 (coiv d.i0), .sl 34 (coiv d.i1), .sl 2 (outv d.o0), .sl 2 (outv d.o1), .lit (.bool d.r0), .lit (.bool d.r1)])
theorem deaF_fz (d : Dea) : (deaF d).map EC.fz = deaC d := by simp [deaF, deaC, deaT, staC, prmF_fz, iF, bC]
@[simp] theorem conAll_deaC (H : Nat → Option EO) (ids : List Nat) (p : Dea) : conAll H ids (deaC p) = some (deaC p) := by rw [← deaF_fz]; exact conAll_mp H ids _
@[simp] theorem strAll_deaC (ids : List Nat) (p : Dea) : strAll ids (deaC p) = some (deaC p) := by rw [← deaF_fz]; exact strAll_mp ids _
@[simp] theorem frzAll_deaC (p : Dea) : frzAll (deaC p) = some (deaF p) := by rw [← deaF_fz]; exact frzAll_mp _
@[simp] theorem refs_deaC (p : Dea) : (deaC p).flatMap refsC = [] := by rw [← deaF_fz]; exact refs_mp _
@[simp] theorem fz_deaC (ids : List Nat) (p : Dea) : (deaC p).flatMap (fzC ids) = [] := by rw [← deaF_fz]; exact fz_mp ids _
@[simp] theorem ren_deaC (g : Nat → Nat) (p : Dea) : (deaC p).map (renC g) = deaC p := by rw [← deaF_fz]; exact ren_mp g _
@[simp] theorem conAll_coiC (H : Nat → Option EO) (ids : List Nat) (p : Coi) : conAll H ids (coiC p) = some (coiC p) := by rw [← coiF_fz]; exact conAll_mp H ids _
@[simp] theorem strAll_coiC (ids : List Nat) (p : Coi) : strAll ids (coiC p) = some (coiC p) := by rw [← coiF_fz]; exact strAll_mp ids _
@[simp] theorem frzAll_coiC (p : Coi) : frzAll (coiC p) = some (coiF p) := by rw [← coiF_fz]; exact frzAll_mp _
@[simp] theorem refs_coiC (p : Coi) : (coiC p).flatMap refsC = [] := by rw [← coiF_fz]; exact refs_mp _
@[simp] theorem fz_coiC (ids : List Nat) (p : Coi) : (coiC p).flatMap (fzC ids) = [] := by rw [← coiF_fz]; exact fz_mp ids _
@[simp] theorem ren_coiC (g : Nat → Nat) (p : Coi) : (coiC p).map (renC g) = coiC p := by rw [← coiF_fz]; exact ren_mp g _
theorem deaC_len {d : Dea} (h : d.p.tx.length = 32) : (deaC d).length = 49 := by simp [deaC, prmC_len h, staC, deaT]
theorem CloneCo_ok (l : List Coi) (hn : l.length ≤ 100000000) : ECalls Tryz.prog 72 [.v (.c (.fz (.sl 34 (coiv l))))] [] fun y H' => H' = [some (.row 102 34 (coiv l))] ∧ y = .v (.c (.row 0 l.length)) := by
 refine ecalls k_CloneCo ?_
 simp [c_CloneCo]
 refine both (fun h => ?_) (fun _ => ?_)
 ·simp
  refine finW _ (weak_nilR 2 102 34 rfl (by omega)) ?_
  have hn : l = [] := by cases l <;> simp_all
  subst hn
  exact fin [64] (by decide) rfl rfl rfl ⟨by simp [coiv], by simp⟩
 ·simp
  exact ⟨by omega, fin [80] (by decide) rfl rfl rfl ⟨rfl, by simp⟩⟩
theorem CloneOu_ok (l : List Outp) (hn : l.length ≤ 100000000) : ECalls Tryz.prog 73 [.v (.c (.fz (.sl 2 (outv l))))] [] fun y H' => H' = [some (.row 100 2 (outv l))] ∧ y = .v (.c (.row 0 l.length)) := by
 refine ecalls k_CloneOu ?_
 simp [c_CloneOu]
 refine both (fun h => ?_) (fun _ => ?_)
 ·simp
  refine finW _ (weak_nilR 2 100 2 rfl (by omega)) ?_
  have hn : l = [] := by cases l <;> simp_all
  subst hn
  exact fin [64] (by decide) rfl rfl rfl ⟨by simp [outv], by simp⟩
 ·simp
  exact ⟨by omega, fin [80] (by decide) rfl rfl rfl ⟨rfl, by simp⟩⟩
theorem ecalls_nlF {P : Program} {f : FuncId} {e : Nat} {x : EV} {rest : List EV} {H : List EO} {post : EV → List (Option EO) → Prop} (h : ECalls P f (x :: .v (.agg [.fz (.sl e [])]) :: rest) H post) :
  ECalls P f (x :: .v (.agg [.fz (.lit (.slice none 0 0))]) :: rest) H post := by
 intro ρ Φ w vals r' ha
 refine h ρ Φ w vals r' ?_
 obtain ⟨u0, us0, rfl, h0, ha⟩ := ha.cons_left
 obtain ⟨u, us, rfl, h1, h2⟩ := ha.cons_left
 refine All2.cons h0 (All2.cons ?_ h2)
 obtain ⟨vs, rfl, hv⟩ := h1
 refine ⟨vs, rfl, by simpa using hv.1, ?_⟩
 intro i x y hx hy
 rcases i with _ | i
 ·have := hv.2 0 _ y rfl hy
  simp at hx; subst hx
  exact nl_vr this
 ·simp at hx
theorem SOwnOut_ok (o : Outp) (ho : o.ok) (hn : o.cs.length ≤ 2000000) : ECalls Tryz.prog 74 [.v (.agg (outC o))] [] fun y H' => H' = [] ∧ y = .v (.agg (outC o)) := by
 refine ecalls k_SOwnOut ?_
 simp [c_SOwnOut, outC, iC]
 have hO := POr_ok o.cs [] ho.2.1 (by simp) hn (by simp)
 rw [List.append_nil] at hO
 refine call0 (ecalls_nlF hO) (by simp [CNv]) ?_
 rintro y H' ⟨rfl, rfl⟩
 refine ⟨.inl (by simp [CNv]), le_ok rfl, ?_⟩
 simp [CNv]
 exact fin0
def yldm : UL | _ => [xW 0 1 49 0, xQ 1 2 (.alloc 49 (zU8 ++ [xZ, xZ, xZ, xZ, xZ, xZ, xZ, xZ, xZ, xS, xS, xS, xS, xS, xS, (.bool false), (.bool false)]))]
def yldn : UL | _ => [xN 6 (.fz (.sto 1 (.t 12) (.t 10)))]
def yldo : UL | _ => xF 0 7 38 1 :: xF 1 8 3 7 :: xL 2 9 8 :: xO 3 10 (.call 70 [.t 9]) :: xF 4 11 38 1 :: xF 5 12 3 11 :: hid yldn
def yldp : UL | _ => [xN 6 (.fz (.sto 1 (.t 18) (.t 16)))]
def yldq : UL | _ => xF 0 13 38 1 :: xF 1 14 4 13 :: xL 2 15 14 :: xO 3 16 (.call 71 [.t 15]) :: xF 4 17 38 1 :: xF 5 18 4 17 :: hid yldp
def yldu : UL | _ => [xI 12 38 3 28 29, xF 13 39 2 38, xN 14 (.fz (.sto 1 (.t 39) (.t 37)))]
def yldv : UL | _ => xL 6 32 31 :: xM 7 33 3 :: xI 8 34 3 32 33 :: xF 9 35 2 34 :: xL 10 36 35 :: ⟨11, (some 37), none, (.call 56 [.t 36]), [0, 1, 2, 3]⟩ :: hid yldu
def yldw : UL | _ => xF 0 26 38 1 :: xF 1 27 4 26 :: xL 2 28 27 :: xM 3 29 3 :: xF 4 30 38 1 :: xF 5 31 4 30 :: hid yldv
def ybdz : UB | _ => .seq (reg0 [xb 0 24 .lss 23 22] 1) (.seq (.cond (.t 24) .skip (.exit 0)) (.seq (.block 1 (.seq (reg0 [xM 0 25 23, xM 1 3 25] 2) (reg1 (hid yldw) 15))) (reg0 [xc 0 40 .add 23 1, xM 1 23 40] 2)))
def yle3 : UL | _ => [xF 6 50 43 1, xQ 7 51 (.iad 2 1 (.t 50) (.t 44)), xN 8 (.fz (.sto 1 (.t 51) (.t 49)))]
def yle4 : UL | _ => xM 0 44 4 :: xM 1 45 4 :: xF 2 46 43 1 :: xQ 3 47 (.iad 2 1 (.t 46) (.t 45)) :: xL 4 48 47 :: xO 5 49 (.call 72 [.t 48]) :: hid yle3
def yle5 : UL | _ => [xF 6 58 45 1, xQ 7 59 (.iad 2 1 (.t 58) (.t 52)), xN 8 (.fz (.sto 1 (.t 59) (.t 57)))]
def yle6 : UL | _ => xM 0 52 4 :: xM 1 53 4 :: xF 2 54 45 1 :: xQ 3 55 (.iad 2 1 (.t 54) (.t 53)) :: xL 4 56 55 :: xO 5 57 (.call 73 [.t 56]) :: hid yle5
def yle7 : UL | _ => [xM 0 60 4, xF 1 61 45 1, xQ 2 62 (.iad 2 1 (.t 61) (.t 60)), xL 3 63 62, xE 4 64 63, xC 5 65 0]
def yle9 : UL | _ => [xM 0 67 65, xI 1 68 2 63 65, xD 2 69 2 68, xQ 3 6 (.alloc 100 [xZ, xS]), xM 4 5 67, xN 5 (.fz (.sto 2 (.t 6) (.t 69)))]
def ylea : UL | _ => [⟨6, (some 76), none, (.call 74 [.t 75]), [0, 1, 2, 3, 4]⟩, xI 7 77 2 73 74, xN 8 (.fz (.sto 2 (.t 77) (.t 76)))]
def yleb : UL | _ => xM 0 70 4 :: xF 1 71 45 1 :: xQ 2 72 (.iad 2 1 (.t 71) (.t 70)) :: xL 3 73 72 :: xM 4 74 5 :: xD 5 75 2 6 :: hid ylea
def ybef : UB | _ => .seq (reg0 (hid yle6) 9) (.seq (reg0 (hid yle7) 6) (.block 4 (.loop (.seq (reg0 [xb 0 66 .lss 65 64] 1) (.seq (.cond (.t 66) .skip (.exit 4)) (.seq (.block 5 (.seq (reg0 (hid yle9) 6) (reg1 (hid yleb) 9))) (reg0 [xc 0 78 .add 65 1, xM 1 65 78] 2)))))))
def ybeg : UB | _ => .seq (reg0 [xM 0 43 41, xM 1 4 43] 2) (.seq (reg0 (hid yle4) 9) (hid ybef))
def ybei : UB | _ => .seq (.cond (.t 42) .skip (.exit 2)) (.seq (.block 3 (hid ybeg)) (reg0 [xc 0 79 .add 41 1, xM 1 41 79] 2))
def ybej : UB | _ => .seq (reg0 [xC 0 41 0] 1) (.block 2 (.loop (.seq (reg0 [xc 0 42 .lss 41 2] 1) (hid ybei))))
def ybel : UB | _ => .seq (.seq (reg0 [xF 0 19 38 1, xF 1 20 4 19, xL 2 21 20, xE 3 22 21, xC 4 23 0] 5) (.block 0 (.loop (hid ybdz)))) (.seq (hid ybej) (.seq (reg0 [xD 0 80 49 1, xN 1 (.fz (.sto 49 (.t 2) (.t 80)))] 2) .ret))
def ybem : UB | _ => .seq (reg0 (hid yldo) 7) (.seq (reg0 (hid yldq) 7) (hid ybel))
def yben : UB | _ => .seq (reg0 (hid yldm) 2) (hid ybem)
attribute [simp] yldm yldn yldo yldp yldq yldu yldv yldw ybdz yle3 yle4 yle5 yle6 yle7 yle9 ylea yleb ybef ybeg ybei ybej ybel ybem yben
def c_SOwn : EB × List QOp × Nat := ((hid yben), [(.lda 49 (.t 2))], 81)
theorem k_SOwn : cfun Tryz.prog 34 = some c_SOwn := by kernel_rfl
def zD0 : List EC := hc hz ++ [iC 0, iC 0, iC 0, iC 0, iC 0, iC 0, iC 0, iC 0, iC 0, .fz (.lit (.slice none 0 0)), .fz (.lit (.slice none 0 0)), .fz (.lit (.slice none 0 0)), .fz (.lit (.slice none 0 0)), .fz (.lit (.slice none 0 0)), .fz (.lit (.slice none 0 0)), .fz (.lit (.bool false)), .fz (.lit (.bool false))]
def ownL (L : List EC) (d : Dea) : Nat → List (Option EO)
 | 0 => [some (.box 49 (L ++ [iC d.s.num, iC d.s.h0, iC d.s.h1, .fz (.sl 36 (payv d.s.pays)), .fz (.sl 3 (holv d.s.holds)), .fz (.sl 34 (coiv d.i0)), .fz (.sl 34 (coiv d.i1)), .fz (.sl 2 (outv d.o0)), .fz (.sl 2 (outv d.o1)), .fz (.lit (.bool d.r0)), .fz (.lit (.bool d.r1))])), some (.box 49 zD0)]
 | 1 => [some (.box 49 (L ++ [iC d.s.num, iC d.s.h0, iC d.s.h1, .fz (.sl 36 (payv d.s.pays)), .fz (.sl 3 (holv d.s.holds)), .row 2 d.i0.length, .fz (.sl 34 (coiv d.i1)), .row 3 d.o0.length, .fz (.sl 2 (outv d.o1)), .fz (.lit (.bool d.r0)), .fz (.lit (.bool d.r1))])), some (.box 49 zD0), some (.row 102 34 (coiv d.i0)), some (.row 100 2 (outv d.o0))]
 | _ => [some (.box 49 (L ++ [iC d.s.num, iC d.s.h0, iC d.s.h1, .fz (.sl 36 (payv d.s.pays)), .fz (.sl 3 (holv d.s.holds)), .row 2 d.i0.length, .row 4 d.i1.length, .row 3 d.o0.length, .row 5 d.o1.length, .fz (.lit (.bool d.r0)), .fz (.lit (.bool d.r1))])), some (.box 49 zD0), some (.row 102 34 (coiv d.i0)), some (.row 100 2 (outv d.o0)), some (.row 102 34 (coiv d.i1)), some (.row 100 2 (outv d.o1))]
theorem out_set {l : List Outp} {i : Nat} {h : Outp} (hc : l[i]? = some h) : (outv l).set i (outF h) = outv l := by
 apply List.ext_getElem?
 intro j
 rw [List.getElem?_set]
 split
 ·rename_i e
  subst e
  split
  ·rw [outv_get hc]
  ·rename_i hn; exact absurd (by simpa using lt_len hc) hn
 ·rfl
set_option maxRecDepth 8000 in
theorem SOwn_ok (d : Dea) (hd : d.ok) : ECalls Tryz.prog 34 [DV d] [] fun y H' => H' = [some (.row 102 34 (coiv d.i0)), some (.row 102 34 (coiv d.i1)), some (.row 100 2 (outv d.o0)), some (.row 100 2 (outv d.o1))] ∧
  y = .v (.agg (prmC d.p ++ (staC d.s ++ [.row 0 d.i0.length, .row 1 d.i1.length, .row 2 d.o0.length, .row 3 d.o1.length, bC d.r0, bC d.r1]))) := by
 obtain ⟨hp, hs, hi0, hi1, ho0, ho1, n0, n1, m0, m1, k0, k1⟩ := id hd
 obtain ⟨ok1, ok2, ok3, ok4, ok5, ok6, ok7⟩ := id hs
 have lp := prmC_len hp.1
 have pT := pmT lp
 have pD := pmD lp
 have pG := pmG lp
 obtain ⟨f1, f2, f3, f4, f5, f6⟩ := (fzL_prm d.p).all
 refine ecalls k_SOwn ?_
 simp only [DV, deaC, deaT, staC, bC]
 generalize prmC d.p = L at lp pT pD pG f1 f2 f3 f4 f5 f6 ⊢
 simp [c_SOwn, lp, pT, pD, pG]
 refine call0 (cloneP_ok d.s.pays ok6) (by simp [PL]) ?_
 rintro y H' ⟨rfl, rfl⟩
 refine ⟨.inl (by simp), le_ok rfl, ?_⟩
 simp [lp, pT, pD, pG]
 refine call0 (cloneH_ok d.s.holds ok7) (by simp [HL]) ?_
 rintro y H' ⟨rfl, rfl⟩
 refine ⟨.inl (by simp), le_ok rfl, ?_⟩
 simp [lp, pT, pD, pG]
 refine loopW _ (weak_frz (o := 80) (ty := 117) (es := 36) (xs := payv d.s.pays) rfl) ?_
 refine eloop (α := Nat) (fun i => i ≤ d.s.holds.length) (fun i => d.s.holds.length - i)
  (fun i => [xA, Ptr 0, Ptr 1, xA, xA, xA, xA, xA, xA, xA, xA, xA, xA, xA, xA, xA, xA, xA, xA, xA, xA, xA, I .i64 d.s.holds.length, I .i64 i, xA, xA, xA, xA, xA, xA, xA, xA, xA, xA, xA, xA, xA, xA, xA, xA, xA, xA, xA, xA, xA, xA, xA, xA, xA, xA, xA, xA, xA, xA, xA, xA, xA, xA, xA, xA, xA, xA, xA, xA, xA, xA, xA, xA, xA, xA, xA, xA, xA, xA, xA, xA, xA, xA, xA, xA, .any]) (fun i => [some (.box 49 (L ++ [iC d.s.num, iC d.s.h0, iC d.s.h1, .fz (.sl 36 (payv d.s.pays)), .row 2 d.s.holds.length, .fz (.sl 34 (coiv d.i0)), .fz (.sl 34 (coiv d.i1)), .fz (.sl 2 (outv d.o0)), .fz (.sl 2 (outv d.o1)), .fz (.lit (.bool d.r0)), .fz (.lit (.bool d.r1))])), some (.box 49 zD0), some (.row 119 3 (holv d.s.holds))]) 0 [0, 16, 192]
  (Nat.zero_le _) (by simp [Ptr, I]) (by simp [zD0, iC, List.tkL, f1, f2, f3]) (by simp) (by simp) (by simp) ?_
 intro i hi
 simp [Ptr, I, zD0, iC, lp, pT, pD, pG]
 refine alt (fun hlt => ?_) (fun hlt => ?_)
 ·have hln : i < d.s.holds.length := by omega
  obtain ⟨p, hc⟩ : ∃ p, d.s.holds[i]? = some p := ⟨d.s.holds[i], by simp [hln]⟩
  have hpo := ok5 p (List.mgE hc)
  have hcb := holv_get hc
  have w2 := wS (i := i) (by omega)
  have hset := hol_set hc
  have hge : (holv d.s.holds)[i]'(by simp [hln]) = holF p := by
   have h := hcb
   rw [List.getElem?_eq_getElem (by simp [hln])] at h
   exact Option.some.inj h
  simp [hge, holF, hln, lp, pT, pD, pG]
  refine call0 (cloneI_ok p.keys hpo.2.2.2) (by simp [IL]) ?_
  rintro y H' ⟨rfl, rfl⟩
  refine ⟨.inl (by simp), le_ok rfl, ?_⟩
  have hset' : (holv d.s.holds).set i [.lit (.int .i64 p.id), .lit (.int .i64 p.am), .sl 1 (intv p.keys)] = holv d.s.holds := hset
  simp [hge, holF, hln, w2, lp, pT, pD, pG, -Int.natCast_add]
  exact round (i + 1) [0, 1, 2] (by omega) (by omega) (by simp [Ptr, I]) (by simp [zD0, iC, hset', List.tkL, f1, f2, f3]) (by simp) (by simp) (by simp)
 have hil : i = d.s.holds.length := by omega
 subst hil
 simp
 refine loopW _ (weak_frz (o := 2) (ty := 119) (es := 3) (xs := holv d.s.holds) rfl) ?_
 refine eloop (α := Nat) (fun i => i ≤ 2) (fun i => 2 - i)
  (fun i => [xA, Ptr 0, Ptr 1, xA, xA, xA, xA, xA, xA, xA, xA, xA, xA, xA, xA, xA, xA, xA, xA, xA, xA, xA, xA, xA, xA, xA, xA, xA, xA, xA, xA, xA, xA, xA, xA, xA, xA, xA, xA, xA, xA, I .i64 i, xA, xA, xA, xA, xA, xA, xA, xA, xA, xA, xA, xA, xA, xA, xA, xA, xA, xA, xA, xA, xA, xA, xA, xA, xA, xA, xA, xA, xA, xA, xA, xA, xA, xA, xA, xA, xA, xA, .any]) (ownL L d) 0 [0, 1]
  (by omega) (by simp [Ptr, I, ownL]) (by simp [ownL, zD0, iC, List.tkL, f1, f2, f3]) (by simp [ownL]) (by simp) (by simp [ownL]) ?_
 intro i hi
 match i, hi with
 | 0, _ =>
  simp [Ptr, I, ownL, zD0, iC, lp, pT, pD, pG]
  refine call0 (CloneCo_ok d.i0 (by omega)) (by simp) ?_
  rintro y H' ⟨rfl, rfl⟩
  refine ⟨.inl (by simp), le_ok rfl, ?_⟩
  simp [lp, pT, pD, pG]
  refine call0 (CloneOu_ok d.o0 (by omega)) (by simp) ?_
  rintro y H' ⟨rfl, rfl⟩
  refine ⟨.inl (by simp), le_ok rfl, ?_⟩
  simp [lp, pT, pD, pG]
  refine eloop (α := Nat) (fun k => k ≤ d.o0.length) (fun k => d.o0.length - k)
   (fun k => [xA, Ptr 0, Ptr 1, xA, I .i64 0, xA, xA, xA, xA, xA, xA, xA, xA, xA, xA, xA, xA, xA, xA, xA, xA, xA, xA, xA, xA, xA, xA, xA, xA, xA, xA, xA, xA, xA, xA, xA, xA, xA, xA, xA, xA, I .i64 0, xA, xA, xA, xA, xA, xA, xA, xA, xA, xA, xA, xA, xA, xA, xA, xA, xA, xA, xA, xA, xA, .v (.c (.row 3 d.o0.length)), I .i64 d.o0.length, I .i64 k, xA, xA, xA, xA, xA, xA, xA, xA, xA, xA, xA, xA, xA, xA, .any]) (fun _ => ownL L d 1) 0 [0, 1, 130, 274]
   (Nat.zero_le _) (by simp [Ptr, I, ownL]) (by simp [ownL, zD0, iC, List.tkL, f1, f2, f3]) (by simp [ownL]) (by simp) (by simp [ownL]) ?_
  intro k hk
  simp [Ptr, I, ownL, zD0, iC, lp, pT, pD, pG]
  refine alt (fun hlt => ?_) (fun hlt => ?_)
  ·have hln : k < d.o0.length := by omega
   obtain ⟨q, hc⟩ : ∃ q, d.o0[k]? = some q := ⟨d.o0[k], by simp [hln]⟩
   have hqo := ho0 q (List.mgE hc)
   have hqn := k0 q (List.mgE hc)
   have hcb := outv_get hc
   have w2 : IntKind.i64.wrap ((k : Int) + 1) = ((k + 1 : Nat) : Int) := wrap_i64 (by omega) (by omega)
   have hset := out_set hc
   have hge : (outv d.o0)[k]'(by simp [hln]) = outF q := by
    have h := hcb
    rw [List.getElem?_eq_getElem (by simp [hln])] at h
    exact Option.some.inj h
   have hset' : (outv d.o0).set k [.lit (.int .i64 q.am), .sl 35 (brav q.cs)] = outv d.o0 := hset
   simp [hge, outF, iF, hln, lp, pT, pD, pG]
   refine call0 (SOwnOut_ok q hqo hqn) (by simp [outC, iC]) ?_
   rintro y H' ⟨rfl, rfl⟩
   refine ⟨.inl (by simp [outC, iC]), le_ok rfl, ?_⟩
   simp [hge, outC, outF, iF, iC, hln, w2, lp, pT, pD, pG, -Int.natCast_add]
   exact round (k + 1) [0, 1, 2, 3] (by omega) (by omega) (by simp [Ptr, I, ownL]) (by simp [ownL, zD0, iC, hset', List.tkL, f1, f2, f3]) (by simp [ownL]) (by simp) (by simp [ownL])
  have hkl : k = d.o0.length := by omega
  subst hkl
  simp
  exact round 1 [0, 1, 2, 3] (by omega) (by omega) (by simp [Ptr, I, ownL, show IntKind.i64.wrap 1 = 1 from rfl]) (by simp [ownL, zD0, iC, List.tkL, f1, f2, f3]) (by simp [ownL]) (by simp) (by simp [ownL])
 | 1, _ =>
  simp [Ptr, I, ownL, zD0, iC, lp, pT, pD, pG]
  refine call0 (CloneCo_ok d.i1 (by omega)) (by simp) ?_
  rintro y H' ⟨rfl, rfl⟩
  refine ⟨.inl (by simp), le_ok rfl, ?_⟩
  simp [lp, pT, pD, pG]
  refine call0 (CloneOu_ok d.o1 (by omega)) (by simp) ?_
  rintro y H' ⟨rfl, rfl⟩
  refine ⟨.inl (by simp), le_ok rfl, ?_⟩
  simp [lp, pT, pD, pG]
  refine eloop (α := Nat) (fun k => k ≤ d.o1.length) (fun k => d.o1.length - k)
   (fun k => [xA, Ptr 0, Ptr 1, xA, I .i64 1, xA, xA, xA, xA, xA, xA, xA, xA, xA, xA, xA, xA, xA, xA, xA, xA, xA, xA, xA, xA, xA, xA, xA, xA, xA, xA, xA, xA, xA, xA, xA, xA, xA, xA, xA, xA, I .i64 1, xA, xA, xA, xA, xA, xA, xA, xA, xA, xA, xA, xA, xA, xA, xA, xA, xA, xA, xA, xA, xA, .v (.c (.row 5 d.o1.length)), I .i64 d.o1.length, I .i64 k, xA, xA, xA, xA, xA, xA, xA, xA, xA, xA, xA, xA, xA, xA, .any]) (fun _ => ownL L d 2) 0 [0, 1, 2, 3, 132, 276]
   (Nat.zero_le _) (by simp [Ptr, I, ownL]) (by simp [ownL, zD0, iC, List.tkL, f1, f2, f3]) (by simp [ownL]) (by simp) (by simp [ownL]) ?_
  intro k hk
  simp [Ptr, I, ownL, zD0, iC, lp, pT, pD, pG]
  refine alt (fun hlt => ?_) (fun hlt => ?_)
  ·have hln : k < d.o1.length := by omega
   obtain ⟨q, hc⟩ : ∃ q, d.o1[k]? = some q := ⟨d.o1[k], by simp [hln]⟩
   have hqo := ho1 q (List.mgE hc)
   have hqn := k1 q (List.mgE hc)
   have hcb := outv_get hc
   have w2 : IntKind.i64.wrap ((k : Int) + 1) = ((k + 1 : Nat) : Int) := wrap_i64 (by omega) (by omega)
   have hset := out_set hc
   have hge : (outv d.o1)[k]'(by simp [hln]) = outF q := by
    have h := hcb
    rw [List.getElem?_eq_getElem (by simp [hln])] at h
    exact Option.some.inj h
   have hset' : (outv d.o1).set k [.lit (.int .i64 q.am), .sl 35 (brav q.cs)] = outv d.o1 := hset
   simp [hge, outF, iF, hln, lp, pT, pD, pG]
   refine call0 (SOwnOut_ok q hqo hqn) (by simp [outC, iC]) ?_
   rintro y H' ⟨rfl, rfl⟩
   refine ⟨.inl (by simp [outC, iC]), le_ok rfl, ?_⟩
   simp [hge, outC, outF, iF, iC, hln, w2, lp, pT, pD, pG, -Int.natCast_add]
   exact round (k + 1) [0, 1, 2, 3, 4, 5] (by omega) (by omega) (by simp [Ptr, I, ownL]) (by simp [ownL, zD0, iC, hset', List.tkL, f1, f2, f3]) (by simp [ownL]) (by simp) (by simp [ownL])
  have hkl : k = d.o1.length := by omega
  subst hkl
  simp
  exact round 2 [0, 1, 2, 3, 4, 5] (by omega) (by omega) (by simp [Ptr, I, ownL, show IntKind.i64.wrap 2 = 2 from rfl]) (by simp [ownL, zD0, iC, List.tkL, f1, f2, f3]) (by simp [ownL]) (by simp) (by simp [ownL])
 | 2, _ =>
  have z49 : List.drop 49 zD0 = [] := rfl
  simp only [zD0, iC] at z49
  simp [Ptr, I, ownL, zD0, iC, lp, pT, pD, pG, z49]
  refine fin [2, 4, 3, 5] (v := .v (.agg (L ++ [iC d.s.num, iC d.s.h0, iC d.s.h1, .fz (.sl 36 (payv d.s.pays)), .fz (.sl 3 (holv d.s.holds)), .row 2 d.i0.length, .row 4 d.i1.length, .row 3 d.o0.length, .row 5 d.o1.length, .fz (.lit (.bool d.r0)), .fz (.lit (.bool d.r1))]))) (y := .v (.agg (L ++ [iC d.s.num, iC d.s.h0, iC d.s.h1, .fz (.sl 36 (payv d.s.pays)), .fz (.sl 3 (holv d.s.holds)), .row 0 d.i0.length, .row 1 d.i1.length, .row 2 d.o0.length, .row 3 d.o1.length, .fz (.lit (.bool d.r0)), .fz (.lit (.bool d.r1))]))) (by decide) (by simp [resV, evT, iC, lp, pT, pD, pG]) (by simp [conR, conT, conAll_ap, conAll, conC, iC, f4]) rfl ⟨rfl, by simp [iC]⟩
def ybet : UB | _ => .seq (reg0 [xW 0 1 42 0, xQ 1 2 (.mov (.k .nilIface))] 2) (.seq (.seq (reg0 [xD 0 3 5 1, xO 1 4 (.call 95 [.t 3]), xQ 2 5 (.un .not (.t 4))] 3) (.cond (.t 5) (.seq (reg0 [xQ 0 6 (.mki 121 (xK 1)), xM 1 2 6] 2) .ret) .skip)) (.seq (reg0 [xQ 0 2 (.mov (.k .nilIface))] 1) .ret))
attribute [simp] ybet
def c_SCheck : EB × List QOp × Nat := ((hid ybet), [(.mov (.t 2))], 7)
theorem k_SCheck : cfun Tryz.prog 52 = some c_SCheck := by kernel_rfl
theorem SCheck_ok (s : Sta) (hs : s.ok) : ECalls Tryz.prog 52 [SV s] [] fun y H' => H' = [] ∧ y = .lit (if mayS s then .nilIface else errV 1) := by
 refine ecalls k_SCheck ?_
 simp [c_SCheck, SV, staC]
 refine call0 (Smay_ok s hs) (by simp [Ptr, I, EV.lit, SV, staC, SE]) ?_
 rintro y H' ⟨rfl, rfl⟩
 refine ⟨.inl (by simp [Ptr, I, EV.lit, SV, staC, SE]), le_ok rfl, ?_⟩
 simp [Ptr, I, EV.lit, SV, staC, SE]
 cases hm : mayS s
 ·simp
  exact fin0
 ·simp
  exact fin0
def ybev : UB | _ => reg0 [xW 0 1 169 0, xQ 1 2 (.alloc 97 [xS])] 2
def ylew : UL | _ => [xD 0 3 35 1, xO 1 4 (.fz (.q (.bsl 35 (([xS] : List Value) ++ zU8 ++ [xZ, xZ]) 1 [(0, .t 3)]))), xQ 2 5 (.build [xS] [(0, 1, .t 4)]), xN 3 (.fz (.sto 1 (.t 2) (.t 5)))]
def ybex : UB | _ => reg0 (hid ylew) 4
def yley : UL | _ => [xW 0 1 179 0, xQ 1 2 (.alloc 169 (([xS] : List Value) ++ zU8 ++ [xZ, xZ]))]
def ybez : UB | _ => reg0 (hid yley) 2
def ylf0 : UL | _ => [xL 6 9 8, xQ 7 10 (.bsl 1 [xZ] 1 [(0, .t 9)]), xF 8 11 44 1, xD 9 12 32 11, xQ 10 13 (.build (([xS] : List Value) ++ zU8 ++ [xZ, xZ]) [(0, 1, .t 10), (1, 32, .t 12)]), xN 11 (.fz (.sto 35 (.t 2) (.t 13)))]
def ylf1 : UL | _ => xF 0 3 43 1 :: xL 1 4 3 :: xQ 2 5 (.bin .sub (xK 1) (.t 4)) :: xF 3 6 0 1 :: xF 4 7 34 6 :: xQ 5 8 (.iad 2 1 (.t 7) (.t 5)) :: hid ylf0
def ybf3 : UB | _ => reg0 [xW 0 2 179 0, xC 1 4 0] 2
def ybf5 : UB | _ => reg0 [xM 0 5 1, xF 1 6 43 2, xL 2 7 6, xb 3 8 .eql 5 7] 4
def ybf7 : UB | _ => reg0 [xF 0 9 0 2, xF 1 10 36 9, xL 2 11 10, xM 3 4 11] 4
def ybf9 : UB | _ => reg0 [xC 0 4 0] 1
def ybfb : UB | _ => reg0 [xW 0 2 179 0, xW 1 3 117 1, xQ 2 4 (.alloc 97 [xS])] 3
def ylfc : UL | _ => [⟨11, (some 16), none, (.call 159 [.t 15]), [12]⟩, xO 13 18 (.call 160 [.t 17]), xO 14 19 (.call 159 [.t 18]), xO 15 20 (.call 101 [.t 16, .t 19]), xN 16 (.fz (.sto 1 (.t 4) (.t 20)))]
def ylfd : UL | _ => xQ 6 11 (.bsl 1 [xZ] 1 [(0, .t 10)]) :: xF 7 12 0 2 :: xF 8 13 36 12 :: xL 9 14 13 :: xQ 10 15 (.build (([xS] : List Value) ++ zU8 ++ [xZ, xZ]) [(0, 1, .t 11), (34, 1, .t 14)]) :: xD 12 17 76 2 :: hid ylfc
def ybff : UB | _ => reg0 [xW 0 2 179 0, xW 1 3 117 1, xQ 2 4 (.alloc 97 [xS])] 3
def ylfg : UL | _ => [xL 6 11 10, xQ 7 12 (.bsl 1 [xZ] 1 [(0, .t 11)]), xO 8 13 (.call 26 [.t 12]), xN 9 (.fz (.sto 1 (.t 4) (.t 13)))]
def ylfh : UL | _ => xF 0 5 43 2 :: xL 1 6 5 :: xQ 2 7 (.bin .sub (xK 1) (.t 6)) :: xF 3 8 0 2 :: xF 4 9 34 8 :: xQ 5 10 (.iad 2 1 (.t 9) (.t 7)) :: hid ylfg
def ybfj : UB | _ => reg0 [xW 0 2 179 0, xW 1 3 117 1, xQ 2 4 (.alloc 97 [xS])] 3
def ylfk : UL | _ => [xF 0 8 1 3, xL 1 9 8, xQ 2 10 (.bin .sub (xK 1) (.t 9)), xM 3 5 10]
def ybfl : UB | _ => reg0 (hid ylfk) 4
def ylfm : UL | _ => [xQ 11 22 (.build (([xS] : List Value) ++ zU8 ++ [xZ, xZ]) [(0, 1, .t 16), (1, 32, .t 18), (34, 1, .t 21)]), xN 13 (.fz (.sto 35 (.t 6) (.t 22)))]
def ylfn : UL | _ => xF 6 17 4 3 :: xD 7 18 32 17 :: xD 8 19 76 2 :: xM 9 20 5 :: xQ 12 6 (.alloc 169 (([xS] : List Value) ++ zU8 ++ [xZ, xZ])) :: ⟨10, (some 21), none, (.call 161 [.t 19, .t 20]), [0, 1, 2, 3, 4, 5, 6, 7, 12]⟩ :: hid ylfm
def ylfo : UL | _ => [xQ 14 7 (.alloc 169 (([xS] : List Value) ++ zU8 ++ [xZ, xZ])), ⟨12, (some 35), none, (.call 161 [.t 32, .t 34]), [0, 1, 2, 3, 4, 5, 6, 7, 8, 14]⟩, xQ 13 36 (.build (([xS] : List Value) ++ zU8 ++ [xZ, xZ]) [(0, 1, .t 29), (33, 1, .t 31), (34, 1, .t 35)]), xN 15 (.fz (.sto 35 (.t 7) (.t 36)))]
def ylfp : UL | _ => xQ 6 29 (.bsl 1 [xZ] 1 [(0, .t 28)]) :: xF 7 30 3 3 :: xL 8 31 30 :: xD 9 32 76 2 :: xF 10 33 1 3 :: xL 11 34 33 :: hid ylfo
def ylfq : UL | _ => [xN 6 (.fz (.sto 1 (.t 4) (.t 42)))]
def ylfr : UL | _ => xD 0 37 35 6 :: xD 1 38 35 7 :: xD 2 39 76 2 :: ⟨3, (some 40), none, (.call 160 [.t 39]), [0, 1]⟩ :: xO 4 41 (.fz (.q (.bsl 35 (([xS] : List Value) ++ zU8 ++ [xZ, xZ]) 3 [(0, .t 37), (1, .t 38), (2, .t 40)]))) :: xQ 5 42 (.build [xS] [(0, 1, .t 41)]) :: hid ylfq
def ybft : UB | _ => reg0 [xW 0 3 38 0, xW 1 4 42 1, xC 2 6 0] 3
def ybfv : UB | _ => reg0 [xM 0 7 2, xc 1 8 .eql 7 0] 2
def ylfw : UL | _ => [xM 6 6 14]
def ylfx : UL | _ => xF 0 9 1 4 :: xQ 1 10 (.iad 2 1 (.t 9) (xK 0)) :: xL 2 11 10 :: xF 3 12 37 3 :: xL 4 13 12 :: xb 5 14 .sub 11 13 :: hid ylfw
def ylfy : UL | _ => [xF 0 15 1 4, xQ 1 16 (.iad 2 1 (.t 15) (xK 1)), xL 2 17 16, xM 3 6 17]
def ybfz : UB | _ => reg0 (hid ylfy) 4
attribute [simp] ybev ylew ybex yley ybez ylf0 ylf1 ybf3 ybf5 ybf7 ybf9 ybfb ylfc ylfd ybff ylfg ylfh ybfj ylfk ybfl ylfm ylfn ylfo ylfp ylfq ylfr ybft ybfv ylfw ylfx ylfy ybfz
def mkC (p : Prm) (s : Sta) (o : Int) (lock : List UInt8) : List EC := prmC p ++ (staC s ++ (iC o :: hc lock))
def mkF (p : Prm) (s : Sta) (o : Int) (lock : List UInt8) : List FV := prmF p ++ ([.lit (.int .i64 s.num), .lit (.int .i64 s.h0), .lit (.int .i64 s.h1), .sl 36 (payv s.pays), .sl 3 (holv s.holds)] ++ (iF o :: hf lock))
theorem mkF_fz (p : Prm) (s : Sta) (o : Int) (lock : List UInt8) : (mkF p s o lock).map EC.fz = mkC p s o lock := by simp [mkF, mkC, prmF_fz, staC, iF, iC]
@[simp] theorem conAll_mkC (H : Nat → Option EO) (ids : List Nat) (p : Prm) (s : Sta) (o : Int) (l : List UInt8) : conAll H ids (mkC p s o l) = some (mkC p s o l) := by rw [← mkF_fz]; exact conAll_mp H ids _
@[simp] theorem strAll_mkC (ids : List Nat) (p : Prm) (s : Sta) (o : Int) (l : List UInt8) : strAll ids (mkC p s o l) = some (mkC p s o l) := by rw [← mkF_fz]; exact strAll_mp ids _
@[simp] theorem refs_mkC (p : Prm) (s : Sta) (o : Int) (l : List UInt8) : (mkC p s o l).flatMap refsC = [] := by rw [← mkF_fz]; exact refs_mp _
@[simp] theorem fz_mkC (ids : List Nat) (p : Prm) (s : Sta) (o : Int) (l : List UInt8) : (mkC p s o l).flatMap (fzC ids) = [] := by rw [← mkF_fz]; exact fz_mp ids _
@[simp] theorem ren_mkC (g : Nat → Nat) (p : Prm) (s : Sta) (o : Int) (l : List UInt8) : (mkC p s o l).map (renC g) = mkC p s o l := by rw [← mkF_fz]; exact ren_mp g _
section
variable {p : Prm} {lock : List UInt8} (h : p.tx.length = 32) (hl : lock.length = 32) (s : Sta) (o : Int)
include h
include hl
end
def keyO (p : Prm) (o : Int) : Int := if o = 0 then p.k0 else p.k1
def fineB (p : Prm) (o : Int) (lock : List UInt8) : Bra := ⟨[keyO p (1 - o)], lock, 0, 0⟩
def waitV (p : Prm) (o who : Int) : Int := if who = o then p.dl else 0
def paidB (p : Prm) (o : Int) (lock : List UInt8) (x : Pay) : List Bra := [⟨[keyO p (1 - x.fr)], x.lock, 0, waitV p o (1 - x.fr)⟩, ⟨[keyO p x.fr], hz, x.af, waitV p o x.fr⟩, fineB p o lock]
theorem take34l {l : List UInt8} (h : l.length = 32) (a b : EC) : List.take 34 (hc l ++ [a, b]) = hc l ++ [a, b] := List.tkL (by simp [h])
theorem drop34h (a b : EC) : List.drop 34 (hc hz ++ [a, b]) = [] := by rw [List.drop_eq_nil_iff]; simp [hz]
theorem rows_mp : ∀ l : List FV, (l.map EC.fz).flatMap rowsE = []
 | [] => rfl
 | a :: r => by simp only [List.map_cons, List.flatMap_cons, rows_mp r]; rfl
theorem fzM_mp (H : Nat → Option EO) (d : List Nat) : ∀ l : List FV, (l.map EC.fz).map (fzM H d) = l.map EC.fz
 | [] => rfl
 | a :: r => by rw [List.map_cons, List.map_cons, fzM_mp H d r]; rfl
@[simp] theorem rows_braC (b : Bra) : (braC b).flatMap rowsE = [] := by rw [← braF_fz]; exact rows_mp _
@[simp] theorem fzM_braC (H : Nat → Option EO) (d : List Nat) (b : Bra) : (braC b).map (fzM H d) = braC b := by rw [← braF_fz]; exact fzM_mp H d _
@[simp] theorem rows_mkC (p : Prm) (s : Sta) (o : Int) (l : List UInt8) : (mkC p s o l).flatMap rowsE = [] := by rw [← mkF_fz]; exact rows_mp _
@[simp] theorem fzM_mkC (H : Nat → Option EO) (d : List Nat) (p : Prm) (s : Sta) (o : Int) (l : List UInt8) : (mkC p s o l).map (fzM H d) = mkC p s o l := by rw [← mkF_fz]; exact fzM_mp H d _
theorem w_0 : IntKind.i64.wrap 0 = 0 := by decide +kernel
theorem w_1 : IntKind.i64.wrap 1 = 1 := by decide +kernel
theorem hz_len : hz.length = 32 := rfl
def ybg1 : UB | _ => reg0 [xW 0 8 117 1] 1
def ybg3 : UB | _ => reg0 [xM 0 11 2, xc 1 12 .geq 11 10] 2
def ylg4 : UL | _ => [xQ 6 19 (.build [xZ, xS] [(0, 1, .t 14), (1, 1, .t 18)]), ⟨7, (some 20), none, (.fz (.q (.bsl 2 [xZ, xS] 1 [(0, .t 19)]))), [0]⟩, xO 8 21 (.app 100 2 32 (.t 13) (.t 20)), xN 9 (.fz (.sto 1 (.t 4) (.t 21)))]
def ylg5 : UL | _ => xL 0 13 4 :: xM 1 14 2 :: xM 2 15 3 :: xD 3 16 76 5 :: xD 4 17 36 8 :: ⟨5, (some 18), none, (.clo (.t 15) [.t 16, .t 17]), [0, 1]⟩ :: hid ylg4
def ylg6 : UL | _ => [xO 6 28 (.app 238 2 16 (.t 22) (.t 27)), xN 7 (.fz (.sto 1 (.t 6) (.t 28)))]
def ylg7 : UL | _ => xL 0 22 6 :: xM 1 23 0 :: xF 2 24 0 8 :: xL 3 25 24 :: xQ 4 26 (.build [xZ, xZ] [(0, 1, .t 23), (1, 1, .t 25)]) :: xQ 5 27 (.bsl 2 [xZ, xZ] 1 [(0, .t 26)]) :: hid ylg6
attribute [simp] ybg1 ybg3 ylg4 ylg5 ylg6 ylg7
def plcF (q : Int × Int) : List FV := [iF q.1, iF q.2]
def plcv (l : List (Int × Int)) : List (List FV) := l.map plcF
@[simp] theorem plcv_len (l : List (Int × Int)) : (plcv l).length = l.length := by simp [plcv]
def hasP (p : Prm) (s : Sta) (who : Int) : Int := if who = 0 then s.h0 - p.fe else s.h1
@[simp] theorem rows_payC (x : Pay) : (payC x).flatMap rowsE = [] := by rw [← payF_fz]; exact rows_mp _
@[simp] theorem fzM_payC (H : Nat → Option EO) (d : List Nat) (x : Pay) : (payC x).map (fzM H d) = payC x := by rw [← payF_fz]; exact fzM_mp H d _
end Go.Proofs.YtddcceahaigodaaGreatDoor
