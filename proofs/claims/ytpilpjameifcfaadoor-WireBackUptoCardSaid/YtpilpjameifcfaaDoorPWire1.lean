import Derived.Test.YtpilpjameifcfaaDoorPEnc12
import Derived.Test.YtpilpjameifcfaaDoorPRT2
import Derived.Test.YtpilpjameifcfaaDoorPState1
namespace Go.Proofs.YtpilpjameifcfaaDoor
open Go Go.EW
set_option linter.unusedSimpArgs false
set_option linter.unusedVariables false
/- What is done to a state, messages: plain. -/

structure WOp where
  kind : Int
  am : Int
  id : Int
  pay : Pay
  sec : List UInt8
structure WMsg where
  kind : Int
  num : Int
  op : WOp
  lock : List UInt8
  sec : List UInt8
def wopC (o : WOp) : List EC := .fz (.lit (.int .i64 o.kind)) :: .fz (.lit (.int .i64 o.am)) :: .fz (.lit (.int .i64 o.id)) :: .fz (.lit (.int .i64 o.pay.id)) :: .fz (.lit (.int .i64 o.pay.fr)) :: .fz (.lit (.int .i64 o.pay.am)) :: .fz (.lit (.int .i64 o.pay.af)) :: (hc o.pay.lock ++ [.fz (.sl 1 (bsv o.sec))])
def WV (o : WOp) : EV := .v (.agg (wopC o))
def msgC (m : WMsg) : List EC := .fz (.lit (.int .i64 m.kind)) :: .fz (.lit (.int .i64 m.num)) :: (wopC m.op ++ (hc m.lock ++ [.fz (.sl 1 (bsv m.sec))]))
def MV (m : WMsg) : EV := .v (.agg (msgC m))
def WOp.ok (o : WOp) : Prop := i64 o.kind ∧ i64 o.am ∧ i64 o.id ∧ o.pay.ok ∧ o.sec.length ≤ 2000000
def WMsg.ok (m : WMsg) : Prop := i64 m.kind ∧ i64 m.num ∧ m.op.ok ∧ m.lock.length = 32 ∧ m.sec.length ≤ 2000000
def zOp : WOp := ⟨0, 0, 0, ⟨0, 0, 0, 0, hz⟩, []⟩
def zMsg : WMsg := ⟨0, 0, zOp, hz, []⟩
@[simp] theorem conAll_hca (H : Nat → Option EO) (ids : List Nat) (l : List UInt8) (r : List EC) : conAll H ids (hc l ++ r) = (conAll H ids r).map (hc l ++ ·) := by
  induction l with
  | nil => cases h : conAll H ids r <;> simp [hc, hf, h]
  | cons b t ih =>
    have e : hc (b :: t) = .fz (.lit (.int .u8 (b.toNat : Int))) :: hc t := rfl
    rw [e, List.cons_append]
    simp only [conAll, ih]
    cases h : conAll H ids r <;> simp [h]
theorem tk33 {x : List UInt8} (h : x.length = 32) (v : EC) (r : List EC) : List.take 33 (hc x ++ v :: r) = hc x ++ [v] := by
  have h1 : (hc x).length = 32 := by rw [hc_len, h]
  rw [List.take_append, h1, List.take_of_length_le (by omega)]
  rfl
theorem dr33 {x : List UInt8} (h : x.length = 32) (v : EC) (r : List EC) : List.drop 33 (hc x ++ v :: r) = r := by
  have h1 : (hc x).length = 32 := by rw [hc_len, h]
  rw [List.drop_append, h1, List.drop_eq_nil_of_le (by omega)]
  rfl
theorem zOp_ok : zOp.ok := by simp [zOp, WOp.ok, Pay.ok, i64, hz]
theorem zMsg_ok : zMsg.ok := ⟨by simp [zMsg, i64], by simp [zMsg, i64], zOp_ok, by simp [zMsg, hz], by simp [zMsg]⟩
def encO (o : WOp) : List UInt8 := intB o.kind ++ intB o.am ++ intB o.id ++ intB o.pay.id ++ intB o.pay.fr ++ intB o.pay.am ++ intB o.pay.af ++ o.pay.lock ++ bytesB o.sec
def encM (m : WMsg) : List UInt8 := intB m.kind ++ intB m.num ++ bytesB (encO m.op) ++ m.lock ++ bytesB m.sec
theorem intB_len9 {n : Int} (h : i64 n) : (intB n).length ≤ 9 := by
  obtain ⟨h0, h1⟩ := h
  unfold intB
  split
  · have := nb_8 (show (-n - 1).toNat < 18446744073709551616 by omega)
    rw [List.length_cons, List.length_map, dg_len]; omega
  · have := nb_8 (show n.toNat < 18446744073709551616 by omega); simp [dg_len]; omega
theorem bytesB_len (l : List UInt8) : (bytesB l).length ≤ 2 * l.length + 2 := by
  have := stuff_len l
  simp [bytesB]; omega
theorem encO_len {o : WOp} (h : o.ok) : (encO o).length ≤ 97 + 2 * o.sec.length := by
  obtain ⟨h1, h2, h3, ⟨h4, h5, h6, h7, h8⟩, h9⟩ := h
  have a1 := intB_len9 h1
  have a2 := intB_len9 h2
  have a3 := intB_len9 h3
  have a4 := intB_len9 h4
  have a5 := intB_len9 h5
  have a6 := intB_len9 h6
  have a7 := intB_len9 h7
  have a8 := bytesB_len o.sec
  simp only [encO, List.length_append]
  omega

/-! ### what bytes are read as -/
abbrev Rs := Nat × Nat
def tkI (l : List UInt8) (σ : Rs) : Rs × Int := ((σ.1 + (jS (l.drop σ.1) σ.2).2.2, (jS (l.drop σ.1) σ.2).1), (jS (l.drop σ.1) σ.2).2.1)
def tkY (l : List UInt8) (m : Int) (σ : Rs) : Rs × List UInt8 := ((σ.1 + (yS (l.drop σ.1) σ.2 m).2.2, (yS (l.drop σ.1) σ.2 m).1), (yS (l.drop σ.1) σ.2 m).2.1)
def tkH (l : List UInt8) (σ : Rs) : Rs × List UInt8 := ((σ.1 + (aS (l.drop σ.1) σ.2).2.2, (aS (l.drop σ.1) σ.2).1), (aS (l.drop σ.1) σ.2).2.1)
def rdO (l : List UInt8) : Rs × WOp :=
  let a := tkI l (0, 0); let b := tkI l a.1; let c := tkI l b.1; let d := tkI l c.1; let e := tkI l d.1; let f := tkI l e.1; let g := tkI l f.1; let h := tkH l g.1; let s := tkY l 64 h.1
  (s.1, ⟨a.2, b.2, c.2, ⟨d.2, e.2, f.2, g.2, h.2⟩, s.2⟩)
def decO (l : List UInt8) : WOp × Nat := if (rdO l).1.2 ≠ 0 ∨ (rdO l).1.1 < l.length then (zOp, 3) else ((rdO l).2, 0)
def rdM (l : List UInt8) : Rs × WMsg × Nat :=
  let a := tkI l (0, 0); let b := tkI l a.1; let x := tkY l 256 b.1; let h := tkH l x.1; let s := tkY l 64 h.1
  (s.1, ⟨a.2, b.2, (decO x.2).1, h.2, s.2⟩, (decO x.2).2)
def decM (l : List UInt8) : WMsg × Nat := if (rdM l).1.2 ≠ 0 ∨ (rdM l).1.1 < l.length ∨ (rdM l).2.2 ≠ 0 ∨ (rdM l).2.1.kind < 1 ∨ 5 < (rdM l).2.1.kind then (zMsg, 3) else ((rdM l).2.1, 0)

theorem intS_p (b : List UInt8) : (intS b).2.2 ≤ b.length ∧ -9223372036854775808 ≤ (intS b).2.1 ∧ (intS b).2.1 ≤ 9223372036854775807 := by
  have key : ∀ (r : List UInt8) (many : Nat) (mask : UInt8) (w : Bool), (if 8 < many then ((3 : Nat), (0 : Int), 0) else if (lowS r many mask).2 ≠ 0 then ((lowS r many mask).2, 0, 0) else if 9223372036854775807 < (lowS r many mask).1 then (4, 0, 0) else (0, if w then ((lowS r many mask).1 : Int) else -((lowS r many mask).1 : Int) - 1, 1 + many)).2.2 ≤ r.length + 1 ∧ -9223372036854775808 ≤ (if 8 < many then ((3 : Nat), (0 : Int), 0) else if (lowS r many mask).2 ≠ 0 then ((lowS r many mask).2, 0, 0) else if 9223372036854775807 < (lowS r many mask).1 then (4, 0, 0) else (0, if w then ((lowS r many mask).1 : Int) else -((lowS r many mask).1 : Int) - 1, 1 + many)).2.1 ∧ (if 8 < many then ((3 : Nat), (0 : Int), 0) else if (lowS r many mask).2 ≠ 0 then ((lowS r many mask).2, 0, 0) else if 9223372036854775807 < (lowS r many mask).1 then (4, 0, 0) else (0, if w then ((lowS r many mask).1 : Int) else -((lowS r many mask).1 : Int) - 1, 1 + many)).2.1 ≤ 9223372036854775807 := by
    intro r many mask w
    obtain ⟨q, hq⟩ : ∃ q, lowS r many mask = q := ⟨_, rfl⟩
    have h2 := low_len r many mask
    rw [hq] at h2 ⊢
    split
    · simp
    split
    · simp
    rename_i h8 h9
    have h3 := h2 (by omega)
    split
    · simp
    · cases w
      · simp; omega
      · simp; omega
  unfold intS
  split
  · simp
  rename_i c r
  have h := key r (if 128 ≤ c.toNat then c.toNat - 128 else 127 - c.toNat) (if 128 ≤ c.toNat then 0 else 255) (decide (128 ≤ c.toNat))
  simp only [decide_eq_true_eq] at h
  exact h
theorem tkI_p {l : List UInt8} {σ : Rs} (h : σ.1 ≤ l.length) : (tkI l σ).1.1 ≤ l.length ∧ i64 (tkI l σ).2 := by
  simp only [tkI, jS]
  split
  · exact ⟨by simpa using h, by simp [i64]⟩
  · have := intS_p (l.drop σ.1)
    rw [List.length_drop] at this
    exact ⟨by omega, this.2⟩
theorem tkH_p {l : List UInt8} {σ : Rs} (h : σ.1 ≤ l.length) : (tkH l σ).1.1 ≤ l.length ∧ (tkH l σ).2.length = 32 := by
  simp only [tkH, aS, hashS]
  split
  · exact ⟨by simpa using h, by simp [hz]⟩
  · split
    · exact ⟨by simpa using h, by simp [hz]⟩
    · rename_i h1 h2
      rw [List.length_drop] at h2
      exact ⟨by show σ.1 + 32 ≤ _; omega, by simp; omega⟩
theorem tkY_p {l : List UInt8} {m : Nat} {σ : Rs} (h : σ.1 ≤ l.length) : (tkY l m σ).1.1 ≤ l.length ∧ (tkY l m σ).2.length ≤ m := by
  simp only [tkY, yS, bytZ]
  split
  · exact ⟨by simpa using h, by simp⟩
  · rw [if_neg (by omega), Int.toNat_natCast]
    have := bytS_len (l.drop σ.1) m
    rw [List.length_drop] at this
    exact ⟨by omega, this.2.1⟩
theorem rdO_eq (l : List UInt8) : ∃ a b c d e f g h s, tkI l (0, 0) = a ∧ tkI l a.1 = b ∧ tkI l b.1 = c ∧ tkI l c.1 = d ∧ tkI l d.1 = e ∧ tkI l e.1 = f ∧ tkI l f.1 = g ∧ tkH l g.1 = h ∧ tkY l 64 h.1 = s ∧ rdO l = (s.1, ⟨a.2, b.2, c.2, ⟨d.2, e.2, f.2, g.2, h.2⟩, s.2⟩) :=
  ⟨_, _, _, _, _, _, _, _, _, rfl, rfl, rfl, rfl, rfl, rfl, rfl, rfl, rfl, rfl⟩
theorem rdM_eq (l : List UInt8) : ∃ a b x h s, tkI l (0, 0) = a ∧ tkI l a.1 = b ∧ tkY l 256 b.1 = x ∧ tkH l x.1 = h ∧ tkY l 64 h.1 = s ∧ rdM l = (s.1, ⟨a.2, b.2, (decO x.2).1, h.2, s.2⟩, (decO x.2).2) :=
  ⟨_, _, _, _, _, rfl, rfl, rfl, rfl, rfl, rfl⟩
theorem rdO_p (l : List UInt8) : (rdO l).1.1 ≤ l.length ∧ (rdO l).2.ok ∧ (rdO l).2.sec.length ≤ 64 := by
  obtain ⟨a, b, c, d, e, f, g, h, s, ha, hb, hc, hd, he, hf, hg, hh, hs, hr⟩ := rdO_eq l
  have pa := tkI_p (l := l) (σ := (0, 0)) (by simp)
  rw [ha] at pa
  have pb := tkI_p pa.1
  rw [hb] at pb
  have pc := tkI_p pb.1
  rw [hc] at pc
  have pd := tkI_p pc.1
  rw [hd] at pd
  have pe := tkI_p pd.1
  rw [he] at pe
  have pf := tkI_p pe.1
  rw [hf] at pf
  have pg := tkI_p pf.1
  rw [hg] at pg
  have ph := tkH_p pg.1
  rw [hh] at ph
  have ps := tkY_p (m := 64) ph.1
  rw [show ((64 : Nat) : Int) = 64 from rfl, hs] at ps
  rw [hr]
  exact ⟨ps.1, ⟨pa.2, pb.2, pc.2, ⟨pd.2, pe.2, pf.2, pg.2, ph.2⟩, Nat.le_trans ps.2 (by omega)⟩, ps.2⟩
theorem decO_p (l : List UInt8) : (decO l).1.ok ∧ (decO l).1.sec.length ≤ 64 := by
  have h := rdO_p l
  unfold decO
  split
  · exact ⟨zOp_ok, by simp [zOp]⟩
  · exact ⟨h.2.1, h.2.2⟩
theorem rdM_p (l : List UInt8) : (rdM l).1.1 ≤ l.length ∧ (rdM l).2.1.ok := by
  obtain ⟨a, b, x, h, s, ha, hb, hx, hh, hs, hr⟩ := rdM_eq l
  have pa := tkI_p (l := l) (σ := (0, 0)) (by simp)
  rw [ha] at pa
  have pb := tkI_p pa.1
  rw [hb] at pb
  have px := tkY_p (m := 256) pb.1
  rw [show ((256 : Nat) : Int) = 256 from rfl, hx] at px
  have ph := tkH_p px.1
  rw [hh] at ph
  have ps := tkY_p (m := 64) ph.1
  rw [show ((64 : Nat) : Int) = 64 from rfl, hs] at ps
  rw [hr]
  refine ⟨ps.1, ?_⟩
  have pd := (decO_p x.2).1
  obtain ⟨d, hd⟩ : ∃ d, (decO x.2).1 = d := ⟨_, rfl⟩
  rw [hd] at pd ⊢
  exact ⟨pa.2, pb.2, pd, ph.2, Nat.le_trans ps.2 (by omega)⟩
theorem decM_p (l : List UInt8) : (decM l).1.ok := by
  unfold decM
  split
  · exact zMsg_ok
  · exact (rdM_p l).2

/-! ### what is read is told by the same bytes again -/
def Rd (l : List UInt8) (σ : Rs) (b : List UInt8) (τ : Rs) : Prop := τ.2 = 0 → σ.2 = 0 ∧ l.drop σ.1 = b ++ l.drop τ.1
theorem Rd.comp {l a b : List UInt8} {σ τ ρ : Rs} (h1 : Rd l σ a τ) (h2 : Rd l τ b ρ) : Rd l σ (a ++ b) ρ := by
  intro h
  obtain ⟨q1, q2⟩ := h2 h
  obtain ⟨q3, q4⟩ := h1 q1
  exact ⟨q3, by rw [q4, q2, List.append_assoc]⟩
theorem tkI_rd (l : List UInt8) (σ : Rs) : Rd l σ (intB (tkI l σ).2) (tkI l σ).1 := by
  intro h
  simp only [tkI, jS] at h ⊢
  split at h
  · rename_i he; exact absurd h he
  rename_i he
  rw [if_neg he]
  have h1 := int_inv h
  refine ⟨by omega, ?_⟩
  rw [← List.drop_drop]
  exact h1.1
theorem tkH_rd (l : List UInt8) (σ : Rs) : Rd l σ (tkH l σ).2 (tkH l σ).1 := by
  intro h
  simp only [tkH, aS, hashS] at h ⊢
  split at h
  · rename_i he; exact absurd h he
  rename_i he
  rw [if_neg he]
  split at h
  · simp at h
  rename_i he3
  rw [if_neg he3]
  refine ⟨by omega, ?_⟩
  show _ = List.take 32 _ ++ l.drop (σ.1 + 32)
  rw [← List.drop_drop, List.take_append_drop]
theorem tkY_rd (l : List UInt8) (m : Nat) (σ : Rs) : Rd l σ (bytesB (tkY l m σ).2) (tkY l m σ).1 := by
  intro h
  simp only [tkY, yS, bytZ] at h ⊢
  split at h
  · rename_i he; exact absurd h he
  rename_i he
  rw [if_neg (by omega), Int.toNat_natCast] at h
  rw [if_neg he, if_neg (by omega), Int.toNat_natCast]
  have h1 := byt_inv _ (l.drop σ.1) m (Nat.le_refl _) h
  refine ⟨by omega, ?_⟩
  rw [← List.drop_drop]
  exact h1
theorem rdO_rd (l : List UInt8) : Rd l (0, 0) (encO (rdO l).2) (rdO l).1 := by
  obtain ⟨a, b, c, d, e, f, g, h, s, ha, hb, hc, hd, he, hf, hg, hh, hs, hr⟩ := rdO_eq l
  have pa := tkI_rd l (0, 0)
  rw [ha] at pa
  have pb := tkI_rd l a.1
  rw [hb] at pb
  have pc := tkI_rd l b.1
  rw [hc] at pc
  have pd := tkI_rd l c.1
  rw [hd] at pd
  have pe := tkI_rd l d.1
  rw [he] at pe
  have pf := tkI_rd l e.1
  rw [hf] at pf
  have pg := tkI_rd l f.1
  rw [hg] at pg
  have ph := tkH_rd l g.1
  rw [hh] at ph
  have ps := tkY_rd l 64 h.1
  rw [show ((64 : Nat) : Int) = 64 from rfl, hs] at ps
  rw [hr]
  exact (((((((pa.comp pb).comp pc).comp pd).comp pe).comp pf).comp pg).comp ph).comp ps
theorem decO_enc {l : List UInt8} (h : (decO l).2 = 0) : encO (decO l).1 = l := by
  unfold decO at h ⊢
  split at h
  · simp at h
  rename_i hn
  rw [if_neg hn]
  have h1 := rdO_p l
  have h2 := (rdO_rd l (by omega)).2
  rw [List.drop_eq_nil_of_le (i := (rdO l).1.1) (by omega), List.append_nil] at h2
  exact h2.symm

/-! ### what is laid is read again -/
theorem tkI_rt {l r : List UInt8} {p : Nat} {n : Int} (h : l.drop p = intB n ++ r) (hn : i64 n) : tkI l (p, 0) = ((p + (intB n).length, 0), n) ∧ l.drop (p + (intB n).length) = r := by
  have h1 := int_rt hn.1 hn.2 r
  refine ⟨by simp [tkI, jS, h, h1], ?_⟩
  rw [← List.drop_drop, h, List.drop_left]
theorem tkH_rt {l r b : List UInt8} {p : Nat} (h : l.drop p = b ++ r) (hb : b.length = 32) : tkH l (p, 0) = ((p + b.length, 0), b) ∧ l.drop (p + b.length) = r := by
  have h1 : hashS (b ++ r) = (0, b, 32) := by
    rw [hashS, if_neg (by rw [List.length_append]; omega), List.take_append_of_le_length (by omega), List.take_of_length_le (by omega)]
  refine ⟨by simp [tkH, aS, h, h1, hb], ?_⟩
  rw [← List.drop_drop, h, List.drop_left]
theorem tkY_rt {l r b : List UInt8} {p m : Nat} (h : l.drop p = bytesB b ++ r) (hb : b.length ≤ m) : tkY l m (p, 0) = ((p + (bytesB b).length, 0), b) ∧ l.drop (p + (bytesB b).length) = r := by
  have h1 : bytZ (bytesB b ++ r) (m : Int) = (0, b, (bytesB b).length) := by
    rw [bytZ, if_neg (by omega), Int.toNat_natCast]
    exact byt_rt b m r hb
  refine ⟨by simp [tkY, yS, h, h1], ?_⟩
  rw [← List.drop_drop, h, List.drop_left]
theorem decO_rt {o : WOp} (h : o.ok) (hs : o.sec.length ≤ 64) : decO (encO o) = (o, 0) := by
  obtain ⟨h1, h2, h3, ⟨h4, h5, h6, h7, h8⟩, h9⟩ := h
  obtain ⟨l, hl⟩ : ∃ l, encO o = l := ⟨_, rfl⟩
  have d0 : l.drop 0 = intB o.kind ++ (intB o.am ++ (intB o.id ++ (intB o.pay.id ++ (intB o.pay.fr ++ (intB o.pay.am ++ (intB o.pay.af ++ (o.pay.lock ++ (bytesB o.sec ++ [])))))))) := by
    rw [← hl]; simp [encO]
  obtain ⟨a1, a2⟩ := tkI_rt d0 h1
  obtain ⟨b1, b2⟩ := tkI_rt a2 h2
  obtain ⟨c1, c2⟩ := tkI_rt b2 h3
  obtain ⟨e1, e2⟩ := tkI_rt c2 h4
  obtain ⟨f1, f2⟩ := tkI_rt e2 h5
  obtain ⟨g1, g2⟩ := tkI_rt f2 h6
  obtain ⟨i1, i2⟩ := tkI_rt g2 h7
  obtain ⟨j1, j2⟩ := tkH_rt i2 h8
  obtain ⟨k1, k2⟩ := tkY_rt (m := 64) j2 hs
  have hr : rdO l = (((0 + (intB o.kind).length + (intB o.am).length + (intB o.id).length + (intB o.pay.id).length + (intB o.pay.fr).length + (intB o.pay.am).length + (intB o.pay.af).length + o.pay.lock.length + (bytesB o.sec).length), 0), o) := by
    simp only [rdO, a1, b1, c1, e1, f1, g1, i1, j1]
    have k1' : tkY l 64 _ = _ := k1
    rw [k1']
  rw [hl, decO, hr, if_neg]
  intro h
  rcases h with h | h
  · exact h rfl
  · have h10 := List.drop_eq_nil_iff.1 k2
    simp only at h
    omega
theorem decM_rt {m : WMsg} (h : m.ok) (hk : 1 ≤ m.kind ∧ m.kind ≤ 5) (hs : m.sec.length ≤ 64) (ho : m.op.sec.length ≤ 64) : decM (encM m) = (m, 0) := by
  obtain ⟨h1, h2, h3, h4, h5⟩ := h
  obtain ⟨l, hl⟩ : ∃ l, encM m = l := ⟨_, rfl⟩
  have d0 : l.drop 0 = intB m.kind ++ (intB m.num ++ (bytesB (encO m.op) ++ (m.lock ++ (bytesB m.sec ++ [])))) := by
    rw [← hl]; simp [encM]
  obtain ⟨a1, a2⟩ := tkI_rt d0 h1
  obtain ⟨b1, b2⟩ := tkI_rt a2 h2
  obtain ⟨c1, c2⟩ := tkY_rt (m := 256) b2 (by have := encO_len h3; omega)
  obtain ⟨e1, e2⟩ := tkH_rt c2 h4
  obtain ⟨f1, f2⟩ := tkY_rt (m := 64) e2 hs
  have hr : rdM l = (((0 + (intB m.kind).length + (intB m.num).length + (bytesB (encO m.op)).length + m.lock.length + (bytesB m.sec).length), 0), m, 0) := by
    have c1' : tkY l 256 _ = _ := c1
    have f1' : tkY l 64 _ = _ := f1
    simp only [rdM, a1, b1]
    rw [c1']
    simp only [e1]
    rw [f1', decO_rt h3 ho]
  rw [hl, decM, hr, if_neg]
  intro h
  have h10 := List.drop_eq_nil_iff.1 f2
  simp only at h
  rcases h with h | h | h | h | h
  · exact h rfl
  · omega
  · exact h rfl
  · omega
  · omega

end Go.Proofs.YtpilpjameifcfaaDoor
