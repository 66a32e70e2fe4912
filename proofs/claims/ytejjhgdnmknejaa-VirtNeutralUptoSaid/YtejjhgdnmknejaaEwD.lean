/- Quiet E-operations: the model's operations come to the terms' values (first part: no memory is made). -/
import Derived.Test.YtejjhgdnmknejaaEwC
import Derived.Laws.Small
import Derived.Laws.Cover1
namespace Go.EW
open Go

def addO (H : Nat → Option EO) (id : Nat) : Option EO → Nat → Option EO
  | none => H
  | some x => upd H id (some x)

section
variable {P : Program} {o : Oper} {w0 : World} {m : Nat} {ρ0 : Nat → Value} {Φ0 : Nat → Prop} {H : Nat → Option EO} {X : Cx} {T : List EV} {a : Act} {id : Nat}

def Good (P : Program) (o : Oper) (a : Act) (w0 : World) (m : Nat) (ρ0 : Nat → Value) (Φ0 : Nat → Prop) (H : Nat → Option EO) (X : Cx) (id : Nat) (v : EV) (ob : Option EO) : Prop :=
  ∃ val X', (execOp a.eval o).run P X.w = .ok (.value val) X'.w ∧ Rel w0 m ρ0 Φ0 (addO H id ob) X' ∧ Later X X' ∧ (∀ i, X'.U i ↔ X.U i ∨ (i = id ∧ ob.isSome = true)) ∧ VV X' v val

theorem Good.pure {v : EV} {val : Value} (r : Rel w0 m ρ0 Φ0 H X) (h : (execOp a.eval o).run P X.w = .ok (.value val) X.w) (hv : VV X v val) : Good P o a w0 m ρ0 Φ0 H X id v none :=
  ⟨val, X, h, r, Later.refl X, by simp, hv⟩

theorem bind_some' {α β : Type} {x : Option α} {f : α → Option β} {b : β} (h : x.bind f = some b) : ∃ a, x = some a ∧ f a = some b := Option.bind_eq_some_iff.1 h
theorem map_some' {α β : Type} {x : Option α} {f : α → β} {b : β} (h : x.map f = some b) : ∃ a, x = some a ∧ f a = b := Option.map_eq_some_iff.1 h

theorem VV_mklit {v : Value} (h : v.oneCell' = true) : VV X (.lit v) v := FR.lit v h

theorem g_mov {x : Operand} (ho : o.op = .move x ∨ o.op = .assign x) (r : Rel w0 m ρ0 Φ0 H X) (ha : All2 (VV X) T a.tmps.toList) {v : EV} {ob : Option EO} (h : evQ (.mov (opd x)) T H id = some (v, ob)) : Good P o a w0 m ρ0 Φ0 H X id v ob := by
  simp only [evQ, Option.some.injEq, Prod.mk.injEq] at h
  obtain ⟨rfl, rfl⟩ := h
  exact .pure r (by rcases ho with ho | ho <;> simp [execOp, ho]) (VV_ev ha x)

theorem g_pick {c x y : Operand} (ho : o.op = .pick c x y) (r : Rel w0 m ρ0 Φ0 H X) (ha : All2 (VV X) T a.tmps.toList) {v : EV} {ob : Option EO} (h : evQ (.pick (opd c) (opd x) (opd y)) T H id = some (v, ob)) : Good P o a w0 m ρ0 Φ0 H X id v ob := by
  simp only [evQ] at h
  split at h
  · rename_i b hb
    simp only [Option.some.injEq, Prod.mk.injEq] at h
    obtain ⟨rfl, rfl⟩ := h
    have hc := VV_lit hb (VV_ev ha c)
    refine .pure r (val := if b then a.eval x else a.eval y) ?_ ?_
    · simp [execOp, ho, hc, asBool]
    · cases b
      · exact VV_ev ha y
      · exact VV_ev ha x
  · simp at h

theorem pbin_one {op : BinOp} {u v r : Value} (h : pbin op u v = some r) : r.oneCell' = true := by
  unfold pbin at h
  split at h
  · cases op <;> simp only [psh, pint] at h <;> first
      | (split at h
         · simp at h
         · first | (obtain rfl := Option.some.inj h; rfl) | simp at h)
      | (split at h
         · first | (obtain rfl := Option.some.inj h; rfl) | (split at h <;> first | (obtain rfl := Option.some.inj h; rfl) | simp at h) | simp at h
         · simp at h)
  · cases op <;> simp only [pstr] at h <;> first | (obtain rfl := Option.some.inj h; rfl) | simp at h
  · simp at h

theorem pun_one {op : UnOp} {u r : Value} (h : pun op u = some r) : r.oneCell' = true := by
  unfold pun at h
  split at h <;> first | (obtain rfl := Option.some.inj h; rfl) | simp at h

theorem pbin_noagg {op : BinOp} {u v r : Value} (h : pbin op u v = some r) : (∃ k a k' b, u = .int k a ∧ v = .int k' b) ∨ (∃ x y, u = .string x ∧ v = .string y) := by
  unfold pbin at h
  split at h
  · exact .inl ⟨_, _, _, _, rfl, rfl⟩
  · exact .inr ⟨_, _, rfl, rfl⟩
  · simp at h

theorem eqGuard_int {w : World} (op : BinOp) (t : TypeId) (x y : Operand) {u v : Value} (h : (∃ k a k' b, u = .int k a ∧ v = .int k' b) ∨ (∃ x y, u = .string x ∧ v = .string y)) : (eqGuard op t x y u v).run P w = .ok () w := by
  rcases h with ⟨k, a, k', b, rfl, rfl⟩ | ⟨x, y, rfl, rfl⟩ <;> cases op <;> rfl

theorem g_bin {op : BinOp} {t t' : TypeId} {x y : Operand} (ho : o.op = .binOp op t x y t') (r : Rel w0 m ρ0 Φ0 H X) (ha : All2 (VV X) T a.tmps.toList) {v : EV} {ob : Option EO} (h : evQ (.bin op (opd x) (opd y)) T H id = some (v, ob)) : Good P o a w0 m ρ0 Φ0 H X id v ob := by
  simp only [evQ] at h
  obtain ⟨u1, h1, h⟩ := bind_some' h
  obtain ⟨u2, h2, h⟩ := bind_some' h
  obtain ⟨u3, h3, h⟩ := map_some' h
  simp only [Prod.mk.injEq] at h
  obtain ⟨rfl, rfl⟩ := h
  refine .pure r (val := u3) ?_ (VV_mklit (pbin_one h3))
  simp [execOp, ho, VV_lit h1 (VV_ev ha x), VV_lit h2 (VV_ev ha y), eqGuard_int (P := P) (w := X.w) op t x y (pbin_noagg h3), pbin_run h3]

theorem g_un {op : UnOp} {t : TypeId} {x : Operand} (ho : o.op = .unOp op t x) (r : Rel w0 m ρ0 Φ0 H X) (ha : All2 (VV X) T a.tmps.toList) {v : EV} {ob : Option EO} (h : evQ (.un op (opd x)) T H id = some (v, ob)) : Good P o a w0 m ρ0 Φ0 H X id v ob := by
  simp only [evQ] at h
  obtain ⟨u1, h1, h⟩ := bind_some' h
  obtain ⟨u3, h3, h⟩ := map_some' h
  simp only [Prod.mk.injEq] at h
  obtain ⟨rfl, rfl⟩ := h
  refine .pure r (val := u3) ?_ (VV_mklit (pun_one h3))
  simp [execOp, ho, VV_lit h1 (VV_ev ha x), pun_run h3]

theorem isNum_some {v : Value} {n : Int} (h : isNum v = some n) : ∃ k, v = .int k n := by
  unfold isNum at h; split at h
  · simp only [Option.some.injEq] at h; subst h; exact ⟨_, rfl⟩
  · simp at h

theorem g_cnv {s d : TypeId} {x : Operand} {k k' : IntKind} (ho : o.op = .convert s d x) (hs : P.underlying s = some (.int k')) (hd : P.underlying d = some (.int k)) (r : Rel w0 m ρ0 Φ0 H X) (ha : All2 (VV X) T a.tmps.toList) {v : EV} {ob : Option EO} (h : evQ (.cnv k (opd x)) T H id = some (v, ob)) : Good P o a w0 m ρ0 Φ0 H X id v ob := by
  simp only [evQ] at h
  obtain ⟨u1, h1, h⟩ := bind_some' h
  obtain ⟨n, h3, h⟩ := map_some' h
  simp only [Prod.mk.injEq] at h
  obtain ⟨rfl, rfl⟩ := h
  obtain ⟨kk, rfl⟩ := isNum_some h3
  refine .pure r (val := .int k (k.wrap n)) ?_ (VV_mklit rfl)
  simp [execOp, ho, VV_lit h1 (VV_ev ha x), convert, run_underlying hs, run_underlying hd, Conv.intToInt]

theorem run_eqGuard_bool {w : World} (op : BinOp) (t : TypeId) (x y : Operand) (u v : Bool) : (eqGuard op t x y (.bool u) (.bool v)).run P w = .ok () w := by
  cases op <;> rfl

theorem g_eqb {op : BinOp} {neg : Bool} {t t' : TypeId} {x y : Operand} (ho : o.op = .binOp op t x y t') (ht : P.underlying t = some .bool) (hop : (op = .eql ∧ neg = false) ∨ (op = .neq ∧ neg = true)) (r : Rel w0 m ρ0 Φ0 H X) (ha : All2 (VV X) T a.tmps.toList) {v : EV} {ob : Option EO} (h : evQ (.eqb neg (opd x) (opd y)) T H id = some (v, ob)) : Good P o a w0 m ρ0 Φ0 H X id v ob := by
  simp only [evQ] at h
  split at h
  · rename_i p q hp hq
    simp only [Option.some.injEq, Prod.mk.injEq] at h
    obtain ⟨rfl, rfl⟩ := h
    refine .pure r (val := .bool (if neg then !(p == q) else p == q)) ?_ (VV_mklit rfl)
    rcases hop with ⟨rfl, rfl⟩ | ⟨rfl, rfl⟩
    · simp [execOp, ho, VV_lit hp (VV_ev ha x), VV_lit hq (VV_ev ha y), run_eqGuard_bool, run_eql_bool X.w t p q ht]
    · simp [execOp, ho, VV_lit hp (VV_ev ha x), VV_lit hq (VV_ev ha y), run_eqGuard_bool, run_neq_bool X.w t p q ht]
  · simp at h

theorem run_eqGuard_ptr {w : World} (op : BinOp) (t : TypeId) (x y : Operand) (u v : Option Addr) : (eqGuard op t x y (.pointer u) (.pointer v)).run P w = .ok () w := by
  cases op <;> rfl

theorem eqpv_val {c : EC} {b : Bool} {v : Value} (h : eqpv c = some b) (hv : VR X c v) : ∃ p : Option Addr, v = .pointer p ∧ p.isNone = b := by
  unfold eqpv at h
  split at h <;> simp only [Option.some.injEq, reduceCtorEq] at h
  · subst h; cases hv; exact ⟨none, rfl, rfl⟩
  · subst h; obtain ⟨_, b, _, rfl⟩ := hv; exact ⟨_, rfl, rfl⟩
  · subst h; obtain ⟨_, b, n, cap, _, rfl⟩ := hv; exact ⟨_, rfl, rfl⟩
  · subst h; obtain ⟨b, off, _, rfl, _⟩ := hv; exact ⟨_, rfl, rfl⟩
  · subst h; cases hv; exact ⟨_, rfl, rfl⟩

theorem g_eqp {op : BinOp} {neg : Bool} {t t' : TypeId} {x : Operand} (ho : o.op = .binOp op t x (.const (.pointer none)) t') (ht : P.underlying t = some (.pointer (P.pointee t))) (hop : (op = .eql ∧ neg = false) ∨ (op = .neq ∧ neg = true)) (r : Rel w0 m ρ0 Φ0 H X) (ha : All2 (VV X) T a.tmps.toList) {v : EV} {ob : Option EO} (h : evQ (.eqp neg (opd x)) T H id = some (v, ob)) : Good P o a w0 m ρ0 Φ0 H X id v ob := by
  simp only [evQ] at h
  obtain ⟨c, h1, h⟩ := bind_some' h
  obtain ⟨b, h2, h⟩ := map_some' h
  simp only [Prod.mk.injEq] at h
  obtain ⟨rfl, rfl⟩ := h
  obtain ⟨p, hp, rfl⟩ := eqpv_val h2 (VV_c h1 (VV_ev ha x))
  refine .pure r (val := .bool (if neg then !p.isNone else p.isNone)) ?_ (VV_mklit rfl)
  have hc : a.eval (.const (.pointer none)) = .pointer none := rfl
  rcases hop with ⟨rfl, rfl⟩ | ⟨rfl, rfl⟩
  · simp [execOp, ho, hp, hc, run_eqGuard_ptr, run_eql_pointer_nil X.w t p ht]
  · simp [execOp, ho, hp, hc, run_eqGuard_ptr, run_neq_pointer_nil X.w t p ht]

theorem run_eql_iface {w : World} {t : TypeId} {ms : Array (String × TypeId)} (ht : P.underlying t = some (.interface ms)) {v : Value} {b : Bool} (hv : eqiv v = some b) :
    (binOp .eql t v .nilIface).run P w = .ok (.bool b) w ∧ (binOp .neq t v .nilIface).run P w = .ok (.bool !b) w := by
  have h : ∀ d : Nat, (Op.equalIn (d + 1) t v .nilIface).run P w = .ok b w := fun d => by
    unfold eqiv at hv
    split at hv <;> simp only [Option.some.injEq, reduceCtorEq] at hv
    · subst hv; simp [Op.equalIn, run_underlying ht]
    · subst hv; simp [Op.equalIn, run_underlying ht]
  unfold eqiv at hv
  split at hv <;> simp only [Option.some.injEq, reduceCtorEq] at hv
  · constructor <;> (simp only [binOp]; simp [Op.equal, Op.maxDepth, h 9999])
  · constructor <;> (simp only [binOp]; simp [Op.equal, Op.maxDepth, h 9999])

theorem run_eqGuard_iface {w : World} (op : BinOp) (t : TypeId) (x : Operand) {v : Value} {b : Bool} (hv : eqiv v = some b) : (eqGuard op t x (.const .nilIface) v .nilIface).run P w = .ok () w := by
  unfold eqiv at hv
  split at hv <;> simp only [Option.some.injEq, reduceCtorEq] at hv
  · cases op <;> first | rfl | simp [eqGuard]
  · cases op <;> rfl

theorem g_eqi {op : BinOp} {neg : Bool} {t t' : TypeId} {x : Operand} {ms : Array (String × TypeId)} (ho : o.op = .binOp op t x (.const .nilIface) t') (ht : P.underlying t = some (.interface ms)) (hop : (op = .eql ∧ neg = false) ∨ (op = .neq ∧ neg = true)) (r : Rel w0 m ρ0 Φ0 H X) (ha : All2 (VV X) T a.tmps.toList) {v : EV} {ob : Option EO} (h : evQ (.eqi neg (opd x)) T H id = some (v, ob)) : Good P o a w0 m ρ0 Φ0 H X id v ob := by
  simp only [evQ] at h
  obtain ⟨c, h1, h⟩ := bind_some' h
  obtain ⟨b, h2, h⟩ := map_some' h
  simp only [Prod.mk.injEq] at h
  obtain ⟨rfl, rfl⟩ := h
  have hp := VV_lit h1 (VV_ev ha x)
  have hc : a.eval (.const .nilIface) = .nilIface := rfl
  obtain ⟨e1, e2⟩ := run_eql_iface (P := P) (w := X.w) ht h2
  refine .pure r (val := .bool (if neg then !b else b)) ?_ (VV_mklit rfl)
  rcases hop with ⟨rfl, rfl⟩ | ⟨rfl, rfl⟩
  · simp [execOp, ho, hp, hc, run_eqGuard_iface (P := P) (w := X.w) .eql t x h2, e1]
  · simp [execOp, ho, hp, hc, run_eqGuard_iface (P := P) (w := X.w) .neq t x h2, e2]

end
end Go.EW
