/- E-operations that touch no object that is there already ("quiet"): their values, and that the model's operations come to just these. -/
import Derived.Test.YtejjhgdnmknejaaEwA
namespace Go.EW
open Go

inductive Opd where
  | t (i : Nat)
  | k (v : Value)
  deriving Inhabited

def opd : Operand → Opd
  | .tmp t => .t t
  | .const v => .k v
  | .func f => .k (.func (.func f) #[] #[])
  | .global g => .k (.pointer (some ⟨g, 0, none⟩))

def EV.lit (v : Value) : EV := .v (.c (.fz (.lit v)))
def litc (v : Value) : EC := .fz (.lit v)

def cst (v : Value) : EV :=
  match v with
  | .agg cs => if cs.toList.all (·.oneCell') then .v (.agg (cs.toList.map litc)) else .any
  | .tuple _ => .any
  | .func (.func f) first cap => if first.size = 0 ∧ cap.size = 0 then .v (.c (.clo f [])) else .v (.c (.fz (.lit v)))
  | v => .v (.c (.fz (.lit v)))

def nth : List EV → Nat → EV
  | [], _ => .any
  | x :: _, 0 => x
  | _ :: r, n + 1 => nth r n

def ev (T : List EV) : Opd → EV
  | .t i => nth T i
  | .k v => cst v

theorem nth_eq (T : List EV) (i : Nat) : nth T i = (T[i]?).getD .any := by
  induction T generalizing i with
  | nil => simp [nth]
  | cons x r ih => cases i <;> simp [nth, ih]

theorem arr_eq_nil {α : Type} {a : Array α} (h : a.size = 0) : a = #[] := Array.eq_empty_of_size_eq_zero h

theorem VV_cst (X : Cx) (v : Value) : VV X (cst v) v := by
  unfold cst
  split
  · rename_i cs
    split
    · rename_i h
      refine ⟨cs.toList, by simp, by simp, ?_⟩
      intro i x y hx hy
      simp only [List.getElem?_map, Option.map_eq_some_iff] at hx
      obtain ⟨z, hz, rfl⟩ := hx
      have : z = y := Option.some.inj (hz.symm.trans hy)
      subst this
      exact FR.lit _ ((List.all_eq_true.1 h) z (List.mem_of_getElem? hz))
    · trivial
  · trivial
  · split
    · rename_i f first cap h
      obtain ⟨h1, h2⟩ := h
      rw [arr_eq_nil h1, arr_eq_nil h2]
      exact ⟨[], rfl, All2.nil⟩
    · exact FR.lit _ rfl
  · rename_i h1 h2 h3
    refine FR.lit _ ?_
    cases v <;> first | rfl | (exfalso; first | exact h1 _ rfl | exact h2 _ rfl)

theorem VV_ev {X : Cx} {T : List EV} {a : Act} (h : All2 (VV X) T a.tmps.toList) (x : Operand) : VV X (ev T (opd x)) (a.eval x) := by
  cases x with
  | tmp t =>
    simp only [opd, ev, nth_eq, Act.eval]
    cases ht : T[t]? with
    | none => trivial
    | some e =>
      obtain ⟨y, hy, hr⟩ := h.get ht
      have : a.tmps[t]? = some y := by simpa using hy
      simp only [Option.getD_some, Array.getD_eq_getD_getElem?, this]
      exact hr
  | const v => exact VV_cst X v
  | global g => exact VV_cst X (.pointer (some ⟨g, 0, none⟩))
  | func f => exact VV_cst X (.func (.func f) #[] #[])

/-! ### reading off E-values -/
def asLit : EV → Option Value
  | .v (.c (.fz (.lit v))) => some v
  | _ => none
def asC : EV → Option EC
  | .v (.c x) => some x
  | _ => none
def asAg : EV → Option (List EC)
  | .v (.agg cs) => some cs
  | _ => none
def asCells : EV → Option (List EC)
  | .v (.c x) => some [x]
  | .v (.agg cs) => some cs
  | _ => none
def asT : EV → Option TV
  | .v t => some t
  | _ => none

theorem asLit_some {e : EV} {v : Value} (h : asLit e = some v) : e = .v (.c (.fz (.lit v))) := by
  unfold asLit at h; split at h <;> simp_all
theorem asC_some {e : EV} {x : EC} (h : asC e = some x) : e = .v (.c x) := by
  unfold asC at h; split at h <;> simp_all
theorem asAg_some {e : EV} {x : List EC} (h : asAg e = some x) : e = .v (.agg x) := by
  unfold asAg at h; split at h <;> simp_all

theorem VV_lit {X : Cx} {e : EV} {u v : Value} (h : asLit e = some u) (hv : VV X e v) : v = u := by
  rw [asLit_some h] at hv
  cases hv
  rfl
theorem VV_c {X : Cx} {e : EV} {x : EC} {v : Value} (h : asC e = some x) (hv : VV X e v) : VR X x v := by
  rw [asC_some h] at hv
  exact hv
theorem VV_ag {X : Cx} {e : EV} {cs : List EC} {v : Value} (h : asAg e = some cs) (hv : VV X e v) : ∃ vs : List Value, v = .agg vs.toArray ∧ All2 (VR X) cs vs := by
  rw [asAg_some h] at hv
  exact hv
theorem cells_one {v : Value} (h : v.oneCell' = true) : v.cells = #[v] := by
  cases v <;> first | rfl | simp [Value.oneCell'] at h
theorem VV_cells {X : Cx} {e : EV} {cs : List EC} {v : Value} (h : asCells e = some cs) (hv : VV X e v) : All2 (VR X) cs v.cells.toList := by
  unfold asCells at h
  split at h
  · rename_i x
    obtain rfl := Option.some.inj h
    have h1 : VR X x v := hv
    rw [cells_one h1.oneCell]
    exact All2.cons h1 All2.nil
  · obtain rfl := Option.some.inj h
    obtain ⟨vs, rfl, ha⟩ := hv
    simpa [Value.cells] using ha
  · simp at h

/-! ### whole numbers, bools, strings -/
def pint (op : BinOp) (k : IntKind) (a b : Int) : Option Value :=
  match op with
  | .add => some (.int k (k.wrap (a + b)))
  | .sub => some (.int k (k.wrap (a - b)))
  | .mul => some (.int k (k.wrap (a * b)))
  | .quo => if b = 0 then none else some (.int k (k.wrap (a.tdiv b)))
  | .rem => if b = 0 then none else some (.int k (a.tmod b))
  | .and => some (.int k (k.wrap (BitVec.ofInt k.bits a &&& BitVec.ofInt k.bits b).toNat))
  | .or => some (.int k (k.wrap (BitVec.ofInt k.bits a ||| BitVec.ofInt k.bits b).toNat))
  | .xor => some (.int k (k.wrap (BitVec.ofInt k.bits a ^^^ BitVec.ofInt k.bits b).toNat))
  | .andNot => some (.int k (k.wrap (BitVec.ofInt k.bits a &&& ~~~BitVec.ofInt k.bits b).toNat))
  | .eql => some (.bool (decide (a = b)))
  | .neq => some (.bool (decide (a ≠ b)))
  | .lss => some (.bool (decide (a < b)))
  | .leq => some (.bool (decide (a ≤ b)))
  | .gtr => some (.bool (decide (b < a)))
  | .geq => some (.bool (decide (b ≤ a)))
  | _ => none
def psh (op : BinOp) (k : IntKind) (a b : Int) : Option Value :=
  if b < 0 then none else
  match op with
  | .shl => some (.int k (k.wrap (a * 2 ^ min b.toNat k.bits)))
  | .shr => some (.int k (a.fdiv (2 ^ min b.toNat k.bits)))
  | _ => none
def pstr (op : BinOp) (x y : ByteArray) : Option Value :=
  match op with
  | .eql => some (.bool (decide (x.toList = y.toList)))
  | .neq => some (.bool (decide (x.toList ≠ y.toList)))
  | .lss => some (.bool (Op.bytesLess x.toList y.toList))
  | _ => none
def pbin (op : BinOp) (u v : Value) : Option Value :=
  match u, v with
  | .int k a, .int k' b =>
    match op with
    | .shl | .shr => psh op k a b
    | _ => if k = k' then pint op k a b else none
  | .string x, .string y => pstr op x y
  | _, _ => none
def pun (op : UnOp) (u : Value) : Option Value :=
  match op, u with
  | .neg, .int k n => some (.int k (k.wrap (0 - n)))
  | .xor, .int k n => some (.int k (k.wrap (BitVec.ofInt k.bits (if k.signed then -1 else k.max) ^^^ BitVec.ofInt k.bits n).toNat))
  | .not, .bool b => some (.bool !b)
  | _, _ => none

theorem pbin_run {P : Program} {w : World} {op : BinOp} {t : TypeId} {u v r : Value} (h : pbin op u v = some r) : (binOp op t u v).run P w = .ok r w := by
  unfold pbin at h
  split at h
  · rename_i k a k' b
    cases op <;> simp only at h <;> first
      | (unfold psh at h
         split at h
         · simp at h
         · rename_i hb
           first
             | (obtain rfl := Option.some.inj h; simp [binOp, Op.shift, hb])
             | simp at h)
      | (split at h
         · rename_i hk
           subst hk
           simp only [pint] at h
           first
             | (obtain rfl := Option.some.inj h
                simp [binOp, Op.intArith, Op.intBits, Op.intCmp]
                try (first | done | rfl | (by_cases e : a = b <;> simp [e])))
             | (split at h
                · simp at h
                · rename_i hb
                  obtain rfl := Option.some.inj h
                  simp [binOp, Op.intDiv, hb])
             | simp at h
         · simp at h)
  · rename_i x y
    cases op <;> simp only [pstr] at h <;> first
      | (obtain rfl := Option.some.inj h
         simp [binOp, Op.stringOp]
         try (first | done | rfl | (by_cases e : x.toList = y.toList <;> simp [e])))
      | simp at h
  · simp at h

theorem pun_run {P : Program} {w : World} {op : UnOp} {u r : Value} (h : pun op u = some r) : (Op.unary op u).run P w = .ok r w := by
  unfold pun at h
  split at h <;> first
    | (obtain rfl := Option.some.inj h; simp [Op.unary, Op.intArith, Op.intBits])
    | simp at h

end Go.EW
