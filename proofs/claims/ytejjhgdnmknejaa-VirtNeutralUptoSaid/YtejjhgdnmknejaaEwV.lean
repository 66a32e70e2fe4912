/- Arguments opened: from a reading to typed data and its E-value. -/
import Derived.Test.YtejjhgdnmknejaaEwS
import Derived.OpenShut
import Derived.DataReads
namespace Go.EW
open Go

/-- How a reading is counted. -/
structure BOk (B : (H : Type) → DataW H → Nat) (BA : (H : Type) → List (DataW H) → Nat) : Prop where
  lit : ∀ (H : Type) (x : Lit), 1 ≤ B H (.lit x)
  str : ∀ (H : Type) (l : List UInt8), l.length + 1 ≤ B H (.lit (.string l))
  nil : ∀ (H : Type), 1 ≤ B H .nil
  sl : ∀ (H : Type) (es sp : List (DataW H)), BA H es + 1 ≤ B H (.slice es sp)
  agg : ∀ (H : Type) (ps : List (DataW H)), BA H ps + 1 ≤ B H (.agg ps)
  cons : ∀ (H : Type) (d : DataW H) (r : List (DataW H)), B H d + BA H r ≤ BA H (d :: r)

def Opn (B : (H : Type) → DataW H → Nat) (P : Program) (t : TypeId) {α : Type} (f : α → List FV) (ok : α → Prop) (bulk : α → Nat) : Prop :=
  ∀ (H : Type) (enc : TypeId × Value → H) (w : World) (spare : Nat → Bool) (held : Bool) (fuel : Nat) (cs : List Value) (d : DataW H) (q : List MemPlace),
    DataW.trod enc P w 0 spare held fuel t cs = some (d, q) → ∃ a : α, ok a ∧ bulk a ≤ B H d ∧ All2 (FR (fun b => b < w.heap.size) w) (f a) cs

def sumB {α : Type} (bulk : α → Nat) : List α → Nat
  | [] => 0
  | a :: r => bulk a + sumB bulk r

theorem list_choose {α : Type} {R : Nat → α → Prop} : ∀ (n : Nat), (∀ i, i < n → ∃ a, R i a) → ∃ l : List α, l.length = n ∧ ∀ i a, l[i]? = some a → R i a
  | 0, _ => ⟨[], rfl, by simp⟩
  | n + 1, h => by
    obtain ⟨l, hl, hr⟩ := list_choose n (fun i hi => h i (by omega))
    obtain ⟨a, ha⟩ := h n (by omega)
    refine ⟨l ++ [a], by simp [hl], ?_⟩
    intro i x hx
    rw [List.getElem?_append] at hx
    split at hx
    · exact hr i x hx
    · rename_i hi
      rw [hl] at hx hi
      have hi0 : i - n = 0 := by
        have := (List.getElem?_eq_some_iff.1 hx).1
        simp at this
        omega
      rw [hi0] at hx
      simp at hx
      subst hx
      have : i = n := by omega
      rw [this]
      exact ha

theorem All2.flatten {α β : Type} {R : α → β → Prop} : ∀ {xs : List (List α)} {ys : List (List β)}, All2 (All2 R) xs ys → All2 R xs.flatten ys.flatten
  | [], ys, h => by
    have := h.nil_left
    subst this
    exact All2.nil
  | x :: r, ys, h => by
    obtain ⟨y, t, rfl, h1, h2⟩ := h.cons_left
    exact h1.append (All2.flatten h2)

theorem row_cells {w : World} {b es : Nat} : ∀ (css : List (List Value)) (off : Nat), (∀ c ∈ css, c.length = es) → (∀ i c, css[i]? = some c → ∀ j u, c[j]? = some u → w.cell? ⟨b, off + i * es + j, none⟩ = some u) →
    ∀ j u, css.flatten[j]? = some u → w.cell? ⟨b, off + j, none⟩ = some u
  | [], off, _, _, j, u, h => by simp at h
  | c :: r, off, hl, hc, j, u, h => by
    rw [List.flatten_cons, List.getElem?_append] at h
    split at h
    · simpa using hc 0 c rfl j u h
    · rename_i hj
      have hlc := hl c (by simp)
      have := row_cells r (off + es) (fun x hx => hl x (by simp [hx])) (fun i x hx k v hv => by
        have := hc (i + 1) x (by simpa using hx) k v hv
        rwa [show off + (i + 1) * es + k = off + es + i * es + k by rw [Nat.succ_mul]; omega] at this) (j - c.length) u h
      rwa [show off + es + (j - c.length) = off + j by omega] at this

section
variable {B : (H : Type) → DataW H → Nat} {BA : (H : Type) → List (DataW H) → Nat} {P : Program} {t : TypeId}

theorem Opn.map {α β : Type} {f : α → List FV} {ok : α → Prop} {bulk : α → Nat} (h : Opn B P t f ok bulk) {f' : β → List FV} {ok' : β → Prop} {bulk' : β → Nat} (g : α → β) (hf : ∀ a, ok a → f' (g a) = f a) (ho : ∀ a, ok a → ok' (g a)) (hb : ∀ a, ok a → bulk' (g a) ≤ bulk a) : Opn B P t f' ok' bulk' := by
  intro H enc w spare held fuel cs d q hd
  obtain ⟨a, h1, h2, h3⟩ := h H enc w spare held fuel cs d q hd
  exact ⟨g a, ho a h1, Nat.le_trans (hb a h1) h2, by rw [hf a h1]; exact h3⟩

theorem opn_int (hB : BOk B BA) {k : IntKind} (ht : P.underlying t = some (.int k)) : Opn B P t (fun n : Int => [.lit (.int k n)]) (fun n => (Lit.int k n).wf = true) (fun _ => 1) := by
  intro H enc w spare held fuel cs d q hd
  cases fuel with
  | zero => simp [DataW.trod] at hd
  | succ n =>
    unfold DataW.trod at hd
    rw [ht] at hd
    split at hd <;> try (simp_all; done)
    rename_i k1 k' m heq
    simp only [Option.some.injEq, TypeDesc.int.injEq] at heq
    subst heq
    split at hd
    · rename_i hh
      obtain ⟨rfl, hw⟩ := hh
      simp only [Option.some.injEq, Prod.mk.injEq] at hd
      obtain ⟨rfl, _⟩ := hd
      exact ⟨m, hw, hB.lit H _, All2.cons (FR.lit _ rfl) All2.nil⟩
    · simp at hd

theorem opn_bool (hB : BOk B BA) (ht : P.underlying t = some .bool) : Opn B P t (fun b : Bool => [.lit (.bool b)]) (fun _ => True) (fun _ => 1) := by
  intro H enc w spare held fuel cs d q hd
  cases fuel with
  | zero => simp [DataW.trod] at hd
  | succ n =>
    unfold DataW.trod at hd
    rw [ht] at hd
    split at hd <;> try (simp_all; done)
    rename_i b heq
    simp only [Option.some.injEq, Prod.mk.injEq] at hd
    obtain ⟨rfl, _⟩ := hd
    exact ⟨b, trivial, hB.lit H _, All2.cons (FR.lit _ rfl) All2.nil⟩

theorem opn_string (hB : BOk B BA) (ht : P.underlying t = some .string) : Opn B P t (fun s : List UInt8 => [.lit (.string (strb s))]) (fun _ => True) (fun s => s.length + 1) := by
  intro H enc w spare held fuel cs d q hd
  cases fuel with
  | zero => simp [DataW.trod] at hd
  | succ n =>
    unfold DataW.trod at hd
    rw [ht] at hd
    split at hd <;> try (simp_all; done)
    rename_i s heq
    split at hd
    · simp only [Option.some.injEq, Prod.mk.injEq] at hd
      obtain ⟨rfl, _⟩ := hd
      refine ⟨s.data.toList, trivial, hB.str H _, ?_⟩
      have : strb s.data.toList = s := by cases s; simp [strb]
      show All2 (FR (fun b => b < w.heap.size) w) [FV.lit (Value.string (strb s.data.toList))] [Value.string s]
      rw [this]
      exact All2.cons (FR.lit _ rfl) All2.nil
    · simp at hd

theorem opn_slice (hB : BOk B BA) {e : TypeId} {es : Nat} (ht : P.underlying t = some (.slice e)) (hes : P.cellsOf e = es) (h0 : 0 < es) {α : Type} {f : α → List FV} {ok : α → Prop} {bulk : α → Nat} (ho : Opn B P e f ok bulk) :
    Opn B P t (fun l : List α => [.sl es (l.map f)]) (fun l => (∀ a ∈ l, ok a) ∧ l.length ≤ maxLen) (fun l => sumB bulk l + 1) := by
  intro H enc w spare held fuel cs d q hd
  cases fuel with
  | zero => simp [DataW.trod] at hd
  | succ n =>
    unfold DataW.trod at hd
    rw [ht] at hd
    split at hd <;> try (simp_all; done)
    · simp only [Option.some.injEq, Prod.mk.injEq] at hd
      obtain ⟨rfl, _⟩ := hd
      exact ⟨[], by simp, hB.nil H, All2.cons (FR.emp es none 0) All2.nil⟩
    · rename_i e' a len cap heq
      simp only [Option.some.injEq, TypeDesc.slice.injEq] at heq
      subst heq
      simp only at hd
      split at hd
      case isFalse => simp at hd
      rename_i hc
      replace hd := Option.bind_eq_some_iff.1 hd
      obtain ⟨elems, hel, hd⟩ := hd
      replace hd := Option.map_eq_some_iff.1 hd
      obtain ⟨rest, _, hd⟩ := hd
      simp only [Prod.mk.injEq] at hd
      obtain ⟨rfl, _⟩ := hd
      have hlen : elems.length = len := by simpa using mapM_some_length hel
      have hget : ∀ i, i < len → ∃ (p : α × List Value × DataW H), (elems.map (·.1))[i]? = some p.2.2 ∧ ok p.1 ∧ bulk p.1 ≤ B H p.2.2 ∧ All2 (FR (fun b => b < w.heap.size) w) (f p.1) p.2.1 ∧ p.2.1.length = es ∧
          ∀ j, j < es → w.cell? ((a.add (i * es)).add j) = p.2.1[j]? := by
        intro i hi
        have h1 := mapM_some_get hel i i (by simp [hi])
        have hi' : i < elems.length := by omega
        rw [List.getElem?_eq_getElem hi'] at h1
        replace h1 := Option.bind_eq_some_iff.1 h1
        obtain ⟨ci, hci, htr⟩ := h1
        rw [hes] at hci
        obtain ⟨_, q1, q2⟩ := World.cells?_some hci
        obtain ⟨x, h2, h3, h4⟩ := ho H enc w spare held n ci _ _ (show DataW.trod enc P w 0 spare held n e ci = some ((elems[i]).1, (elems[i]).2) from htr)
        exact ⟨(x, ci, (elems[i]).1), by simp [hi'], h2, h3, h4, q1, q2⟩
      obtain ⟨L, hL, hR⟩ := list_choose len hget
      have hspot : 0 < len → a.spot = none := by
        intro hp
        obtain ⟨p, hp0⟩ : ∃ p, L[0]? = some p := ⟨L[0]'(by omega), by simp [hL, hp]⟩
        obtain ⟨_, _, _, _, hl, hce⟩ := hR 0 p hp0
        have h1 := hce 0 h0
        rw [show 0 * es = 0 by omega, show a.add 0 = a from rfl, show a.add 0 = a from rfl, List.getElem?_eq_getElem (by omega)] at h1
        unfold World.cell? at h1
        split at h1
        · split at h1
          · simp at h1
          · rename_i hs; simpa using hs
        · simp at h1
      refine ⟨L.map (·.1), ⟨?_, by simp [hL]; omega⟩, ?_, ?_⟩
      · intro x hx
        obtain ⟨p, hp, rfl⟩ := List.mem_map.1 hx
        obtain ⟨i, hi⟩ := List.getElem?_of_mem hp
        exact (hR i p hi).2.1
      · refine Nat.le_trans (Nat.succ_le_succ ?_) (hB.sl H _ _)
        have key : ∀ (L : List (α × List Value × DataW H)) (D : List (DataW H)), L.length = D.length → (∀ (i : Nat) (p : α × List Value × DataW H), L[i]? = some p → D[i]? = some p.2.2 ∧ bulk p.1 ≤ B H p.2.2) → sumB bulk (L.map (·.1)) ≤ BA H D := by
          intro L
          induction L with
          | nil => intro D _ _; simp [sumB]
          | cons p r ih =>
            intro D hl hh
            cases D with
            | nil => simp at hl
            | cons d D =>
              have h1 := hh 0 p rfl
              simp at h1
              have h2 := ih D (by simpa using hl) (fun i p' hp' => by simpa using hh (i + 1) p' (by simpa using hp'))
              have h3 := hB.cons H d D
              simp only [List.map_cons, sumB]
              rw [h1.1] at h3 ⊢
              omega
        exact key L (elems.map (·.1)) (by simp [hL, hlen]) (fun i p hp => ⟨(hR i p hp).1, (hR i p hp).2.2.1⟩)
      · refine All2.cons ?_ All2.nil
        rcases Nat.eq_zero_or_pos len with hz | hp
        · have : L = [] := List.eq_nil_of_length_eq_zero (by omega)
          subst this
          subst hz
          exact FR.emp es (some a) cap
        · obtain ⟨b, off, hab⟩ : ∃ b off, a = ⟨b, off, none⟩ := ⟨a.block, a.off, by have := hspot hp; cases a; simp_all⟩
          subst hab
          have hcl : ∀ c ∈ L.map (·.2.1), c.length = es := by
            intro c hc'
            obtain ⟨p, hp', rfl⟩ := List.mem_map.1 hc'
            obtain ⟨i, hi⟩ := List.getElem?_of_mem hp'
            exact (hR i p hi).2.2.2.2.1
          have hcell := row_cells (w := w) (b := b) (es := es) (L.map (·.2.1)) off hcl (by
            intro i c hc' j u hu
            rw [List.getElem?_map] at hc'
            obtain ⟨p, hp', rfl⟩ := Option.map_eq_some_iff.1 hc'
            obtain ⟨_, _, _, _, hl, hce⟩ := hR i p hp'
            have hj : j < es := by rw [← hl]; exact (List.getElem?_eq_some_iff.1 hu).1
            have := hce j hj
            rw [Addr.add_lit, Addr.add_lit] at this
            rw [this, hu])
          have hall : All2 (All2 (FR (fun b => b < w.heap.size) w)) ((L.map (·.1)).map f) (L.map (·.2.1)) := by
            refine ⟨by simp, ?_⟩
            intro i x y hx hy
            rw [List.getElem?_map, List.getElem?_map] at hx
            rw [List.getElem?_map] at hy
            obtain ⟨p, hp', rfl⟩ := Option.map_eq_some_iff.1 hy
            rw [hp'] at hx
            simp only [Option.map_some, Option.some.injEq] at hx
            subst hx
            exact (hR i p hp').2.2.2.1
          have hfl := hall.flatten
          have hxl : ((L.map (·.1)).map f).length = len := by simp [hL]
          have hxs : ∀ x ∈ (L.map (·.1)).map f, x.length = es := by
            intro x hx
            obtain ⟨i, hi⟩ := List.getElem?_of_mem hx
            obtain ⟨y, hy, hr⟩ := hall.get hi
            rw [hr.1]
            exact hcl y (List.mem_of_getElem? hy)
          have hvl : (L.map (·.2.1)).flatten.length = ((L.map (·.1)).map f).length * es := by
            rw [flatten_length hcl]; simp
          have hb : b < w.heap.size := by
            have h1 : 0 < (L.map (·.2.1)).flatten.length := by rw [hvl, hxl]; exact Nat.mul_pos hp h0
            have h2 := hcell 0 _ (List.getElem?_eq_getElem h1)
            unfold World.cell? at h2
            split at h2
            · rename_i hh; exact (Array.getElem?_eq_some_iff.1 hh).1
            · simp at h2
          have := FR.sl (Φ := fun b => b < w.heap.size) (w := w) es ((L.map (·.1)).map f) b off cap (L.map (·.2.1)).flatten hb h0 hxs hvl (by omega) hcell hfl.2
          rw [hxl] at this
          exact this
    all_goals (exfalso; simp_all)

/-! ### arrays and structs: parts behind one another -/
theorem opn_array (hB : BOk B BA) {e : TypeId} {es n : Nat} (ht : P.underlying t = some (.array n e)) (hes : P.cellsOf e = es) (hts : P.cellsOf t = n * es) {α : Type} {f : α → List FV} {ok : α → Prop} {bulk : α → Nat} (ho : Opn B P e f ok bulk) :
    Opn B P t (fun l : List α => l.flatMap f) (fun l => (∀ a ∈ l, ok a) ∧ l.length = n) (fun l => sumB bulk l + 1) := by
  intro H enc w spare held fuel cs d q hd
  obtain ⟨xs, m, rfl, hx, hcl, hxl, hg⟩ := DataW.trod_array ht hd
  simp only [Prod.mk.injEq] at hx
  obtain ⟨rfl, _⟩ := hx
  rw [hts] at hcl
  have hget : ∀ i, i < n → ∃ p : α × DataW H, (xs.map (·.1))[i]? = some p.2 ∧ ok p.1 ∧ bulk p.1 ≤ B H p.2 ∧ All2 (FR (fun b => b < w.heap.size) w) (f p.1) ((cs.drop (i * es)).take es) := by
    intro i hi
    have h1 := hg i hi
    rw [List.getElem?_eq_getElem (show i < xs.length by omega), hes] at h1
    obtain ⟨x, h2, h3, h4⟩ := ho H enc w spare held m _ _ _ (show _ = some ((xs[i]).1, (xs[i]).2) from h1)
    exact ⟨(x, (xs[i]).1), by simp [hxl, hi], h2, h3, h4⟩
  obtain ⟨L, hL, hR⟩ := list_choose n hget
  refine ⟨L.map (·.1), ⟨?_, by simp [hL]⟩, ?_, ?_⟩
  · intro x hx
    obtain ⟨p, hp, rfl⟩ := List.mem_map.1 hx
    obtain ⟨i, hi⟩ := List.getElem?_of_mem hp
    exact (hR i p hi).2.1
  · refine Nat.le_trans (Nat.succ_le_succ ?_) (hB.agg H _)
    have key : ∀ (L : List (α × DataW H)) (D : List (DataW H)), L.length = D.length → (∀ (i : Nat) (p : α × DataW H), L[i]? = some p → D[i]? = some p.2 ∧ bulk p.1 ≤ B H p.2) → sumB bulk (L.map (·.1)) ≤ BA H D := by
      intro L
      induction L with
      | nil => intro D _ _; simp [sumB]
      | cons p r ih =>
        intro D hl hh
        cases D with
        | nil => simp at hl
        | cons d D =>
          have h1 := hh 0 p rfl
          simp at h1
          have h2 := ih D (by simpa using hl) (fun i p' hp' => by simpa using hh (i + 1) p' (by simpa using hp'))
          have h3 := hB.cons H d D
          simp only [List.map_cons, sumB]
          rw [h1.1] at h3 ⊢
          omega
    exact key L (xs.map (·.1)) (by simp [hL, hxl]) (fun i p hp => ⟨(hR i p hp).1, (hR i p hp).2.2.1⟩)
  · have key : ∀ (L : List (α × DataW H)) (cs : List Value), cs.length = L.length * es → (∀ (i : Nat) (p : α × DataW H), L[i]? = some p → All2 (FR (fun b => b < w.heap.size) w) (f p.1) ((cs.drop (i * es)).take es)) → All2 (FR (fun b => b < w.heap.size) w) ((L.map (·.1)).flatMap f) cs := by
      intro L
      induction L with
      | nil => intro cs hc _; simp at hc; subst hc; exact All2.nil
      | cons p r ih =>
        intro cs hc hh
        have h1 := hh 0 p rfl
        have h2 := ih (cs.drop es) (by rw [List.length_drop, hc, List.length_cons, Nat.succ_mul]; omega) (fun i p' hp' => by
          have := hh (i + 1) p' (by simpa using hp')
          rwa [List.drop_drop, show es + i * es = (i + 1) * es by rw [Nat.succ_mul]; omega])
        have h3 := h1.append h2
        simp only [Nat.zero_mul, List.drop_zero, List.take_append_drop] at h3
        simpa using h3
    exact key L cs (by rw [hcl, hL]) (fun i p hp => (hR i p hp).2.2.2)

/-- The fields from 'off' on, that have 'tot' cells together. -/
def OpnFs (BA : (H : Type) → List (DataW H) → Nat) (P : Program) (off tot : Nat) (fs : List Field) {α : Type} (f : α → List FV) (ok : α → Prop) (bulk : α → Nat) : Prop :=
  ∀ (H : Type) (enc : TypeId × Value → H) (w : World) (spare : Nat → Bool) (held : Bool) (fuel : Nat) (cs : List Value) (xs : List (DataW H × List MemPlace)), cs.length = off + tot →
    (fs.mapM fun g => DataW.trod enc P w 0 spare held fuel g.type ((cs.drop g.offset).take (P.cellsOf g.type))) = some xs →
      ∃ a : α, ok a ∧ bulk a ≤ BA H (xs.map (·.1)) ∧ All2 (FR (fun b => b < w.heap.size) w) (f a) (cs.drop off)

theorem opnFs_nil {off : Nat} : OpnFs BA P off 0 [] (fun _ : Unit => []) (fun _ => True) (fun _ => 0) := by
  intro H enc w spare held fuel cs xs hl h
  refine ⟨(), trivial, Nat.zero_le _, ?_⟩
  rw [List.drop_eq_nil_of_le (by omega)]
  exact All2.nil

theorem opnFs_cons (hB : BOk B BA) {off n tot : Nat} {g : Field} {fs : List Field} {α β : Type} {f : α → List FV} {ok : α → Prop} {bulk : α → Nat} {f' : β → List FV} {ok' : β → Prop} {bulk' : β → Nat}
    (ho : Opn B P g.type f ok bulk) (hoff : g.offset = off) (hn : P.cellsOf g.type = n) (hr : OpnFs BA P (off + n) tot fs f' ok' bulk') :
    OpnFs BA P off (n + tot) (g :: fs) (fun p : α × β => f p.1 ++ f' p.2) (fun p => ok p.1 ∧ ok' p.2) (fun p => bulk p.1 + bulk' p.2) := by
  intro H enc w spare held fuel cs xs hl h
  rw [List.mapM_cons] at h
  replace h := Option.bind_eq_some_iff.1 h
  obtain ⟨x, hx, h⟩ := h
  replace h := Option.bind_eq_some_iff.1 h
  obtain ⟨ys, hys, h⟩ := h
  obtain rfl : x :: ys = xs := Option.some.inj h
  rw [hoff, hn] at hx
  obtain ⟨a, h1, h2, h3⟩ := ho H enc w spare held fuel _ _ _ (show _ = some (x.1, x.2) from hx)
  obtain ⟨b, q1, q2, q3⟩ := hr H enc w spare held fuel cs ys (by omega) hys
  refine ⟨(a, b), ⟨h1, q1⟩, ?_, ?_⟩
  · have := hB.cons H x.1 (ys.map (·.1))
    simp only [List.map_cons]
    omega
  · have h4 := h3.append q3
    rw [← List.drop_drop, List.take_append_drop] at h4
    exact h4

theorem opn_struct (hB : BOk B BA) {fs : Array Field} {tot : Nat} (ht : P.underlying t = some (.struct fs)) (hts : P.cellsOf t = tot) {α : Type} {f : α → List FV} {ok : α → Prop} {bulk : α → Nat} (ho : OpnFs BA P 0 tot fs.toList f ok bulk) :
    Opn B P t f ok (fun a => bulk a + 1) := by
  intro H enc w spare held fuel cs d q hd
  cases fuel with
  | zero => simp [DataW.trod] at hd
  | succ n =>
    unfold DataW.trod at hd
    rw [ht] at hd
    simp only at hd
    split at hd
    case isFalse => simp at hd
    rename_i hl
    replace hd := Option.map_eq_some_iff.1 hd
    obtain ⟨xs, hxs, hd⟩ := hd
    simp only [Prod.mk.injEq] at hd
    obtain ⟨rfl, _⟩ := hd
    obtain ⟨a, h1, h2, h3⟩ := ho H enc w spare held n cs xs (by omega) hxs
    exact ⟨a, h1, Nat.le_trans (Nat.succ_le_succ h2) (hB.agg H _), by simpa using h3⟩

end
end Go.EW
