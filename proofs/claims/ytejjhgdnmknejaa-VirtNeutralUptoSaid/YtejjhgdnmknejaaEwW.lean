/- From a contract over E-values to a row: arguments opened, the call, what is behind it. -/
import Derived.Test.YtejjhgdnmknejaaEwV
import Derived.ReadAgain
import Derived.ChangeBears
import Derived.ChangeSame
import Derived.Below
namespace Go.EW
open Go Go.ChangeShapes Go.WideShapes Go.RowKit

section
variable {H : Type} {enc : TypeId × Value → H} {P : Program}

theorem trodAll_carry {w w' : World} {base : Nat} {spare : Nat → Bool} {held : Bool} : ∀ {ts : List TypeId} {vs : List Value} {ds : List (DataW H)} {ps : List MemPlace}, DataW.TrodAll enc P w base spare held ts vs ds ps → (∀ p ∈ ps, w.sameAt w' p) → DataW.TrodAll enc P w' base spare held ts vs ds ps
  | [], [], [], _, h, _ => h
  | _ :: _, _ :: _, _ :: _, _, ⟨p, q, ⟨n, h1⟩, h2, e⟩, hs => ⟨p, q, ⟨n, DataW.trod_carry n _ _ _ h1 (fun x hx => hs x (by rw [e]; exact List.mem_append_left _ hx))⟩, trodAll_carry h2 (fun x hx => hs x (by rw [e]; exact List.mem_append_right _ hx)), e⟩
  | [], [], _ :: _, _, h, _ => h.elim
  | [], _ :: _, _, _, h, _ => h.elim
  | _ :: _, [], _, _, h, _ => h.elim
  | _ :: _, _ :: _, [], _, h, _ => h.elim

/-- 'post_of_same' where what is new may be marked. -/
theorem post_of_below {f : Func} {s : ChangeSpec} {apart fresh handsOn again : Bool} {W W' : World} {args : Array Value} {v : Value} {ds gs : List (DataW H)} {before pa pv : List MemPlace}
    (hW : DataW.Whole enc P f.params.toList s.vars apart W args.toList ds gs before)
    (hres : ∀ (b : Nat) (sp : Nat → Bool) (hd : Bool), DataW.TrodAll enc P W' b sp hd f.resultTypes.toList (v.resultList f.resultTypes.size) (s.fn H (ds ++ gs)).results [])
    (hargs : ∀ sp : Nat → Bool, (∀ p ∈ before, sp p.block = true) → DataW.TrodAll enc P W' 0 sp true f.params.toList args.toList (s.fn H (ds ++ gs)).args pa)
    (hvars : ∀ sp : Nat → Bool, (∀ p ∈ before, sp p.block = true) → DataW.TrodVars enc P W' sp s.vars (s.fn H (ds ++ gs)).vars pv)
    (hps : before = pa ++ pv) (hB : Below W.heap.size W W')
    (hok : ∀ (j : Nat) (t : TypeId) (r : Value), f.resultTypes[j]? = some t → (v.resultList f.resultTypes.size)[j]? = some r → Value.okWide P W' .any 0 t r) :
    s.post enc P f apart fresh handsOn again W args v W' := by
  have hold : ∀ p ∈ before, (fun b => decide (b < W.heap.size)) p.block = true := fun p hp => by simpa using hW.lt p hp
  have hlt := hW.lt
  refine ⟨ds, gs, before, [], pa, pv, hW, hres _ _ _, hargs _ hold, hvars _ hold, World.keptBut_mono (fun p hp => ⟨hp, ?_⟩) (hB.frame (· ∈ before)), fun _ => ?_⟩
  · rw [hps, List.mem_append] at hp
    exact Or.inr hp
  · obtain ⟨_, _, _, _, _, hz, hn⟩ := hW
    refine ⟨hok, _, _, ([] ++ pa) ++ pv, ⟨[] ++ pa, pv, trodAll_append (hargs _ (fun _ _ => rfl)) (hres _ _ _), hvars _ (fun _ _ => rfl), rfl, ?_, ?_⟩, ?_⟩
    · intro b off hp
      have hp' : MemPlace.cell b off ∈ before := by rw [hps]; simpa using hp
      rw [hB.frozen (hlt _ hp')]
      exact hz b off hp'
    · intro ha
      have := hn ha
      rw [hps] at this
      simpa using this
    · intro p hp _
      rw [hps]
      simpa using hp

/-- The context at a call from outside: all that is there is frozen. -/
def Cx0 (W : World) : Cx := ⟨fun o => o < 0, fun _ => .bool false, fun b => b < W.heap.size, W⟩

theorem rel0 (W : World) (hG : GOK (Cx0 W)) : Rel W 0 (fun _ => .bool false) (fun b => b < W.heap.size) (ofL []) (Cx0 W) := by
  refine ⟨rfl, rfl, rfl, Nat.le_refl _, fun _ _ _ => rfl, fun _ _ => rfl, ?_, ?_, ?_, ?_, fun b hb => hb, fun b hb => .inl hb, hG⟩
  · intro o x h; simp [ofL] at h
  · intro o o' x x' b h; simp [ofL] at h
  · intro o x b h; simp [ofL] at h
  · intro o x b h; simp [ofL] at h

/-- An argument of one cell. -/
theorem arg_c {W : World} {base : Nat} {t : TypeId} {v : Value} (hok : Value.okWide P W .any base t v) (hs : ∀ fs, P.underlying t ≠ some (.struct fs)) (ha : ∀ n e, P.underlying t ≠ some (.array n e)) {x : FV}
    (h : All2 (FR (fun b => b < W.heap.size) W) [x] v.cells.toList) : VV (Cx0 W) (.v (.c (.fz x))) v := by
  have hna : ∀ cs, v ≠ .agg cs := by
    rintro cs rfl
    unfold Value.okWide at hok
    split at hok
    · rename_i h'; exact hs _ h'
    · rename_i h'; exact ha _ _ h'
    · unfold Cell.okWide at hok
      split at hok <;> simp_all [Cell.ok]
  have hc : v.cells = #[v] := by
    cases v <;> first | rfl | exact absurd rfl (hna _)
  rw [hc] at h
  exact h.head
/-- An argument of many. -/
theorem arg_a {W : World} {base : Nat} {t : TypeId} {v : Value} (hok : Value.okWide P W .any base t v) (hs : (∃ fs, P.underlying t = some (.struct fs)) ∨ ∃ n e, P.underlying t = some (.array n e)) {xs : List FV}
    (h : All2 (FR (fun b => b < W.heap.size) W) xs v.cells.toList) : VV (Cx0 W) (.v (.agg (xs.map EC.fz))) v := by
  have : ∃ cs, v = .agg cs := by
    unfold Value.okWide at hok
    split at hok
    · obtain ⟨cs, h, _⟩ := hok; exact ⟨cs, h⟩
    · obtain ⟨cs, h, _⟩ := hok; exact ⟨cs, h⟩
    · rename_i h1 h2
      rcases hs with ⟨fs, hs⟩ | ⟨n, e, hs⟩
      · exact absurd hs (h1 fs)
      · exact absurd hs (h2 n e)
  obtain ⟨cs, rfl⟩ := this
  refine ⟨cs.toList, by simp, ?_⟩
  simp only [Value.cells] at h
  exact ⟨by rw [List.length_map]; exact h.1, fun i x y hx hy => by
    rw [List.getElem?_map] at hx
    obtain ⟨z, hz, rfl⟩ := map_some' hx
    exact h.2 i z y hz hy⟩

/-- A LAW THAT IS TRUE and leaves its arguments: from its contract to what the row asks. -/
theorem row_true (K : Kids P (· < P.types.size)) (full : ∀ t e, t < P.types.size → P.underlying t = some (.slice e) → 0 < P.cellsOf e)
    {fid : FuncId} {f : Func} {s : ChangeSpec} {apart fresh handsOn again : Bool} {W : World} {args : Array Value} {ds gs : List (DataW H)} {before : List MemPlace} {tb : TypeId}
    (hW : DataW.Whole enc P f.params.toList s.vars apart W args.toList ds gs before) (hv : s.vars = []) (hres : (s.fn H (ds ++ gs)).results = [.lit (.bool true)]) (hargs : (s.fn H (ds ++ gs)).args = ds) (hvs : (s.fn H (ds ++ gs)).vars = [])
    (hrt : f.resultTypes = #[tb]) (htb : P.underlying tb = some .bool) (hpl : ∀ t ∈ f.params.toList, t < P.types.size) (hG : GOK (Cx0 W))
    {es : List EV} (hvv : All2 (VV (Cx0 W)) es args.toList) (hE : ECalls P fid es [] fun y H' => H' = [] ∧ y = .lit (.bool true)) :
    Calls P fid args W fun e W' => ∃ v, e = .returned v ∧ s.post enc P f apart fresh handsOn again W args v W' := by
  have h := hE (fun _ => .bool false) (fun b => b < W.heap.size) W args.toList (rel0 W hG) hvv
  rw [Array.toArray_toList] at h
  refine h.mono ?_
  rintro e W' ⟨y, H', v, ρ', Φ', rfl, ⟨rfl, rfl⟩, _, hy, r⟩
  have hv1 : v = .bool true := by
    have : FR _ _ (.lit (.bool true)) v := hy
    cases this
    rfl
  subst hv1
  have hB : Below W.heap.size W W' := ⟨r.os, r.tape, r.output, r.size, fun b hb => r.block b hb (by simp)⟩
  obtain ⟨p, q, hA, hV, hpq, _, _⟩ := id hW
  rw [hv] at hV
  have hq : q = [] := by
    cases gs with
    | nil => exact hV
    | cons _ _ => exact hV.elim
  subst hq
  rw [List.append_nil] at hpq
  subst hpq
  have hlt := hW.lt
  have hA' := trodAll_carry hA (fun x hx => hB.same (hlt x hx))
  refine ⟨_, rfl, post_of_below (pa := before) (pv := []) hW ?_ ?_ ?_ (by simp) hB ?_⟩
  · intro b sp hd
    rw [hres, hrt]
    exact trodAll_mk1 (shut_bool htb true)
  · intro sp hsp
    rw [hargs]
    exact DataW.TrodAll.respare K full hpl hA' hsp
  · intro sp _
    rw [hv, hvs]
    rfl
  · exact ok_one hrt rfl (okWide_bool_mk htb true)

end
end Go.EW
