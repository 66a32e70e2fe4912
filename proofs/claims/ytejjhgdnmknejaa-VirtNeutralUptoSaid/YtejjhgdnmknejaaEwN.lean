/- An operation that is ready may be taken ahead of the quiet ones before it: the swap, and many swaps. -/
import Derived.Test.YtejjhgdnmknejaaEwM
namespace Go.EW
open Go

theorem refs_mem {T : List EV} {l : List Opd} {x : Opd} {c : EC} (hx : x ∈ l) (h : asC (ev T x) = some c) : ∀ o ∈ refsC c, o ∈ l.flatMap fun x => refsV (ev T x) := by
  intro o ho
  rw [refs_asC h] at ho
  exact List.mem_flatMap.2 ⟨x, hx, ho⟩

theorem opK0_swap {P : Program} {k : EK} {ide idz : Nat} {ob : Option EO} {ok ok1 : Nat → Prop} {K : EV → (Nat → Option EO) → Prop} {T T1 : List EV} {H : Nat → Option EO}
    (hT : ∀ x ∈ k.opds, ev T1 x = ev T x) (hnew : idz ∉ reach H (k.opds.flatMap fun x => refsV (ev T x))) (hfree : ∀ j, j < 16 → H (ide + j) = none) (hr : ¬ (ide ≤ idz ∧ idz < ide + 16)) (hok : ∀ i, ok1 i → ok i)
    (h : opK0 P k ide ok1 K T1 (addO H idz ob)) :
    opK0 P k ide ok (fun v H' => (∀ o, H o ≠ none → ¬ ok o → H' o = H o) ∧ K v (addO H' idz ob)) T H := by
  have hnr : ∀ {x : Opd} {c : EC}, x ∈ k.opds → asC (ev T x) = some c → idz ∉ refsC c := by
    intro x c hx hc hm
    exact hnew (reach_sub _ (refs_mem hx hc _ hm))
  have hide : H ide = none := by have := hfree 0 (by omega); simpa using this
  have hne : ide ≠ idz := by intro e; exact hr ⟨by omega, by omega⟩
  cases k with
  | q qq =>
    simp only [opK0] at h ⊢
    have h1 : evQ qq T1 (addO H idz ob) ide = evQ qq T (addO H idz ob) ide := evQ_T hT
    have hlook : ∀ o ∈ qq.looks T, addO H idz ob o = H o := by
      intro o ho
      refine addO_ne ?_
      rintro rfl
      refine hnew (reach_sub _ ?_)
      have key : ∀ {x : Opd} {c : EC}, x ∈ qq.opds → asC (ev T x) = some c → o ∈ refsC c → o ∈ (EK.q qq).opds.flatMap fun x => refsV (ev T x) := fun hx hc hm => refs_mem hx hc _ hm
      cases qq <;> simp only [QOp.looks] at ho <;> try (simp at ho; done)
      · split at ho <;> first | (rename_i hx; exact key (by simp [QOp.opds]) hx (by simpa [refsC] using ho)) | simp at ho
      · split at ho <;> first | (rename_i hx; exact key (by simp [QOp.opds]) hx (by simpa [refsC] using ho)) | simp at ho
      · split at ho <;> first | (rename_i hx; exact key (by simp [QOp.opds]) hx (by simpa [refsC] using ho)) | simp at ho
      · split at ho <;> first | (rename_i hx; exact key (by simp [QOp.opds]) hx (by simpa [refsC] using ho)) | simp at ho
      · split at ho <;> first | (rename_i hx; exact key (by simp [QOp.opds]) hx (by simpa [refsC] using ho)) | simp at ho
    rw [h1, evQ_H hlook] at h
    split at h
    · rename_i v ob' hev
      refine ⟨?_, ?_⟩
      · intro o ho _
        exact addO_ne (fun e => ho (by rw [e, hide]))
      · rw [← addO_addO hne]; exact h
    · exact h
  | sto n p x =>
    simp only [opK0] at h ⊢
    have e1 : ev T1 p = ev T p := hT p (by simp [EK.opds])
    have e2 : ev T1 x = ev T x := hT x (by simp [EK.opds])
    rw [e1, e2] at h
    split at h
    · rename_i pc cs hp hx
      rw [stoAt_add (hnr (by simp [EK.opds]) hp)] at h
      split at h
      · rename_i i ob' hs
        have hi := stoAt_ref hs
        have hiz : i ≠ idz := by rintro rfl; exact hnr (by simp [EK.opds]) hp hi
        refine ⟨h.1, hok _ h.2.1, ?_, ?_⟩
        · intro o _ hno
          exact upd_ne _ _ _ (fun e => hno (by rw [e]; exact hok _ h.2.1))
        · rw [← addO_upd hiz]; exact h.2.2
      · exact h
    · exact h
  | app ty es bytes s x =>
    simp only [opK0] at h ⊢
    have e1 : ev T1 s = ev T s := hT s (by simp [EK.opds])
    have e2 : ev T1 x = ev T x := hT x (by simp [EK.opds])
    rw [e1, e2] at h
    split at h
    · rename_i sc xc hs hx
      rw [baseOf_add (hnr (by simp [EK.opds]) hs), elems2_add (hnr (by simp [EK.opds]) hx)] at h
      split at h
      · rename_i old xs ys hb hy
        have hold : ∀ o, old = some o → o ≠ idz := by
          rintro o ho rfl
          exact hnr (by simp [EK.opds]) hs (baseOf_ref hb o ho).1
        refine ⟨h.1, fun o ho => hok _ (h.2.1 o ho), ?_, ?_⟩
        · intro o hlive hno
          rw [upd_ne _ _ _ (fun e => hlive (by rw [e, hide]))]
          cases old with
          | none => rfl
          | some oo => exact upd_ne _ _ _ (fun e => hno (by rw [e]; exact hok _ (h.2.1 oo rfl)))
        · rw [← addO_upd hne, ← addO_dropO (fun e => by cases old with | none => simp at e | some oo => exact hold oo rfl (Option.some.inj e))]
          exact h.2.2
      · exact h
    · exact h
  | cpy es d s =>
    simp only [opK0] at h ⊢
    have e1 : ev T1 d = ev T d := hT d (by simp [EK.opds])
    have e2 : ev T1 s = ev T s := hT s (by simp [EK.opds])
    rw [e1, e2] at h
    split at h
    · rename_i dc xc hd hx
      rw [elems2_add (hnr (by simp [EK.opds]) hx)] at h
      split at h
      · rename_i ys hy
        rw [cpyAt_add (hnr (by simp [EK.opds]) hd)] at h
        split at h
        · rename_i i ob' n hs
          have hi := cpyAt_ref hs
          have hiz : i ≠ idz := by rintro rfl; exact hnr (by simp [EK.opds]) hd hi
          refine ⟨hok _ h.1, ?_, ?_⟩
          · intro o _ hno
            exact upd_ne _ _ _ (fun e => hno (by rw [e]; exact hok _ h.1))
          · rw [← addO_upd hiz]; exact h.2
        · exact h
      · exact h
    · exact h
  | call f args =>
    simp only [opK0] at h ⊢
    have e1 : args.map (ev T1) = args.map (ev T) := List.map_congr_left hT
    rw [e1] at h
    have hfm : (args.map (ev T)).flatMap refsV = (EK.call f args).opds.flatMap fun x => refsV (ev T x) := by simp [EK.opds, List.flatMap_map]
    exact ECallAt.mono hok (fun _ _ h => ⟨fun o h1 h2 => h.1 o h1 (fun h3 => h2 (hok _ h3)), h.2⟩) (ECallAt_add (by rw [hfm]; exact hnew) hr hfree h)
  | clo x args =>
    simp only [opK0] at h ⊢
    have e0 : ev T1 x = ev T x := hT x (by simp [EK.opds])
    have e1 : args.map (ev T1) = args.map (ev T) := List.map_congr_left (fun y hy => hT y (by simp [EK.opds, hy]))
    rw [e0, e1] at h
    split at h
    · rename_i f caps hx
      have hfm : ∀ o, o ∈ reach H ((args.map (ev T) ++ caps.map fun p => EV.v (.c (.ptr p.1 p.2))).flatMap refsV) → o ∈ reach H ((EK.clo x args).opds.flatMap fun x => refsV (ev T x)) := by
        have mono : ∀ {l l' : List Nat}, (∀ o ∈ l, o ∈ l') → ∀ o ∈ stepR H l, o ∈ stepR H l' := by
          intro l l' hl o ho
          unfold stepR at *
          rcases List.mem_append.1 ho with h | h
          · exact List.mem_append_left _ (hl o h)
          · obtain ⟨a, ha, hao⟩ := List.mem_flatMap.1 h
            exact List.mem_append_right _ (List.mem_flatMap.2 ⟨a, hl a ha, hao⟩)
        have base : ∀ o, o ∈ ((args.map (ev T) ++ caps.map fun p => EV.v (.c (.ptr p.1 p.2))).flatMap refsV) → o ∈ ((EK.clo x args).opds.flatMap fun x => refsV (ev T x)) := by
          intro o ho
          rw [List.flatMap_append] at ho
          simp only [EK.opds, List.flatMap_cons]
          rcases List.mem_append.1 ho with h | h
          · refine List.mem_append_right _ ?_
            rw [List.flatMap_map] at h
            exact h
          · refine List.mem_append_left _ ?_
            rw [← refs_asC hx]
            obtain ⟨a, ha, hao⟩ := List.mem_flatMap.1 h
            obtain ⟨p, hp, rfl⟩ := List.mem_map.1 ha
            simp [refsV, refsT, refsC] at hao
            subst hao
            simp only [refsC, List.mem_map]
            exact ⟨p, hp, rfl⟩
        exact mono (mono (mono base))
      exact ⟨h.1, ECallAt.mono hok (fun _ _ h => ⟨fun o h1 h2 => h.1 o h1 (fun h3 => h2 (hok _ h3)), h.2⟩) (ECallAt_add (fun e => hnew (hfm _ e)) hr hfree h.2)⟩
    · exact h
  | nild neg x =>
    simp only [opK0] at h ⊢
    have e1 : ev T1 x = ev T x := hT x (by simp [EK.opds])
    rw [e1] at h
    split at h
    · rename_i c hx
      have hnl : nilLen (addO H idz ob) c = nilLen H c := by
        cases c with
        | row o len =>
          have ho : o ≠ idz := by rintro rfl; exact hnr (by simp [EK.opds]) hx (by simp [refsC])
          simp only [nilLen, addO_ne ho]
        | _ => simp only [nilLen]
      rw [hnl] at h
      split at h
      · exact ⟨fun e => ⟨by simp, h.1 e⟩, fun e => ⟨by simp, h.2 e⟩⟩
      · exact h
    · exact h
  | mrk x =>
    simp only [opK0] at h ⊢
    have e1 : ev T1 x = ev T x := hT x (by simp [EK.opds])
    rw [e1] at h
    split at h
    · rename_i c hx
      have hnl : rowOf (addO H idz ob) c = rowOf H c := by
        cases c with
        | row o len =>
          have ho : o ≠ idz := by rintro rfl; exact hnr (by simp [EK.opds]) hx (by simp [refsC])
          simp only [rowOf, addO_ne ho]
        | _ => simp only [rowOf]
      rw [hnl] at h
      split at h
      · rename_i o xs hro
        have hoz : o ≠ idz := by
          rintro rfl
          refine hnr (by simp [EK.opds]) hx ?_
          cases c with
          | row o' len =>
            simp only [rowOf] at hro
            split at hro
            · split at hro
              · simp only [Option.some.injEq, Prod.mk.injEq] at hro
                simp [refsC, hro.1]
              · simp at hro
            · simp at hro
          | _ => simp [rowOf] at hro
        refine ⟨hok _ h.1, ?_, ?_⟩
        · intro o' _ hno
          exact upd_ne _ _ _ (fun e => hno (by rw [e]; exact hok _ h.1))
        · have e2 : addO (upd H o none) idz ob = upd (addO H idz ob) o none := by
            cases ob with
            | none => rfl
            | some x0 =>
              funext j
              simp only [addO, upd]
              by_cases q1 : j = idz
              · subst q1; simp [Ne.symm hoz]
              · by_cases q2 : j = o
                · subst q2; simp [q1]
                · simp [q1, q2]
          rw [e2]; exact h.2
      · exact h
    · exact h
  | fz k => exact h.elim
  | bad => exact h.elim

theorem fzMV_cst (H : Nat → Option EO) (d : List Nat) (v : Value) : fzMV H d (cst v) = cst v := by
  unfold cst
  split
  · split
    · simp [fzMV, fzMT, litc, fzM]
    · rfl
  · rfl
  · split <;> rfl
  · rfl
theorem ev_fz (H : Nat → Option EO) (d : List Nat) (T : List EV) (x : Opd) : ev (T.map (fzMV H d)) x = fzMV H d (ev T x) := by
  cases x with
  | k v => exact (fzMV_cst H d v).symm
  | t i =>
    simp only [ev, nth_eq, List.getElem?_map]
    cases T[i]? <;> rfl
theorem fz_refs (H : Nat → Option EO) (d : List Nat) (e : EV) : ∀ o ∈ refsV (fzMV H d e), o ∈ refsV e := by
  have h1 : ∀ c, ∀ o ∈ refsC (fzM H d c), o ∈ refsC c := by
    intro c o ho
    cases c with
    | row o' len =>
      simp only [fzM] at ho
      split at ho
      · split at ho
        · simp [refsC] at ho
        · exact ho
      · exact ho
    | _ => exact ho
  have h2 : ∀ t, ∀ o ∈ refsT (fzMT H d t), o ∈ refsT t := by
    intro t o ho
    cases t with
    | c x => exact h1 x o ho
    | agg cs =>
      simp only [fzMT, refsT, List.flatMap_map, List.mem_flatMap] at ho ⊢
      obtain ⟨c, hc, hm⟩ := ho
      exact ⟨c, hc, h1 c o hm⟩
  intro o ho
  cases e with
  | v t => exact h2 t o ho
  | tup ts =>
    simp only [fzMV, refsV, List.flatMap_map, List.mem_flatMap] at ho ⊢
    obtain ⟨t, ht, hm⟩ := ho
    exact ⟨t, ht, h2 t o hm⟩
  | any => exact ho
theorem dead_refs {k : EK} {T : List EV} {H : Nat → Option EO} : ∀ o ∈ deadK k T H, o ∈ k.opds.flatMap fun x => refsV (ev T x) := by
  have rv : ∀ e, ∀ o ∈ rowsV e, o ∈ refsV e := by
    intro e o ho
    have h1 : ∀ c, ∀ o ∈ rowsE c, o ∈ refsC c := by
      intro c o ho
      cases c <;> simp [rowsE] at ho
      subst ho; simp [refsC]
    unfold rowsV at ho
    split at ho
    · exact h1 _ o ho
    · obtain ⟨c, hc, hm⟩ := List.mem_flatMap.1 ho
      exact List.mem_flatMap.2 ⟨c, hc, h1 c o hm⟩
    · simp at ho
  intro o ho
  have ho := (List.mem_filter.1 ho).1
  obtain ⟨e, he, ho⟩ := List.mem_flatMap.1 ho
  unfold dataK at he
  split at he
  · rename_i ps
    obtain ⟨p, hp, rfl⟩ := List.mem_map.1 he
    exact List.mem_flatMap.2 ⟨p.2, by simp only [EK.opds, QOp.opds]; exact List.mem_map.2 ⟨p, hp, rfl⟩, rv _ o ho⟩
  · split at he
    · obtain rfl := List.mem_singleton.1 he
      exact List.mem_flatMap.2 ⟨_, by simp only [EK.opds]; exact List.mem_cons_of_mem _ (List.mem_singleton.2 rfl), rv _ o ho⟩
    · simp at he
  · simp at he
theorem dead_add {k : EK} {T T1 : List EV} {H : Nat → Option EO} {id : Nat} {ob : Option EO} (hT : ∀ x ∈ k.opds, ev T1 x = ev T x) (hnew : id ∉ k.opds.flatMap fun x => refsV (ev T x)) : deadK k T1 (addO H id ob) = deadK k T H := by
  have hd : dataK k T1 = dataK k T := by
    cases k with
    | q qq =>
      cases qq with
      | bsl es z len ps =>
        simp only [dataK]
        exact List.map_congr_left fun p hp => hT p.2 (by simp only [EK.opds, QOp.opds]; exact List.mem_map.2 ⟨p, hp, rfl⟩)
      | _ => rfl
    | sto n p x => simp only [dataK, hT p (by simp [EK.opds]), hT x (by simp [EK.opds])]
    | _ => rfl
  have h0 : ∀ o ∈ (dataK k T).flatMap rowsV, o ≠ id := by
    rintro o ho rfl
    refine hnew ?_
    by_cases hr : isRow H o = true
    · exact dead_refs o (List.mem_filter.2 ⟨ho, hr⟩)
    · have := dead_refs (k := k) (T := T) (H := fun _ => some (.row 0 0 [])) o (List.mem_filter.2 ⟨ho, rfl⟩)
      exact this
  unfold deadK
  rw [hd]
  refine List.filter_congr fun o ho => ?_
  unfold isRow
  rw [addO_ne (h0 o ho)]

theorem opK_swap {P : Program} {k : EK} {ide idz : Nat} {ob : Option EO} {ok ok1 : Nat → Prop} {K : EV → (Nat → Option EO) → Prop} {T T1 : List EV} {H : Nat → Option EO}
    (hT : ∀ x ∈ k.opds, ev T1 x = ev T x) (hnew : idz ∉ reach H (k.opds.flatMap fun x => refsV (ev T x))) (hfree : ∀ j, j < 16 → H (ide + j) = none) (hr : ¬ (ide ≤ idz ∧ idz < ide + 16)) (hok : ∀ i, ok1 i → ok i)
    (h : opK P k ide ok1 K T1 (addO H idz ob)) :
    opK P k ide ok (fun v H' => (∀ o, H o ≠ none → ¬ ok o → H' o = H o) ∧ K v (addO H' idz ob)) T H := by
  cases k with
  | fz k =>
    have hn0 : idz ∉ k.opds.flatMap fun x => refsV (ev T x) := fun e => hnew (reach_sub _ e)
    have hdead := dead_add (k := k) (T := T) (T1 := T1) (H := H) (ob := ob) hT hn0
    obtain ⟨h1, h2⟩ := h
    rw [hdead] at h1 h2
    obtain ⟨d, hd⟩ : ∃ d, deadK k T H = d := ⟨_, rfl⟩
    rw [hd] at h1 h2 hdead
    have hidd : idz ∉ d := by
      intro e
      rw [← hd] at e
      exact hn0 (dead_refs _ e)
    have hH : rmv (addO H idz ob) d = addO (rmv H d) idz ob := by
      cases ob with
      | none => rfl
      | some x =>
        funext o
        simp only [rmv, addO, upd]
        split
        · rename_i ho
          rw [if_neg (by rintro rfl; exact hidd ho)]
        · rfl
    rw [hH] at h2
    have hfz : ∀ c, fzM (addO H idz ob) d c = fzM H d c := by
      intro c
      cases c with
      | row o len =>
        simp only [fzM]
        split
        · rename_i ho
          rw [addO_ne (by rintro rfl; exact hidd ho)]
        · rfl
      | _ => rfl
    have hfm : ∀ e, fzMV (addO H idz ob) d e = fzMV H d e := by
      have ht : ∀ t, fzMT (addO H idz ob) d t = fzMT H d t := by
        intro t
        cases t with
        | c x => simp only [fzMT, hfz]
        | agg cs => simp only [fzMT]; congr 1; exact List.map_congr_left fun c _ => hfz c
      intro e
      cases e with
      | v t => simp only [fzMV, ht]
      | tup ts => simp only [fzMV]; congr 1; exact List.map_congr_left fun t _ => ht t
      | any => rfl
    have hsub : ∀ {l l' : List Nat}, (∀ o ∈ l, o ∈ l') → ∀ o ∈ stepR (rmv H d) l, o ∈ stepR H l' := by
      intro l l' hl o ho
      unfold stepR at *
      rcases List.mem_append.1 ho with h | h
      · exact List.mem_append_left _ (hl o h)
      · obtain ⟨a, ha, hao⟩ := List.mem_flatMap.1 h
        refine List.mem_append_right _ (List.mem_flatMap.2 ⟨a, hl a ha, ?_⟩)
        unfold refsAt rmv at hao
        unfold refsAt
        by_cases e : a ∈ d
        · simp [e] at hao
        · simpa [e] using hao
    show (∀ o ∈ deadK k T H, ok o) ∧ opK0 P k ide ok _ (T.map (fzMV H (deadK k T H))) (rmv H (deadK k T H))
    rw [hd]
    refine ⟨fun o ho => hok o (h1 o ho), ?_⟩
    have := opK0_swap (k := k) (ide := ide) (idz := idz) (ob := ob) (ok := ok) (ok1 := ok1) (K := K) (T := T.map (fzMV H d)) (T1 := T1.map (fzMV (addO H idz ob) d)) (H := rmv H d)
      (fun x hx => by rw [ev_fz, ev_fz, hT x hx, hfm])
      (fun e => hnew (hsub (hsub (hsub (fun o ho => by
        obtain ⟨x, hx, hm⟩ := List.mem_flatMap.1 ho
        rw [ev_fz] at hm
        exact List.mem_flatMap.2 ⟨x, hx, fz_refs _ _ _ o hm⟩))) _ e))
      (fun j hj => by unfold rmv; split <;> first | rfl | exact hfree j hj) hr hok h2
    refine opK0.mono (fun i h => h) ?_ this
    rintro v H' ⟨q1, q2⟩
    refine ⟨fun o ho hno => ?_, q2⟩
    have hod : o ∉ d := fun e => hno (hok o (h1 o e))
    have hro : rmv H d o = H o := if_neg hod
    rw [q1 o (by rw [hro]; exact ho) hno, hro]
  | _ => simp only [opK] at h ⊢; exact opK0_swap hT hnew hfree hr hok h

/-- What a quiet operation does, guard and all. -/
def quietAt (e : EOp) (n : Nat) (T : List EV) (H : Nat → Option EO) (v : EV) (ob : Option EO) : Prop :=
  (gdOK e.gd T = some false ∧ v = .tup [] ∧ ob = none) ∨ (gdOK e.gd T = some true ∧ ∃ qq, e.k = .q qq ∧ evQ qq T H (n + 16 * e.i) = some (v, ob))

theorem quiet_opT {P : Program} {n : Nat} {e : EOp} {lg : List (Nat × List Nat)} {K : List EV → (Nat → Option EO) → Prop} {T : List EV} {H : Nat → Option EO} (hq : e.k.quiet = true) :
    opT P n e lg K T H ↔ ∃ v ob, quietAt e n T H v ob ∧ K (setD T e.dst v) (addO H (n + 16 * e.i) ob) := by
  obtain ⟨qq, hqq⟩ : ∃ qq, e.k = .q qq := by
    cases hk : e.k with
    | q qq => exact ⟨qq, rfl⟩
    | _ => rw [hk] at hq; simp [EK.quiet] at hq
  unfold opT quietAt
  constructor
  · intro h
    split at h
    · exact h.elim
    · rename_i hg; exact ⟨_, none, .inl ⟨hg, rfl, rfl⟩, h⟩
    · rename_i hg
      rw [hqq] at h
      simp only [opK, opK0] at h
      split at h
      · rename_i v ob hev; exact ⟨v, ob, .inr ⟨hg, qq, hqq, hev⟩, h⟩
      · exact h.elim
  · rintro ⟨v, ob, ⟨hg, rfl, rfl⟩ | ⟨hg, q', hq', hev⟩, hK⟩
    · rw [hg]; exact hK
    · rw [hg, hq']
      simp only [opK, opK0, hev]
      exact hK

theorem opK_quiet {P : Program} {k : EK} {id : Nat} {ok ok' : Nat → Prop} {K : EV → (Nat → Option EO) → Prop} {T : List EV} {H : Nat → Option EO} (hq : k.quiet = true) (h : opK P k id ok K T H) : opK P k id ok' K T H := by
  cases k with
  | q qq => exact h
  | _ => simp [EK.quiet] at hq

/-- THE SWAP: what is ready may go ahead of a quiet operation to which it has no relation. -/
theorem opT_swap {P : Program} {n : Nat} {z e : EOp} {lg : List (Nat × List Nat)} {K : List EV → (Nat → Option EO) → Prop} {T : List EV} {H : Nat → Option EO}
    (hz : z.k.quiet = true) (hne : z.i ≠ e.i) (hu : unrel z e = true) (huz : e.k.quiet = true ∨ z.i ∈ e.uz)
    (hnew : (n + 16 * z.i) ∉ reach H (e.refs T)) (hfree : ∀ k, k < 16 → H (n + 16 * e.i + k) = none)
    (h : opT P n z lg (fun T1 H1 => opT P n e ((z.i, z.k.looks T) :: lg) K T1 H1) T H) :
    opT P n e lg (fun T' H' => z.k.looks T' = z.k.looks T ∧ opT P n z lg K T' H') T H := by
  obtain ⟨hu1, hu2, hu3⟩ := unrel_spec hu
  obtain ⟨v, ob, hqz, hK⟩ := (quiet_opT hz).1 h
  have hT : ∀ x ∈ e.k.opds, ev (setD T z.dst v) x = ev T x := evs_setD (tmps_k hu1)
  have hlive : ∀ o ∈ z.k.looks T, (gdOK z.gd T = some true) → H o ≠ none := by
    intro o ho hg
    rcases hqz with ⟨hg', _⟩ | ⟨_, qq, hqq, hev⟩
    · rw [hg] at hg'; simp at hg'
    · rw [hqq] at ho
      exact evQ_live hev o ho
  -- what z does behind e
  have back : ∀ (u : EV) (H' : Nat → Option EO), (∀ o ∈ z.k.looks T, gdOK z.gd T = some true → H' o = H o) → K (setD (setD T z.dst v) e.dst u) (addO H' (n + 16 * z.i) ob) →
      z.k.looks (setD T e.dst u) = z.k.looks T ∧ opT P n z lg K (setD T e.dst u) H' := by
    intro u H' hH' hK'
    refine ⟨looks_setD hu3, (quiet_opT hz).2 ⟨v, ob, ?_, ?_⟩⟩
    · rcases hqz with ⟨hg, h1, h2⟩ | ⟨hg, qq, hqq, hev⟩
      · exact .inl ⟨by rw [gd_setD hu3]; exact hg, h1, h2⟩
      · refine .inr ⟨by rw [gd_setD hu3]; exact hg, qq, hqq, ?_⟩
        have h1 : evQ qq (setD T e.dst u) H' (n + 16 * z.i) = evQ qq T H' (n + 16 * z.i) := by
          refine evQ_T ?_
          have := evs_setD (T := T) (v := u) (tmps_k hu3)
          rw [hqq] at this
          exact this
        rw [h1, evQ_H (H' := H), hev]
        intro o ho
        exact hH' o (by rw [hqq]; exact ho) hg
    · rw [← setD_comm hu2]; exact hK'
  unfold opT at hK ⊢
  rw [gd_setD hu1] at hK
  split at hK
  · exact hK.elim
  · exact back _ H (fun _ _ _ => rfl) hK
  · by_cases hq : e.k.quiet = true
    · have hK1 := opK_quiet (ok' := fun _ => False) hq hK
      have hsw := opK_swap (P := P) (k := e.k) (ide := n + 16 * e.i) (idz := n + 16 * z.i) (ob := ob) (ok := fun _ => False) (T := T) (H := H) hT hnew hfree (by omega) (fun i hi => hi) hK1
      refine opK.mono (fun i hi => hi.elim) ?_ hsw
      rintro u H' ⟨hkeep, hK'⟩
      exact back u H' (fun o ho hg => hkeep o (hlive o ho hg) (fun h => h)) hK'
    · have hzu : z.i ∈ e.uz := huz.resolve_left hq
      have hsw := opK_swap (P := P) (k := e.k) (ide := n + 16 * e.i) (idz := n + 16 * z.i) (ob := ob) (ok := fun i => Wok lg e.uz i ∧ i ∉ z.k.looks T) (T := T) (H := H) hT hnew hfree (by omega)
        (fun i hi => ⟨fun p hp => hi p (List.mem_cons_of_mem _ hp), hi (z.i, z.k.looks T) (List.mem_cons_self ..) hzu⟩) hK
      refine opK.mono (fun i hi => hi.1) ?_ hsw
      rintro u H' ⟨hkeep, hK'⟩
      exact back u H' (fun o ho hg => hkeep o (hlive o ho hg) (fun hc => hc.2 ho)) hK'

/-! ### many swaps -/
/-- The operations l may all be passed by e. -/
def Pass (l : List EOp) (e : EOp) : Prop := ∀ z ∈ l, z.k.quiet = true ∧ z.i ≠ e.i ∧ unrel z e = true ∧ (e.k.quiet = true ∨ z.i ∈ e.uz)

theorem chain_lg {P : Program} {n : Nat} {K : List EV → (Nat → Option EO) → Prop} {l : List EOp} {lg lg' : List (Nat × List Nat)} {T : List EV} {H : Nat → Option EO} (hl : ∀ p ∈ lg', p ∈ lg) (h : chain P n l lg K T H) : chain P n l lg' K T H :=
  chain.mono (fun _ _ h => h) hl h

theorem front {P : Program} {n : Nat} {e : EOp} {K : List EV → (Nat → Option EO) → Prop} {l2 : List EOp} : ∀ {l1 : List EOp} {lg : List (Nat × List Nat)} {T : List EV} {H : Nat → Option EO}, Pass l1 e →
    (∀ z ∈ l1, (n + 16 * z.i) ∉ reach H (e.refs T)) → (∀ k, k < 16 → H (n + 16 * e.i + k) = none) → chain P n (l1 ++ e :: l2) lg K T H →
    opT P n e lg (fun T' H' => chain P n (l1 ++ l2) ((e.i, e.k.looks T) :: lg) K T' H') T H
  | [], lg, T, H, _, _, _, h => h
  | z :: r, lg, T, H, hp, hnew, hfree, h => by
    obtain ⟨hz, hne, hu, huz⟩ := hp z (List.mem_cons_self ..)
    obtain ⟨hu1, hu2, hu3⟩ := unrel_spec hu
    have hzn := hnew z (List.mem_cons_self ..)
    simp only [List.cons_append, chain] at h
    -- the rest, with e at its front
    have h1 : opT P n z lg (fun T1 H1 => opT P n e ((z.i, z.k.looks T) :: lg) (fun T' H' => chain P n (r ++ l2) ((z.i, z.k.looks T) :: (e.i, e.k.looks T) :: lg) K T' H') T1 H1) T H := by
      refine (quiet_opT hz).2 ?_
      obtain ⟨v, ob, hqz, hK⟩ := (quiet_opT hz).1 h
      refine ⟨v, ob, hqz, ?_⟩
      have hrefs : e.refs (setD T z.dst v) = e.refs T := by
        unfold EOp.refs
        have := evs_setD (T := T) (v := v) (tmps_k hu1)
        clear hnew hzn hfree hp
        generalize e.k.opds = l at this
        induction l with
        | nil => rfl
        | cons a t ih =>
          simp only [List.flatMap_cons]
          rw [this a (by simp), ih (fun x hx => this x (by simp [hx]))]
      have hreach : reach (addO H (n + 16 * z.i) ob) (e.refs (setD T z.dst v)) = reach H (e.refs T) := by rw [hrefs]; exact reach_add hzn
      have hfr : ∀ k, k < 16 → addO H (n + 16 * z.i) ob (n + 16 * e.i + k) = none := by
        intro k hk
        rw [addO_ne (by omega)]
        exact hfree k hk
      have ih := front (l2 := l2) (l1 := r) (fun y hy => hp y (List.mem_cons_of_mem _ hy)) (fun y hy => by rw [hreach]; exact hnew y (List.mem_cons_of_mem _ hy)) hfr hK
      rw [looks_setD hu1] at ih
      refine opT.mono (fun p hp => hp) ?_ ih
      intro T' H' hc
      refine chain_lg ?_ hc
      intro p hp
      rcases List.mem_cons.1 hp with rfl | hp
      · exact List.mem_cons_of_mem _ (List.mem_cons_self ..)
      · rcases List.mem_cons.1 hp with rfl | hp
        · exact List.mem_cons_self ..
        · exact List.mem_cons_of_mem _ (List.mem_cons_of_mem _ hp)
    have h2 := opT_swap hz hne hu huz hzn hfree h1
    refine opT.mono (fun p hp => hp) ?_ h2
    rintro T' H' ⟨hl, hc⟩
    simp only [List.cons_append, chain]
    rw [hl]
    -- a quiet operation does not look at the log
    obtain ⟨v, ob, hq, hK⟩ := (quiet_opT hz).1 hc
    exact (quiet_opT hz).2 ⟨v, ob, hq, hK⟩

end Go.EW
