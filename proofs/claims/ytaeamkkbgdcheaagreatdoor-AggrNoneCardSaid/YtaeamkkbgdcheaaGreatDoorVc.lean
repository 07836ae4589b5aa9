/-
  More of the same.
-/
import Derived.Test.YtaeamkkbgdcheaaGreatDoorVb
import Derived.LoopNIn
import Derived.Laws.Externs
import Derived.ChangeSame
import Derived.ChangeStays
import Derived.ReadAgain
import Derived.ChangeBears
import Derived.OpenShut
import Derived.ProofKit
namespace Go.Vm

theorem okIn_names {G : Heap} {v : V} (h : v.okIn (G.map (·.1)) = true) : Within G v := by
  refine okIn_within (ks := G.map (·.1)) (fun a ha => ?_) h
  intro hn
  have : ∀ (G : Heap) (a : Nat), a ∈ G.map (·.1) → hget G a ≠ none := by
    intro G
    induction G with
    | nil => intro a ha; simp at ha
    | cons p r ih =>
      obtain ⟨k, b⟩ := p
      intro a ha
      simp only [hget]
      by_cases e : a = k
      · simp [e]
      · rw [if_neg e]
        refine ih a ?_
        rcases List.mem_cons.1 ha with q | q
        · exact absurd q e
        · exact q
  exact this G a ha hn
theorem okIn_blk {G : Heap} {B : Blk} (h : B.okIn (G.map (·.1)) = true) : BlkIn G B := by
  cases B with
  | var ty e => exact fun c hc => okIn_names (okIn_cells h c hc)
  | arr ty sz es => exact fun e he c hc => okIn_names (okIn_cells ((List.all_eq_true.1 h) e he) c hc)
  | obj k ns ks vs cs => exact fun c hc => okIn_names ((List.all_eq_true.1 h) c hc)

theorem handed_get {E : List (Nat × V)} {o : Oper} {t : Nat} : (t ∈ opTmps o ∧ eget (handed E o) t = eget E t) ∨ (t ∉ opTmps o ∧ eget (handed E o) t = .undef) := by
  unfold handed
  generalize opTmps o = l
  induction l with
  | nil => right; exact ⟨by simp, rfl⟩
  | cons s l ih =>
    simp only [List.map_cons, eget]
    by_cases e : t = s
    · subst e
      left
      simp
    · rw [if_neg e]
      rcases ih with ⟨q1, q2⟩ | ⟨q1, q2⟩
      · exact .inl ⟨by simp [q1], q2⟩
      · exact .inr ⟨by simp [e, q1], q2⟩

theorem within_const (G : Heap) (v : Value) : Within G (if okAgg v then ofV v else .undef) := by
  split
  · rename_i hv
    exact (rep_ofV (F := fun _ => False) (w := default) (β := fun _ => none) (H := G) v hv).within
  · exact .undef

section
variable {P : Program} {ops : Array Oper} {σ : St} {U : Nat → V} {D : Done} {S : Nat → Prop}

/-- What memory holds when the operations S are done. -/
structure HeapOk (D : Done) (S : Nat → Prop) (G Hp : Heap) : Prop where
  old : ∀ a Bk, hget G a = some Bk → hget Hp a = some Bk
  owed : ∀ j nm Bk, (j, nm, Bk) ∈ D.al → S j → hget G nm = none → hget Hp nm = some Bk
  only : ∀ a, hget Hp a ≠ none → hget G a = none → ∃ j Bk, (j, a, Bk) ∈ D.al ∧ S j

/-- Where the region stands. -/
structure AtS (P : Program) (ops : Array Oper) (σ : St) (U : Nat → V) (D : Done) (x : Cx) (w0 : Start) (S : Nat → Prop) (a : Act) (w : World) (β : Nat → Option Nat) : Prop where
  ex : ∃ (l1 : List (Option Nat × Heap)) (pv : Option Nat) (G : Heap) (l2 : List (Option Nat × Heap)) (σS : St), D.gs = l1 ++ (pv, G) :: l2 ∧ (∀ e G', (some e, G') ∈ l1 → ¬ S e) ∧ (∀ e G', (some e, G') ∈ (pv, G) :: l2 → S e) ∧
    Closed G ∧ σS.n = σ.n ∧ σS.pr = σ.pr ∧ EnvOk ops σ.env U S σS.env ∧ HeapOk D S G σS.hp ∧ SimE x w0 β σS a w

/-- Names that are owed come to memory with what they stand for. -/
theorem owed_done {H0 : Heap} {i : Nat} {n : Nat} (T : TrI P ops (bef ops) n σ.env H0 U i D) (hch : chkE (bef ops) D.al D.gs = true) (h0 : ∀ p, p ∈ D.al → hget H0 p.2.1 = none) (hcl : ∀ e k, S e → ((bef ops).getD e 0).testBit k = true → S k) :
    ∀ (l2 : List (Option Nat × Heap)) (l1 : List (Option Nat × Heap)) (pv : Option Nat) (G : Heap), D.gs = l1 ++ (pv, G) :: l2 → (∀ e G', (some e, G') ∈ (pv, G) :: l2 → S e) → ∀ j nm Bk, (j, nm, Bk) ∈ D.al → hget G nm ≠ none → S j
  | [], l1, pv, G, hl, hS, j, nm, Bk, hm, hg => by
    obtain ⟨l, q1, q2⟩ := T.gsl
    rw [q1] at hl
    have := List.append_inj' hl rfl
    simp only [List.cons.injEq, Prod.mk.injEq, and_true] at this
    obtain ⟨_, rfl, rfl⟩ := this
    exact absurd (h0 _ hm) hg
  | (pv2, G2) :: l2, l1, pv, G, hl, hS, j, nm, Bk, hm, hg => by
    cases pv with
    | none =>
      exfalso
      obtain ⟨l, q1, q2⟩ := T.gsl
      rw [q1] at hl
      have hlen := congrArg List.length hl
      simp at hlen
      have : l = l1 ++ ((none, G) :: (pv2, G2) :: l2).dropLast := by
        have h3 := congrArg List.dropLast hl
        rw [List.dropLast_concat] at h3
        rw [h3, List.dropLast_append_of_ne_nil (by simp)]
      obtain ⟨e, he⟩ := q2 (none, G) (by rw [this]; simp)
      simp at he
    | some e =>
      rcases chkE_spec (l1 := l1) hch e G pv2 G2 l2 hl j nm Bk hm hg with q | q
      · exact owed_done T hch h0 hcl l2 (l1 ++ [(some e, G)]) pv2 G2 (by rw [hl]; simp) (fun e' G' h' => hS e' G' (List.mem_cons_of_mem _ h')) j nm Bk hm q
      · exact hcl e j (hS e G (by simp)) q

theorem xD_ok (hmix : P.follows .mixedOrders = true) {call : Caller} (hc : CallerOk P call) {id salt : Nat} {σ' : St} {x : Cx} {w0 : Start} {w : World} {β : Nat → Option Nat} {a : Act} {F : Fence} (hF : FOk F) {Q : Exit → Act → World → Prop}
    (h : xD P call ops salt σ = .ok σ') (hs : SimE x w0 β σ a w) (hQ : ∀ a w β, SimE x w0 β σ' a w → Q .normal a w) : (Code.region id ops true).wpIn F 0 P Q a w := by
  unfold xD at h
  split at h
  rotate_left
  · simp at h
  rename_i htmp
  rw [reckon_eq] at h
  generalize hk : 1000000000000 * (σ.hp.length + 1) + 10000000 * salt = k at h
  split at h
  rotate_left
  · simp at h
  rename_i D hD
  split at h
  rotate_left
  · simp at h
  rename_i hchk
  simp only [Bool.and_eq_true, List.all_eq_true, Bool.or_eq_true] at hchk
  obtain ⟨⟨hfresh, hchE⟩, hchQ⟩ := hchk
  have hback := tmpOk_back htmp
  have hbit : ∀ i j, j ≤ i → ((bef ops).getD j 0).testBit i = false := by
    intro i j hij
    cases hq : ((bef ops).getD j 0).testBit i with
    | false => rfl
    | true => have := bef_lt hback hq; omega
  -- what was reckoned
  obtain ⟨U, T⟩ : ∃ U, TrI P ops (bef ops) σ.n σ.env σ.hp U ops.size D := by
    refine xDs_tr hc hbit ops.toList (bef ops) 0 (by simp) (by simp) (fun _ => .undef) _ D (Nat.zero_le _) ⟨fun j o d hj => by omega, fun e G he => by simp at he, fun l1 e G l2 hl => by cases l1 <;> simp at hl, fun t => .inr ⟨fun k o hk => by omega, rfl⟩, by simp, by simp, ⟨[], rfl, by simp⟩, fun j o hj => by omega⟩ hD
  have h0 : ∀ p, p ∈ D.al → hget σ.hp p.2.1 = none := fun p hp => by simpa using hfresh p hp
  split at h
  rotate_left
  · simp at h
  rename_i pvN GN gsN hgsN
  simp only [Except.ok.injEq] at h
  -- writers of what an operation looks at, or writes, stand in order to it
  have order : ∀ (S : Nat → Prop), (∀ e k, S e → ((bef ops).getD e 0).testBit k = true → S k) → ∀ i o, ops[i]? = some o → ¬ S i → (∀ k, ((bef ops).getD i 0).testBit k = true → S k) →
      ∀ k ok, ops[k]? = some ok → k ≠ i → (∃ t, ok.dst = some t ∧ (t ∈ o.looksAt ops ∨ o.dst = some t)) → (S k ↔ k < i) := by
    intro S hcl i o ho hnS hbS k ok hok hki ⟨t, ht, hto⟩
    rcases Nat.lt_trichotomy k i with hlt | he | hgt
    · refine ⟨fun _ => hlt, fun _ => hbS k (tmpOk_clash htmp hlt hok ho ?_)⟩
      unfold clash
      rw [ht]
      rcases hto with q | q
      · simp [q]
      · simp [q]
    · exact absurd he hki
    · refine ⟨fun hSk => absurd (hcl k i hSk (tmpOk_clash htmp hgt ho hok ?_)) hnS, fun q => by omega⟩
      unfold clash
      rcases hto with q | q
      · simp [ht, q]
      · simp [ht, q]
  refine wpIn_region_any hmix ?_
  -- one operation more
  have step : ∀ (S : Nat → Prop) (a : Act) (w : World) (β : Nat → Option Nat) (i : Nat) (o : Oper) (Kc : Act → World → Prop), AtS P ops σ U D x w0 S a w β → (∀ e k, S e → ((bef ops).getD e 0).testBit k = true → S k) → ops[i]? = some o → ¬ S i →
      (∀ k, ((bef ops).getD i 0).testBit k = true → S k) → (∀ a' w' β', AtS P ops σ U D x w0 (fun j => S j ∨ j = i) a' w' β' → Kc a' w') → wpOpIn F 0 P ops Q i Kc a w := by
    intro S a w β i o Kc hat hcl ho hnS hbS hn
    obtain ⟨l1, pv, G, l2, σS, hgs, hn1, hn2, hclG, hσn, hσp, henv, hheap, hsim⟩ := hat.ex
    have hiN : i < ops.size := (Array.getElem?_eq_some_iff.1 ho).1
    obtain ⟨Ei, hEi, hK⟩ := T.known i o hiN ho
    have horder := order S hcl i o ho hnS hbS
    have looked : ∀ t, t ∈ o.looksAt ops → eget σS.env t = eget Ei t := fun t ht => henv.same hEi fun k ok hok hd => by
      by_cases hki : k = i
      · subst hki
        exact ⟨fun q => absurd q hnS, fun q => by omega⟩
      · exact horder k ok hok hki ⟨t, hd, .inl ht⟩
    have evE : ∀ y, y ∈ o.op.operands.toList → evV σS.env y = evV Ei y := by
      intro y hy
      cases y with
      | tmp t => exact looked t (List.mem_append_left _ (List.mem_filterMap.2 ⟨.tmp t, hy, rfl⟩))
      | _ => rfl
    have gE : guardB ops σS.env o = guardB ops Ei o := by
      unfold guardB
      cases hgd : o.guard with
      | none => rfl
      | some p =>
        obtain ⟨j, want⟩ := p
        simp only
        cases hdd : (ops[j]?).bind (·.dst) with
        | none => rfl
        | some d =>
          simp only
          rw [looked d (List.mem_append_right _ (by simp [hgd, hdd]))]
    have hlast : ∀ k o', S k → ops[k]? = some o' → ∀ d, o.dst = some d → o'.dst = some d → k ≤ i := by
      intro k o' hSk hko d hd hd'
      by_cases hki : k = i
      · omega
      · have := (horder k o' hko hki ⟨d, hd', .inr hd⟩).1 hSk
        omega
    -- a slot is written
    have setok : ∀ (H' : Heap) (u : V), ∃ E', setE σ.n σS.env o.dst u = some E' ∧ Vm.setD { σS with hp := H' } o.dst u = some { σS with hp := H', env := E' } := by
      intro H' u
      unfold setE Vm.setD
      cases hd : o.dst with
      | none => exact ⟨σS.env, rfl, rfl⟩
      | some d =>
        have := T.dsts i o d hiN ho hd
        refine ⟨eset σS.env d u, by simp [this], ?_⟩
        simp only
        rw [if_pos (by rw [hσn]; exact this)]
    have laySub : ∀ c Bk, hget (lay ((bef ops).getD i 0) G D.al) c = some Bk → hget σS.hp c = some Bk := by
      intro c Bk hcb
      rcases lay_cases hcb with q | ⟨q1, j, q2, q3⟩
      · exact hheap.old c Bk q
      · exact hheap.owed j c Bk q2 (hbS j q3) q1
    -- what stays as it is, where the heap does
    have stays : ∀ (E' : List (Nat × V)) (a' : Act) (w' : World) (β' : Nat → Option Nat), setE σ.n σS.env o.dst (U i) = some E' → (∀ nm Bk, (i, nm, Bk) ∉ D.al) → SimE x w0 β' { σS with env := E' } a' w' → (∀ e G', (some e, G') ∈ D.gs → e ≠ i) →
        AtS P ops σ U D x w0 (fun j => S j ∨ j = i) a' w' β' := by
      intro E' a' w' β' hE ha hs' hne
      refine ⟨l1, pv, G, l2, { σS with env := E' }, hgs, fun e G' hm hq => ?_, fun e G' hm => .inl (hn2 e G' hm), hclG, hσn, hσp, henv.step ho (fun k => Iff.rfl) hlast hE, ⟨hheap.old, fun j nm Bk hm hj hg => ?_, fun c h1 h2 => ?_⟩, hs'⟩
      · rcases hq with q | q
        · exact hn1 e G' hm q
        · exact hne e G' (by rw [hgs]; exact List.mem_append_left _ hm) q
      · rcases hj with q | rfl
        · exact hheap.owed j nm Bk hm q hg
        · exact absurd hm (ha nm Bk)
      · obtain ⟨j, Bk, q1, q2⟩ := hheap.only c h1 h2
        exact ⟨j, Bk, q1, .inl q2⟩
    cases hK with
    | skip hg hu ha hne =>
      unfold wpOpIn
      simp only [ho]
      rw [guard_run hsim.env (gE.trans hg)]
      simp only [Bool.false_eq_true, if_false]
      refine ⟨fun f _ => hF.fn f, hn _ _ β ?_⟩
      obtain ⟨E', hE, hset⟩ := setok σS.hp skipV
      exact stays E' _ _ β (hu ▸ hE) ha (hsim.put rep_skip hset) fun e G' hm he => hne G' (he ▸ hm)
    | quiet hg hq hb ha hne =>
      have hval : vopN P σS.env σS.hp o.op = some (U i) := by
        have hcan : vopN P Ei (lay ((bef ops).getD i 0) G D.al) o.op = some (U i) := by
          rcases hchQ _ hq with q | q
          · exact hb q _
          · refine chkQ_spec q l1 pv G l2 hgs (fun e he => ?_) fun e he => ?_
            · cases hq' : ((bef ops).getD e 0).testBit i with
              | false => rfl
              | true => exact absurd (hcl e i (hn2 e G (by rw [he]; simp)) hq') hnS
            · cases hq' : ((bef ops).getD i 0).testBit e with
              | false => rfl
              | true =>
                rcases lastE_mem he with ⟨_, q2⟩ | ⟨G', q2⟩
                · simp at q2
                · exact absurd (hbS e hq') (hn1 e G' q2)
        exact vopN_in evE (fun y hy c hc Bk hB => laySub c Bk hB) hcan
      unfold wpOpIn
      simp only [ho]
      rw [guard_run hsim.env (gE.trans hg)]
      simp only [if_true]
      obtain ⟨E', hE, hset⟩ := setok σS.hp (U i)
      exact hsim.eff hF (vopN_eff hval) hset fun a' w' β' hs' => hn _ _ β' (stays E' _ _ β' hE ha hs' fun e G' hm he => hne G' (he ▸ hm))
    | alloc hg nm Bk h ha hu hne =>
      have hfree : hget σS.hp nm = none := by
        cases hq : hget σS.hp nm with
        | none => rfl
        | some B0 =>
          exfalso
          cases hG : hget G nm with
          | some B1 => exact hnS (owed_done T hchE h0 hcl l2 l1 pv G hgs hn2 i nm Bk ha (by simp [hG]))
          | none =>
            obtain ⟨j, Bk', q1, q2⟩ := hheap.only nm (by simp [hq]) hG
            have := (T.aln j i nm Bk' Bk q1 ha).1
            exact hnS (this ▸ q2)
      have hcan : allocOp P σS.env nm o.op = some (U i, some Bk) := allocOp_in evE h
      unfold wpOpIn
      simp only [ho]
      rw [guard_run hsim.env (gE.trans hg)]
      simp only [if_true]
      obtain ⟨E', hE, hset⟩ := setok ((nm, Bk) :: σS.hp) (U i)
      refine hsim.eff hF (allocOp_eff hcan hfree) hset fun a' w' β' hs' => hn _ _ β' ⟨l1, pv, G, l2, { σS with hp := (nm, Bk) :: σS.hp, env := E' }, hgs, fun e G' hm hq => ?_, fun e G' hm => .inl (hn2 e G' hm), hclG, hσn, hσp, henv.step ho (fun k => Iff.rfl) hlast hE, ⟨fun c Bc hc => ?_, fun j nm' Bk' hm hj hg' => ?_, fun c h1 h2 => ?_⟩, hs'⟩
      · rcases hq with q | rfl
        · exact hn1 e G' hm q
        · exact hne G' (by rw [hgs]; exact List.mem_append_left _ hm)
      · have h1 := hheap.old c Bc hc
        rw [hget_old (by rintro rfl; rw [hfree] at h1; simp at h1)]
        exact h1
      · by_cases e : nm' = nm
        · subst e
          obtain ⟨_, rfl⟩ := T.aln j i nm' Bk' Bk hm ha
          exact hget_new
        · rw [hget_old e]
          rcases hj with q | rfl
          · exact hheap.owed j nm' Bk' hm q hg'
          · exact absurd (hu nm' Bk' hm).1 e
      · by_cases e : c = nm
        · subst e
          exact ⟨i, Bk, ha, .inr rfl⟩
        · rw [hget_old e] at h1
          obtain ⟨j, Bk', q1, q2⟩ := hheap.only c h1 h2
          exact ⟨j, Bk', q1, .inl q2⟩
    | eff hg b1 G' pv' Gp b2 hl hp he hh hal ha =>
      have hsplit : l1 = b1 ++ [(some i, G')] ∧ (pv, G) :: l2 = (pv', Gp) :: b2 := by
        have heq : l1 ++ (pv, G) :: l2 = b1 ++ (some i, G') :: (pv', Gp) :: b2 := hgs.symm.trans hl
        rcases List.append_eq_append_iff.1 heq with ⟨c, q1, q2⟩ | ⟨c, q1, q2⟩
        · exact absurd (hn2 i G' (by rw [q2]; simp)) hnS
        · cases c with
          | nil =>
            simp only [List.nil_append] at q2
            exact absurd (hn2 i G' (by rw [← q2]; simp)) hnS
          | cons c0 c =>
            simp only [List.cons_append, List.cons.injEq] at q2
            obtain ⟨rfl, q2⟩ := q2
            cases c with
            | nil => exact ⟨q1, by simpa using q2.symm⟩
            | cons c1 c =>
              exfalso
              simp only [List.cons_append, List.cons.injEq] at q2
              obtain ⟨rfl, q2⟩ := q2
              cases pv' with
              | some e => exact hn1 e Gp (by rw [q1]; simp) (hbS e (hp e rfl))
              | none =>
                obtain ⟨l, r1, r2⟩ := T.gsl
                have : l = l1 ++ ((pv, G) :: l2).dropLast := by
                  have h3 := congrArg List.dropLast (r1.symm.trans hgs)
                  rw [List.dropLast_concat] at h3
                  rw [h3, List.dropLast_append_of_ne_nil (by simp)]
                obtain ⟨e, he⟩ := r2 (none, Gp) (by rw [this, q1]; simp)
                simp at he
      obtain ⟨hl1, hpv⟩ := hsplit
      simp only [List.cons.injEq, Prod.mk.injEq] at hpv
      obtain ⟨⟨rfl, rfl⟩, rfl⟩ := hpv
      -- what it is shown, and the rest
      generalize hG1 : lay ((bef ops).getD i 0) G D.al = G1 at he hh hal laySub
      let X : Heap := σS.hp.filter fun p => (hget G1 p.1).isNone
      have hXget : ∀ c, hget X c = if hget G1 c = none then hget σS.hp c else none := by
        intro c
        show hget (σS.hp.filter fun p => (hget G1 p.1).isNone) c = _
        generalize σS.hp = L
        induction L with
        | nil => simp [hget]
        | cons p r ih =>
          obtain ⟨k, b⟩ := p
          simp only [List.filter_cons]
          by_cases hk : hget G1 k = none
          · simp only [hk, Option.isNone_none, if_true, hget, ih]
            by_cases e : c = k
            · subst e; simp [hk]
            · simp [e]
          · have : (hget G1 k).isNone = false := by
              cases hq : hget G1 k with
              | none => exact absurd hq hk
              | some _ => rfl
            simp only [this, Bool.false_eq_true, if_false, ih, hget]
            by_cases e : c = k
            · subst e; simp [hk]
            · simp [e]
      have hX : ∀ c, hget X c ≠ none → hget G1 c = none ∧ hget σS.hp c ≠ none := by
        intro c hc
        rw [hXget] at hc
        split at hc
        · rename_i q; exact ⟨q, hc⟩
        · exact absurd rfl hc
      have happ : ∀ c, hget (G1 ++ X) c = hget σS.hp c := by
        intro c
        cases hq : hget G1 c with
        | some B => rw [hget_app_left hq, laySub c B hq]
        | none => rw [hget_app_right hq, hXget, if_pos hq]
      have hold : ∀ c Bk, hget G c = some Bk → hget G1 c = some Bk := fun c Bk q => by rw [← hG1]; exact lay_old q _
      have hdomG : ∀ c, hget G c ≠ none → hget G1 c ≠ none := by
        intro c hc
        cases hq : hget G c with
        | none => exact absurd hq hc
        | some B => rw [hold c B hq]; simp
      have hsimF : SimE x w0 β { σS with hp := G1 ++ X } a w := hsim.congr rfl rfl (fun _ => rfl) happ
      have hclG1 : Closed G1 := by
        intro c Bk hc
        rw [← hG1] at hc
        rcases lay_cases hc with q | ⟨_, j, q2, q3⟩
        · exact (hclG c Bk q).mono hdomG
        · exact okIn_blk (hal _ q2 q3)
      have hH : HRel x w β (G1 ++ X) := hsimF.heap
      have hrep : ∀ y, Rep (frX x w β G1 X) w β G1 (a.eval y) (evV (handed Ei o) y) := by
        intro y
        cases y with
        | tmp t =>
          rcases handed_get (E := Ei) (o := o) (t := t) with ⟨q1, q2⟩ | ⟨_, q2⟩
          · have hin : t ∈ o.looksAt ops := List.mem_append_left _ q1
            show RepV _ _ _ _ (a.tmps.getD t undef) (eget (handed Ei o) t)
            rw [q2, ← looked t hin]
            refine frame_rep hH (hsimF.env t) (okIn_names ?_)
            have := hh (t, eget Ei t) (List.mem_map.2 ⟨t, q1, rfl⟩)
            rw [← looked t hin] at this
            exact this
          · show RepV _ _ _ _ (a.tmps.getD t undef) (eget (handed Ei o) t)
            rw [q2]
            exact .undef _
        | const v =>
          simp only [evV, Act.eval]
          split
          · rename_i hv
            exact rep_ofV v hv
          · exact .undef v
        | global g => exact .t _ _ (.c _ rfl)
        | func f => exact .t _ _ (.fn (.func f) #[] #[] [] [] rfl rfl (by simp) (by simp))
      unfold wpOpIn
      simp only [ho]
      rw [guard_run hsim.env (gE.trans hg)]
      simp only [if_true]
      refine (he.2 _ β w a (frame_in hH hclG1) hrep).wp hF he.1 fun v w' hv => ?_
      obtain ⟨β', S1, hv⟩ := hv
      have hd : ∀ c, hget X c ≠ none → hget G' c = none := by
        intro c hc
        obtain ⟨c1, c2⟩ := hX c hc
        have c3 : hget G c = none := by
          cases hq : hget G c with
          | none => rfl
          | some B => rw [hold c B hq] at c1; simp at c1
        obtain ⟨j, Bk, q1, q2⟩ := hheap.only c c2 c3
        cases hq : hget G' c with
        | none => rfl
        | some B =>
          exfalso
          rcases chkE_spec (l1 := b1) hchE i G' pv G l2 hl j c Bk q1 (by simp [hq]) with r | r
          · exact r c3
          · have := lay_new c3 r (fun j' B' q' => T.aln j' j c B' Bk q' q1) q1
            rw [hG1, c1] at this
            simp at this
      obtain ⟨β'', _, S2, tr⟩ := frame_out hH (fun c hc => (hX c hc).1) S1 hd
      obtain ⟨E', hE, hset⟩ := setok (G' ++ X) (U i)
      have hs2 := (hsimF.only S2).put (tr _ _ hv) hset
      refine hn _ _ β'' ⟨b1, some i, G', (pv, G) :: l2, { σS with hp := G' ++ X, env := E' }, hl, fun e Ge hm hq => ?_, fun e Ge hm => ?_, S1.heap.closed, hσn, hσp, henv.step ho (fun k => Iff.rfl) hlast hE, ⟨fun c Bc hc => hget_app_left hc, fun j nm Bk hm hj hg' => ?_, fun c h1 h2 => ?_⟩, hs2⟩
      · rcases hq with q | rfl
        · exact hn1 e Ge (by rw [hl1]; simp [hm]) q
        · have := T.gsd b1 e G' ((pv, G) :: l2) hl e Ge hm
          omega
      · rcases List.mem_cons.1 hm with q | q
        · simp only [Prod.mk.injEq, Option.some.injEq] at q
          exact .inr q.1
        · exact .inl (hn2 e Ge q)
      · have hSj : S j := by
          rcases hj with q | rfl
          · exact q
          · exact absurd hm (ha nm Bk)
        have g1 : hget G1 nm = none := by
          cases hq : hget G1 nm with
          | none => rfl
          | some B => exact absurd hg' (S1.dom nm (by simp [hq]))
        have g2 : hget G nm = none := by
          cases hq : hget G nm with
          | none => rfl
          | some B => rw [hold nm B hq] at g1; simp at g1
        rw [hget_app_right hg', hXget, if_pos g1]
        exact hheap.owed j nm Bk hm hSj g2
      · rw [hget_app_right h2] at h1
        obtain ⟨c1, c2⟩ := hX c h1
        have c3 : hget G c = none := by
          cases hq : hget G c with
          | none => rfl
          | some B => rw [hold c B hq] at c1; simp at c1
        obtain ⟨j, Bk, q1, q2⟩ := hheap.only c c2 c3
        exact ⟨j, Bk, q1, .inl q2⟩
  -- all of them
  have main : ∀ (fuel : Nat) (listed : Array Bool) (S : Nat → Prop) (a : Act) (w : World) (β : Nat → Option Nat), listed.size = ops.size → (∀ i, i < ops.size → (listed.getD i true = true ↔ S i)) →
      (∀ i, S i → i < ops.size) → (∀ i o, S i → ops[i]? = some o → ∀ e, e ∈ o.after.toList → Region.binds .any e = true → S e.on) → ((List.range ops.size).filter fun i => !listed.getD i true).length ≤ fuel →
      AtS P ops σ U D x w0 S a w β → wpAnyIn F 0 P .any ops Q fuel listed a w := by
    intro fuel
    induction fuel with
    | zero => ?_
    | succ fuel ih => ?_
    all_goals
      intro listed S a w β hsz hlist hSlt hclosed hfuel hat
      have done : Region.ready .any ops listed = [] → ∀ i, i < ops.size → S i := by
        intro hr i
        induction i using Nat.strongRecOn with
        | _ i ihi =>
          intro hi
          refine Classical.byContradiction fun hn => ?_
          have ho : ops[i]? = some ops[i] := Array.getElem?_eq_getElem hi
          have hmem : i ∈ Region.ready .any ops listed := by
            refine ready_iff.2 ⟨_, ho, ?_, fun e he hb => ?_⟩
            · cases hq : listed.getD i true with
              | false => rfl
              | true => exact absurd ((hlist i hi).1 hq) hn
            · have hlt := hback i _ ho e he hb
              have := (hlist e.on (by omega)).2 (ihi e.on hlt (by omega))
              rw [Array.getD_eq_getD_getElem?] at this ⊢
              have hin : e.on < listed.size := by omega
              rw [Array.getElem?_eq_getElem hin] at this ⊢
              exact this
          rw [hr] at hmem
          simp at hmem
      have finish : Region.ready .any ops listed = [] → Q .normal a w := by
        intro hr
        have hall := done hr
        obtain ⟨l1, pv, G, l2, σS, hgs, hn1, hn2, hclG, hσn, hσp, henv, hheap, hsim⟩ := hat.ex
        have hl1 : l1 = [] := by
          cases l1 with
          | nil => rfl
          | cons p l1 =>
            exfalso
            obtain ⟨l, r1, r2⟩ := T.gsl
            have : l = (p :: l1) ++ ((pv, G) :: l2).dropLast := by
              have h3 := congrArg List.dropLast (r1.symm.trans hgs)
              rw [List.dropLast_concat] at h3
              rw [h3, List.dropLast_append_of_ne_nil (by simp)]
            obtain ⟨e, he⟩ := r2 p (by rw [this]; simp)
            obtain ⟨p1, p2⟩ := p
            simp only at he
            subst he
            exact hn1 e p2 (by simp) (hall e (T.gsj e p2 (by rw [hgs]; simp)))
        subst hl1
        rw [hgsN, List.nil_append] at hgs
        simp only [List.cons.injEq, Prod.mk.injEq] at hgs
        obtain ⟨⟨rfl, rfl⟩, rfl⟩ := hgs
        refine hQ a w β ?_
        rw [← h]
        refine hsim.congr (by simp [hσn]) (by simp [hσp]) (fun t => ?_) fun c => ?_
        · refine T.env.same henv fun k ok hok _ => ?_
          have := (Array.getElem?_eq_some_iff.1 hok).1
          exact ⟨fun _ => hall k this, fun _ => this⟩
        · simp only
          cases hq : hget GN c with
          | some B => rw [allIn_old hq, hheap.old c B hq]
          | none =>
            by_cases hex : ∃ j Bk, (j, c, Bk) ∈ D.al
            · obtain ⟨j, Bk, hm⟩ := hex
              rw [allIn_new hq (fun j' B' q' => (T.aln j' j c B' Bk q' hm).2) ⟨j, hm⟩, hheap.owed j c Bk hm (hall j (T.alj j c Bk hm)) hq]
            · rw [allIn_none hq fun j B hm => hex ⟨j, B, hm⟩]
              cases hq2 : hget σS.hp c with
              | none => rfl
              | some B =>
                obtain ⟨j, Bk, q1, _⟩ := hheap.only c (by simp [hq2]) hq
                exact absurd ⟨j, Bk, q1⟩ hex
    · refine ⟨?_, ?_⟩
      · cases hr : Region.ready .any ops listed with
        | nil => rfl
        | cons i r =>
          have hmem : i ∈ Region.ready .any ops listed := by rw [hr]; simp
          obtain ⟨o, ho, hl, _⟩ := ready_iff.1 hmem
          have : i ∈ (List.range ops.size).filter fun i => !listed.getD i true := by
            rw [List.mem_filter, List.mem_range]
            exact ⟨(Array.getElem?_eq_some_iff.1 ho).1, by rw [hl]; rfl⟩
          have := List.length_pos_of_mem this
          omega
      · refine finish ?_
        cases hr : Region.ready .any ops listed with
        | nil => rfl
        | cons i r =>
          have hmem : i ∈ Region.ready .any ops listed := by rw [hr]; simp
          obtain ⟨o, ho, hl, _⟩ := ready_iff.1 hmem
          have : i ∈ (List.range ops.size).filter fun i => !listed.getD i true := by
            rw [List.mem_filter, List.mem_range]
            exact ⟨(Array.getElem?_eq_some_iff.1 ho).1, by rw [hl]; rfl⟩
          have := List.length_pos_of_mem this
          omega
    · refine ⟨finish, fun i hmem => ?_⟩
      obtain ⟨o, ho, hl, hafter⟩ := ready_iff.1 hmem
      have hiN : i < ops.size := (Array.getElem?_eq_some_iff.1 ho).1
      have hnS : ¬ S i := fun q => by rw [(hlist i hiN).2 q] at hl; simp at hl
      have hafter' : ∀ e, e ∈ o.after.toList → Region.binds .any e = true → S e.on := by
        intro e he hb
        have hlt := hback i o ho e he hb
        refine (hlist e.on (by omega)).1 ?_
        have := hafter e he hb
        rw [Array.getD_eq_getD_getElem?] at this ⊢
        have hin : e.on < listed.size := by omega
        rw [Array.getElem?_eq_getElem hin] at this ⊢
        exact this
      have hbS : ∀ k, ((bef ops).getD i 0).testBit k = true → S k := fun k hk => bef_closed (L := S) hclosed ho hafter' hk
      have hcl : ∀ e k, S e → ((bef ops).getD e 0).testBit k = true → S k := by
        intro e k hSe hk
        have he : ops[e]? = some (ops[e]'(hSlt e hSe)) := Array.getElem?_eq_getElem (hSlt e hSe)
        exact bef_closed (L := S) hclosed he (fun ed h1 h2 => hclosed e _ hSe he ed h1 h2) hk
      refine step S a w β i o _ hat hcl ho hnS hbS fun a' w' β' hat' => ?_
      refine ih _ (fun j => S j ∨ j = i) a' w' β' (by simpa using hsz) (fun j hj => ?_) (fun j hj => hj.elim (hSlt j) fun e => e ▸ hiN) (fun j oj hj hoj e he hb => ?_) ?_ hat'
      · rw [Array.getD_eq_getD_getElem?, Array.getElem?_setIfInBounds]
        by_cases e : i = j
        · subst e
          simp [hsz, hj]
        · rw [if_neg e, ← Array.getD_eq_getD_getElem?, hlist j hj]
          exact ⟨.inl, fun q => q.elim (fun q => q) fun q => absurd q.symm e⟩
      · rcases hj with hj | rfl
        · exact .inl (hclosed j oj hj hoj e he hb)
        · rw [ho] at hoj
          obtain rfl := by simpa using hoj
          exact .inl (hafter' e he hb)
      · have := filter_lt (p := fun i => !listed.getD i true) (q := fun j => !(listed.setIfInBounds i true).getD j true) (l := List.range ops.size) (fun j hj => by
          rw [Bool.not_eq_true', Array.getD_eq_getD_getElem?, Array.getElem?_setIfInBounds] at hj
          by_cases e : i = j
          · subst e
            simp [hsz, hiN] at hj
          · rw [if_neg e, ← Array.getD_eq_getD_getElem?] at hj
            simp [hj]) (List.mem_range.2 hiN) (by simp [hl]) (by simp [Array.getD_eq_getD_getElem?, hsz, hiN])
        omega
  refine main ops.size _ (fun _ => False) a _ β (by simp) (fun i hi => by simp [Array.getD_eq_getD_getElem?, hi]) (fun i h => h.elim) (fun i o h => h.elim) (by
    refine Nat.le_trans (List.length_filter_le _ _) (by simp)) ?_
  obtain ⟨l, q1, q2⟩ := T.gsl
  refine ⟨l, none, σ.hp, [], σ, q1, fun e G' _ hS => hS, fun e G' hm => by simp at hm, hs.heap.closed, rfl, rfl, fun t => .inr ⟨fun k o hS => hS.elim, rfl⟩, ⟨fun a Bk h => h, fun j nm Bk _ hS => hS.elim, fun a h1 h2 => absurd h2 h1⟩, hs.drew⟩
end
end Go.Vm
namespace Go.Vm

def exitOf : Out → Exit
  | .norm => .normal
  | .exit i => .exit i
  | .ret => .ret
def postE (x : Cx) (w0 : Start) (o : Out) (σ : St) : Exit → Act → World → Prop := fun e a w => e = exitOf o ∧ ∃ β, SimE x w0 β σ a w

/-- In which round it goes. -/
def RdOk (rd : Option Nat) (F : Fence) (w0 : Start) : Prop :=
  match rd with
  | none => F = Fence.wide
  | some l => ∃ b, F = Fence.wide.inRound b ∧ w0.β l = some b ∧ ∃ ns ks vs cs, hget w0.H l = some (.obj 2 ns ks vs cs)
theorem RdOk.fok {rd : Option Nat} {F : Fence} {w0 : Start} (h : RdOk rd F w0) : FOk F := by
  cases rd with
  | none => exact .inl h
  | some l => obtain ⟨b, h, _⟩ := h; exact .inr ⟨b, h⟩
theorem RdOk.at {l : Nat} {F : Fence} {w0 : Start} (h : RdOk (some l) F w0) {x : Cx} {β : Nat → Option Nat} {σ : St} {a : Act} {w : World} (hs : SimE x w0 β σ a w) : ∃ b, F = Fence.wide.inRound b ∧ β l = some b := by
  obtain ⟨b, h1, h2, ns, ks, vs, cs, h3⟩ := h
  exact ⟨b, h1, (hs.start.objStays h3).1.trans h2⟩

theorem range_ops (ops : Array Oper) : (List.range ops.size).map (ops[·]?) = ops.toList.map some := by
  apply List.ext_getElem?
  intro i
  rw [List.getElem?_map, List.getElem?_map]
  by_cases hi : i < ops.size
  · rw [List.getElem?_range hi]
    simp [hi]
  · rw [List.getElem?_eq_none (by simpa using hi), List.getElem?_eq_none (by simpa using hi)]
    rfl

theorem loopObj_some {ns : List Nat} {ks : List Value} {cs : List Code} {xs : List Value} {o : Obj} (h : objOf 2 ns ks cs xs = some o) :
    ∃ st ps assign body pend d fn tmps, ns = st :: ps ∧ ks = [] ∧ cs = assign :: body :: pend ∧ xs = .pointer (some ⟨d, 0, none⟩) :: .int .i64 fn :: tmps ∧
      o = .loop { state := loopSt st, pending := pend.head?, fn := fn.toNat, tmps := tmps.toArray, params := ps.toArray, assign := assign, body := body, defers := d } := by
  change loopObj ns ks cs xs = some o at h
  unfold loopObj at h
  split at h
  · simp only [Option.some.injEq] at h
    exact ⟨_, _, _, _, _, _, _, _, rfl, rfl, rfl, rfl, h.symm⟩
  · simp at h

section
variable {P : Program} {x : Cx} {w : World} {β : Nat → Option Nat} {H : Heap}

theorem getLoop_run {b : Nat} {r : Loop} (h : w.heap[b]? = some (.loop r)) : (Instr.getLoop b).run P w = .ok r w := by
  simp only [Instr.getLoop, Sem.run_bind, getObj, Sem.run, h, Result.andThen_ok]
  rfl
theorem setObj_run {b : Nat} {o o' : Obj} (h : w.heap[b]? = some o) (hn : ∀ c t f, o ≠ .cells c t f) : (setObj b o').run P w = .ok () { w with heap := w.heap.setIfInBounds b o' } := by
  simp only [setObj, Sem.run, h]

/-- A loop's record. -/
theorem loopBlk (hH : HRel x w β H) {l b : Nat} {ns : List Nat} {ks : List Value} {vs : List V} {cs : List Code} (hl : hget H l = some (.obj 2 ns ks vs cs)) (hb : β l = some b) :
    ∃ (st : Nat) (ps : List Nat) (assign body : Code) (pend : List Code) (d : Nat) (fn : Int) (tmps : List Value), ns = st :: ps ∧ ks = [] ∧ cs = assign :: body :: pend ∧
      w.heap[b]? = some (.loop { state := loopSt st, pending := pend.head?, fn := fn.toNat, tmps := tmps.toArray, params := ps.toArray, assign := assign, body := body, defers := d }) ∧
      tmps.length + 2 = vs.length ∧ ∀ (j : Nat) (v : Value) (c : V), (.pointer (some ⟨d, 0, none⟩) :: .int .i64 fn :: tmps)[j]? = some v → vs[j]? = some c → Rep x w β H v c := by
  obtain ⟨xs, o, hw, ho, hlen, hr⟩ := objBlk hH hl hb
  obtain ⟨st, ps, assign, body, pend, d, fn, tmps, rfl, rfl, rfl, rfl, rfl⟩ := loopObj_some ho
  exact ⟨st, ps, assign, body, pend, d, fn, tmps, rfl, rfl, rfl, hw, by simpa using hlen, hr⟩

/-- It turns. -/
theorem loopTurn (hH : HRel x w β H) {l b st : Nat} {ps : List Nat} {vs : List V} {assign body : Code} {pend : List Code} (hl : hget H l = some (.obj 2 (st :: ps) [] vs (assign :: body :: pend))) (hb : β l = some b) :
    ∃ r : Loop, (Instr.getLoop b).run P w = .ok r w ∧ r.state = loopSt st ∧ r.pending = pend.head? ∧ r.assign = assign ∧ r.body = body ∧ r.params = ps.toArray ∧ r.tmps.size + 2 = vs.length ∧
      (∀ (j : Nat) (v : Value) (c : V), r.tmps[j]? = some v → vs[j + 2]? = some c → Rep x w β H v c) ∧
      ∀ st' pend', ∃ w', (setObj b (.loop { r with state := loopSt st', pending := List.head? pend' })).run P w = .ok () w' ∧
        Step x w β H w' β (hset H l (.obj 2 (st' :: ps) [] vs (assign :: body :: pend'))) := by
  obtain ⟨st0, ps0, assign0, body0, pend0, d, fn, tmps, e1, -, e2, hw, hlen, hr⟩ := loopBlk hH hl hb
  simp only [List.cons.injEq] at e1 e2
  obtain ⟨rfl, rfl⟩ := e1
  obtain ⟨rfl, rfl, rfl⟩ := e2
  refine ⟨_, getLoop_run hw, rfl, rfl, rfl, rfl, rfl, by simpa using hlen, fun j v c h1 h2 => hr (j + 2) v c (by simpa using h1) h2, fun st' pend' => ⟨_, setObj_run hw (by simp), ?_⟩⟩
  exact setObj_good hH hl hb (xs := .pointer (some ⟨d, 0, none⟩) :: .int .i64 fn :: tmps) rfl (by simpa using hlen) hr

theorem enter_ok {rd : Option Nat} {F : Fence} {w0 : Start} {σ : St} {a : Act} {e : Nat} {H1 : Heap} {mk : List Nat} (hrd : RdOk rd F w0) (hs : SimE x w0 β σ a w) (h : waitOf rd σ.hp = some (e, H1, mk)) (fn : FuncId) (ps : Array Tmp) (assign body : Code) :
    ∃ (mark : List Deferred) (w1 : World) (β1 : Nat → Option Nat) (r : Nat),
      (Instr.enterLoop fn a.tmps ps assign body F.round).run P w = .ok (w1.heap.size, mark) (w1.alloc (.loop { state := .ready, pending := none, fn := fn, tmps := a.tmps, params := ps, assign := assign, body := body, defers := r })) ∧
      SimE x w0 β1 { σ with hp := H1, pr := mk ++ σ.pr } { a with defers := mark ++ a.defers } w1 ∧ β1 e = some r ∧ ∃ ns ks vs cs, hget H1 e = some (.obj 3 ns ks vs cs) := by
  cases rd with
  | some l0 =>
    obtain ⟨b, rfl, hb⟩ := hrd.at hs
    simp only [waitOf] at h
    split at h
    · rename_i st ps0 e0 vs0 c1 c2 cs0 hl
      simp only [Option.some.injEq, Prod.mk.injEq] at h
      obtain ⟨rfl, rfl, rfl⟩ := h
      obtain ⟨st0, ps0', assign0, body0, pend0, d, fn0, tmps, e1, -, e2, hw, hlen, hr⟩ := loopBlk hs.heap hl hb
      have hp := hr 0 _ _ rfl rfl
      cases hp with
      | ob _ _ _ r ns ks vs cs hH0 hb0 hv =>
        have hv' : Value.pointer (some ⟨d, 0, none⟩) = .pointer (some ⟨r, 0, none⟩) := hv
        simp only [Value.pointer.injEq, Option.some.injEq, Addr.mk.injEq, and_true] at hv'
        subst hv'
        refine ⟨[], w, β, d, ?_, hs, hb0, ns, ks, vs, cs, hH0⟩
        simp only [Instr.enterLoop, Fence.inRound_round, Sem.run_bind, getLoop_run hw, Result.andThen_ok, Sem.run_pure, newObj, Sem.run]
        rfl
    · simp at h
  | none =>
    obtain rfl : F = Fence.wide := hrd
    simp only [waitOf, reckon_eq] at h
    split at h
    · rename_i hd
      simp only [Option.some.injEq, Prod.mk.injEq] at h
      obtain ⟨rfl, rfl, rfl⟩ := h
      have S := Step.alloc hs.heap _ hd (.obj 3 [] [] [] []) (.deferred (some [])) fun tr => .obj 3 [] [] [] [] w.heap.size [] _ (upd_same _ _ _) (alloc_new _ _) rfl rfl (by simp)
      have h1 := hs.only S
      refine ⟨[{ target := .collected w.heap.size, args := #[] }], w.alloc (.deferred (some [])), _, w.heap.size, ?_, ⟨h1.start, h1.env, h1.size, ?_, fun n hn => ?_⟩, upd_same _ _ _, [], [], [], [], hget_new⟩
      · simp only [Instr.enterLoop, Fence.wide, Sem.run_bind, newObj, Sem.run, Result.andThen_ok, Sem.run_pure]
        rfl
      · obtain ⟨rs, q1, q2⟩ := h1.defs
        refine ⟨w.heap.size :: rs, by simp [q1], ?_⟩
        rw [List.map_append, q2]
        simp [upd_same]
      · rcases List.mem_append.1 hn with hn | hn
        · rw [List.mem_singleton] at hn
          subst hn
          exact ⟨[], [], [], [], hget_new⟩
        · exact h1.marks n hn
    · simp at h
end

theorem callable_enter {P : Program} {f : FuncId} (h : callable P f = true) (args : Array Value) (w : World) : (callFunc f args).run P w = .ok (.enter f args) w := by
  unfold callable at h
  split at h
  · rename_i fn hfun
    simp only [Bool.and_eq_true, Bool.not_eq_true'] at h
    obtain ⟨hf1, hf2⟩ := h
    have hf3 : fn.body.isNone = false := by cases hb : fn.body <;> simp_all
    simp only [callFunc, Sem.run_bind, run_program, Result.andThen_ok, hfun, hf2, hf3, Bool.false_eq_true, if_false, Sem.run_pure]
  · simp at h

theorem enter2_ok {P : Program} {x : Cx} {w : World} {β : Nat → Option Nat} {rd : Option Nat} {F : Fence} {w0 : Start} {σ : St} {a : Act} {e : Nat} {H1 : Heap} {mk : List Nat} (hrd : RdOk rd F w0) (hs : SimE x w0 β σ a w) (h : waitOf rd σ.hp = some (e, H1, mk)) (fn : FuncId) (ps : Array Tmp) (assign body : Code) (l : Nat) (hfree : hget H1 l = none) :
    ∃ (mark : List Deferred) (w2 : World) (β2 : Nat → Option Nat) (lB : Nat), (Instr.enterLoop fn a.tmps ps assign body F.round).run P w = .ok (lB, mark) w2 ∧
      SimE x w0 β2 { σ with hp := (l, .obj 2 (0 :: ps.toList) [] (.ob 3 e :: .undef :: (List.range σ.n).map (eget σ.env)) [assign, body]) :: H1, pr := mk ++ σ.pr } { a with defers := mark ++ a.defers } w2 ∧ β2 l = some lB := by
  obtain ⟨mark, w1, β1, r, hent, hs1, hr, ns3, ks3, vs3, cs3, hg3⟩ := enter_ok (P := P) hrd hs h fn ps assign body
  have S2 := Step.alloc hs1.heap l hfree (.obj 2 (0 :: ps.toList) [] (.ob 3 e :: .undef :: (List.range σ.n).map (eget σ.env)) [assign, body])
    (.loop { state := .ready, pending := none, fn := fn, tmps := a.tmps, params := ps, assign := assign, body := body, defers := r }) fun tr =>
      .obj 2 _ _ _ _ w1.heap.size (.pointer (some ⟨r, 0, none⟩) :: .int .i64 (fn : Nat) :: a.tmps.toList) _ (upd_same _ _ _) (alloc_new _ _) (by simp [objOf, loopObj, loopSt]) (by simpa using hs1.size) fun j v c e1 e2 => by
        rcases j with _ | _ | j
        · simp only [List.getElem?_cons_zero, Option.some.injEq] at e1 e2
          subst e1 e2
          exact tr _ _ (.ob _ 3 e r ns3 ks3 vs3 cs3 hg3 hr rfl)
        · simp only [List.getElem?_cons_succ, List.getElem?_cons_zero, Option.some.injEq] at e2
          subst e2
          exact .undef _
        · simp only [List.getElem?_cons_succ] at e1 e2
          have hj : j < σ.n := by
            have := (List.getElem?_eq_some_iff.1 e2).1
            simpa using this
          rw [List.getElem?_map, List.getElem?_range hj] at e2
          simp only [Option.map_some, Option.some.injEq] at e2
          subst e2
          have := hs1.env j
          rw [Array.getD_eq_getD_getElem?, ← Array.getElem?_toList, e1] at this
          exact tr _ _ this
  exact ⟨mark, _, _, w1.heap.size, hent, hs1.only S2, upd_same _ _ _⟩

theorem range_ok {P : Program} {x : Cx} {w w2 : World} {β2 : Nat → Option Nat} {F : Fence} (hF : FOk F) {w0 : Start} {σ : St} {a : Act} {l lB : Nat} {mark : List Deferred} {mk : List Nat} {H2 H3 : Heap} {f : FuncId} {as bs : List V} {r0 : V} {g : Operand} {st : Nat} {ps' : List Nat} {vs' : List V} {as' bd' : Code} {pend : List Code} {o : Out}
    {fn : FuncId} {ps : Array Tmp} {assign body : Code}
    (hcon : SndC P (.f f) (as ++ [.ob 2 l] ++ bs) H2 r0 H3) (hs2 : SimE x w0 β2 { σ with hp := H2, pr := mk ++ σ.pr } { a with defers := mark ++ a.defers } w2) (hlB : β2 l = some lB) (hfn : fnOf (evV σ.env g) = some (f, as, bs)) (hcallable : callable P f = true)
    (hrec : hget H3 l = some (.obj 2 (st :: ps') [] vs' (as' :: bd' :: pend))) (hst : ¬ st = 1) (hout : outOf pend = some o) (hent : (Instr.enterLoop fn a.tmps ps assign body F.round).run P w = .ok (lB, mark) w2) (hl2 : ∃ ns ks vs cs, hget H2 l = some (.obj 2 ns ks vs cs)) :
    ∃ (d : Deferred) (w₁' : World) (f : FuncId) (args : Array Value) (w₂ : World),
      (Instr.enterLoop fn a.tmps ps assign body F.round).run P w = .ok (lB, mark) w2 ∧
      (resolve a.eval (rangeCall g lB) 0).run P w2 = .ok d w₁' ∧
      (∀ f', Target.leads P w₁' d.target d.args = some f' → F.fn f') ∧
      (invoke d.target d.args).run P w₁' = .ok (.enter f args) w₂ ∧
      (F.depth.isSome = true → 1 ≤ 0) ∧
      CallsIn F (0 - 1) P f args w₂ (rangePost F 0 P lB (postE x w0 o { σ with hp := hset H3 l (.obj 2 (3 :: ps') [] vs' (as' :: bd' :: pend)), pr := mk ++ σ.pr }) { a with defers := mark ++ a.defers }) := by
  obtain ⟨ns2, ks2, vs2, cs2, hl2⟩ := hl2
  have hj : (pend.head? = none ∧ o = .norm) ∨ (pend.head? = some .ret ∧ o = .ret) ∨ ∃ i, pend.head? = some (.exit i) ∧ o = .exit i := by
    unfold outOf at hout
    split at hout
    · exact .inl ⟨rfl, by simpa using hout.symm⟩
    · exact .inr (.inl ⟨rfl, by simpa using hout.symm⟩)
    · exact .inr (.inr ⟨_, rfl, by simpa using hout.symm⟩)
    · simp at hout
  obtain ⟨xs, ys, hv, ha, hb, hr1, hr2⟩ := fnOf_rep (hs2.ev g) hfn
  have hv' : a.eval g = .func (.func f) xs ys := hv
  have hyield : Rep x w2 β2 H2 (.func (.yield lB) #[] #[]) (.ob 2 l) := .ob _ 2 l lB _ _ _ _ hl2 hlB rfl
  obtain ⟨l1, r1⟩ := append_rep (ys := #[.func (.yield lB) #[] #[]]) (bs := [.ob 2 l]) ha rfl hr1 (fun j v t e1 e2 => by
    cases j with
    | zero => simp at e1 e2; subst e1 e2; exact hyield
    | succ j => simp at e1)
  obtain ⟨l2, r2⟩ := append_rep l1 hb r1 hr2
  have hcon := hcon x β2 w2 _ hs2.heap l2 r2
  simp only [callable_enter hcallable] at hcon
  have hcon : CallsIn Fence.wide 0 P f (xs ++ #[.func (.yield lB) #[] #[]] ++ ys) w2 fun e w' => ∃ v, e = .returned v ∧ Told1 x w2 β2 H2 r0 H3 v w' := hcon
  have hcon := hF.calls hcon
  have hpost : ∀ (en : Ending) (w3 : World), (∃ v, en = .returned v ∧ Told1 x w2 β2 H2 r0 H3 v w3) → rangePost F 0 P lB (postE x w0 o { σ with hp := hset H3 l (.obj 2 (3 :: ps') [] vs' (as' :: bd' :: pend)), pr := mk ++ σ.pr }) { a with defers := mark ++ a.defers } en w3 := by
    rintro en w3 ⟨v, rfl, β3, S3, _⟩
    have hs3 := hs2.only S3
    have hβ3 : β3 l = some lB := (S3.objStays hl2).1.trans hlB
    obtain ⟨rec, g1, g2, g3, _, _, _, _, _, g4⟩ := loopTurn (P := P) hs3.heap hrec hβ3
    obtain ⟨w4, g5, S4⟩ := g4 3 pend
    have hs4 := hs3.only S4
    have hend : (Instr.endLoop lB).run P w3 = .ok pend.head? w4 := by
      simp only [Instr.endLoop, Sem.run_bind, g1, Result.andThen_ok, g2]
      have hnb : (loopSt st == LoopState.busy) = false := by
        match st with
        | 0 => rfl
        | 1 => exact absurd rfl hst
        | 2 => rfl
        | _ + 3 => rfl
      have hrec3 : ({ rec with state := LoopState.exhausted } : Loop) = { rec with state := LoopState.exhausted, pending := pend.head? } := by
        rw [← g3]
      have g5' : (setObj lB (.loop { rec with state := LoopState.exhausted, pending := pend.head? })).run P w3 = .ok () w4 := g5
      simp only [hnb, Bool.false_eq_true, if_false, Sem.run_bind, Sem.run_pure]
      rw [hrec3, g5']
      simp only [Result.andThen_ok, g3]
    refine ⟨pend.head?, w4, hend, ?_⟩
    rcases hj with ⟨q, rfl⟩ | ⟨q, rfl⟩ | ⟨i, q, rfl⟩
    · rw [q]
      exact ⟨rfl, _, hs4⟩
    · rw [q]
      exact wpIn_ret ⟨rfl, _, hs4⟩
    · rw [q]
      exact wpIn_exit ⟨rfl, _, hs4⟩
  refine ⟨{ target := .fn (.func f) ys, args := xs ++ #[.func (.yield lB) #[] #[]] }, w2, f, xs ++ #[.func (.yield lB) #[] #[]] ++ ys, w2, hent, ?_, fun f' _ => hF.fn f', ?_, fun q => by rw [hF.depth] at q; simp at q, ?_⟩
  · simp only [resolve, hv', Deferred.ofValue]
    simp [Act.eval]
  · simp only [invoke]
    exact callable_enter hcallable _ _
  · have hfin := CallsIn.mono hcon hpost
    exact hfin

theorem xC_ok {P : Program} (hmix : P.follows .mixedOrders = true) {call : Caller} (hc : CallerOk P call) {salt : Nat} {rd : Option Nat} {F : Fence} : ∀ (n : Nat) (c : Code) (σ : St) (o : Out) (σ' : St), xC P call salt rd n c σ = .ok (o, σ') →
    ∀ {x : Cx} {w0 : Start} {β : Nat → Option Nat} {a : Act} {w : World}, RdOk rd F w0 → SimE x w0 β σ a w →
      c.wpIn F 0 P (postE x w0 o σ') a w ∧ ∀ p, c = .loop p → Code.roundsIn F 0 P p (postE x w0 o σ') n a w := by
  intro n
  induction n with
  | zero => intro c σ o σ' h; simp [xC] at h
  | succ n ih =>
    intro c σ o σ' h x w0 β a w hrd hs
    have hF := hrd.fok
    cases c with
    | skip =>
      simp only [xC, Except.ok.injEq, Prod.mk.injEq] at h
      obtain ⟨rfl, rfl⟩ := h
      exact ⟨wpIn_skip ⟨rfl, β, hs⟩, fun p e => by simp at e⟩
    | exit id =>
      simp only [xC, Except.ok.injEq, Prod.mk.injEq] at h
      obtain ⟨rfl, rfl⟩ := h
      exact ⟨wpIn_exit ⟨rfl, β, hs⟩, fun p e => by simp at e⟩
    | ret =>
      simp only [xC, Except.ok.injEq, Prod.mk.injEq] at h
      obtain ⟨rfl, rfl⟩ := h
      exact ⟨wpIn_ret ⟨rfl, β, hs⟩, fun p e => by simp at e⟩
    | region id ops draw =>
      refine ⟨?_, fun p e => by simp at e⟩
      cases draw with
      | false =>
        simp only [xC] at h
        split at h
        · rename_i σ1 h1
          simp only [Except.ok.injEq, Prod.mk.injEq] at h
          obtain ⟨rfl, rfl⟩ := h
          exact wpIn_region (xOs_ok hc hF (Q := postE x w0 .norm σ1) (fun a w β h => ⟨rfl, β, h⟩) ops.toList _ (range_ops ops) h1 hs)
        · simp at h
      | true =>
        simp only [xC] at h
        split at h
        · rename_i σ1 h1
          simp only [Except.ok.injEq, Prod.mk.injEq] at h
          obtain ⟨rfl, rfl⟩ := h
          exact xD_ok hmix hc hF h1 hs fun a w β h => ⟨rfl, β, h⟩
        · simp at h
    | seq p q =>
      refine ⟨?_, fun p e => by simp at e⟩
      simp only [xC] at h
      split at h
      · rename_i σ1 h1
        refine wpIn_seq (wpIn_mono (ih p σ _ _ h1 hrd hs).1 fun e a' w' he => ?_)
        obtain ⟨rfl, β', hs'⟩ := he
        exact (ih q σ1 _ _ h hrd hs').1
      · rename_i hne
        refine wpIn_seq (wpIn_mono (ih p σ _ _ h hrd hs).1 fun e a' w' he => ?_)
        obtain ⟨rfl, β', hs'⟩ := he
        cases o with
        | norm => exact absurd h (hne _)
        | exit i => exact ⟨rfl, β', hs'⟩
        | ret => exact ⟨rfl, β', hs'⟩
    | cond c p q =>
      refine ⟨?_, fun p e => by simp at e⟩
      simp only [xC] at h
      split at h
      · rename_i hb
        exact wpIn_cond_true (boolOf_rep (hs.ev c) hb) (ih p σ _ _ h hrd hs).1
      · rename_i hb
        exact wpIn_cond_false (boolOf_rep (hs.ev c) hb) (ih q σ _ _ h hrd hs).1
      · simp at h
    | block id p =>
      refine ⟨?_, fun p e => by simp at e⟩
      simp only [xC] at h
      split at h
      · rename_i i σ1 h1
        refine wpIn_block (wpIn_mono (ih p σ _ _ h1 hrd hs).1 fun e a' w' he => ?_)
        obtain ⟨rfl, β', hs'⟩ := he
        simp only [exitOf, Exit.inBlock]
        by_cases hi : i = id
        · rw [if_pos hi] at h ⊢
          simp only [Except.ok.injEq, Prod.mk.injEq] at h
          obtain ⟨rfl, rfl⟩ := h
          exact ⟨rfl, β', hs'⟩
        · rw [if_neg hi] at h ⊢
          simp only [Except.ok.injEq, Prod.mk.injEq] at h
          obtain ⟨rfl, rfl⟩ := h
          exact ⟨rfl, β', hs'⟩
      · rename_i hne
        refine wpIn_block (wpIn_mono (ih p σ _ _ h hrd hs).1 fun e a' w' he => ?_)
        obtain ⟨rfl, β', hs'⟩ := he
        cases o with
        | exit i => exact absurd h (hne _ _)
        | norm => exact ⟨rfl, β', hs'⟩
        | ret => exact ⟨rfl, β', hs'⟩
    | loop p =>
      have hr : Code.roundsIn F 0 P p (postE x w0 o σ') (n + 1) a w := by
        rw [roundsIn_succ]
        simp only [xC] at h
        split at h
        · rename_i σ1 h1
          refine wpIn_mono (ih p σ _ _ h1 hrd hs).1 fun e a' w' he => ?_
          obtain ⟨rfl, β', hs'⟩ := he
          exact (ih (.loop p) σ1 _ _ h hrd hs').2 p rfl
        · rename_i hne
          refine wpIn_mono (ih p σ _ _ h hrd hs).1 fun e a' w' he => ?_
          obtain ⟨rfl, β', hs'⟩ := he
          cases o with
          | norm => exact absurd h (hne _)
          | exit i => exact ⟨rfl, β', hs'⟩
          | ret => exact ⟨rfl, β', hs'⟩
      exact ⟨wpIn_loop_rounds _ hr, fun q e => by simp only [Code.loop.injEq] at e; subst e; exact hr⟩
    | rangeFunc g ps assign body =>
      refine ⟨?_, fun p e => by simp at e⟩
      simp only [xC] at h
      split at h
      · simp at h
      rename_i e H1 mk hwait
      rw [reckon_eq] at h
      generalize hl : 10000 * H1.length + 9999 = l at h
      split at h
      rotate_left
      · simp at h
      rename_i hfree
      split at h
      · simp at h
      rename_i f as bs hfn
      split at h
      rotate_left
      · simp at h
      rename_i hcallable
      split at h
      · simp at h
      rename_i r0 H3 hcall
      split at h
      rotate_left
      · simp at h
      rename_i st ps' vs' as' bd' pend hrec
      split at h
      · simp at h
      rename_i hst
      split at h
      rotate_left
      · simp at h
      rename_i o' hout
      simp only [Except.ok.injEq, Prod.mk.injEq] at h
      obtain ⟨rfl, rfl⟩ := h
      refine wpIn_rangeFunc fun fn _ => ?_
      obtain ⟨mark, w2, β2, lB, hent, hs2, hlB⟩ := enter2_ok (P := P) hrd hs hwait fn ps assign body l hfree
      exact ⟨lB, mark, w2, range_ok hF (hc _ _ _ _ _ hcall) hs2 hlB hfn hcallable hrec hst hout hent ⟨_, _, _, _, hget_new⟩⟩
    | scope c => simp [xC] at h
    | label l => simp [xC] at h
    | goto l => simp [xC] at h
    | refuse s => simp [xC] at h
end Go.Vm
namespace Go.Vm

theorem noEscape_find {fn : Func} (h : fn.name = "internal/abi.NoEscape") : Extern.find fn = some Extern.AbiNoEscape.same := by
  have h1 : Extern.allGenericRows.lookup "internal/abi.NoEscape" = none := by rfl
  have h2 : Extern.allTypedRows.lookup "internal/abi.NoEscape" = none := by rfl
  have h3 : Extern.allRows.lookup "internal/abi.NoEscape" = some Extern.AbiNoEscape.same := by rfl
  simp [Extern.find, h, h1, h2, h3]
theorem noEscape_next {fn : Func} (h : fn.name = "internal/abi.NoEscape") (h' : fn.origin = "") : Extern.findNext fn = none := by
  have h1 : Extern.allNextRows.lookup "internal/abi.NoEscape" = none := by rfl
  have h2 : Extern.allNextRows.lookup "" = none := by rfl
  simp [Extern.findNext, h, h', h1, h2]

section
variable {P : Program} {x : Cx} {w : World} {β : Nat → Option Nat} {H : Heap}

theorem resV_run' {σ : St} {tmps : Array Value} (hH : HRel x w β σ.hp) (hE : ∀ t, Rep x w β σ.hp (tmps.getD t undef) (eget σ.env t)) : ∀ {l : List ResultVar} {us : List V}, resV P σ l = some us →
    ∃ vs : List Value, (l.mapM (resOne tmps)).run P w = .ok vs w ∧ vs.length = us.length ∧
      ∀ (j : Nat) (v : Value) (u : V), vs[j]? = some v → us[j]? = some u → Rep x w β σ.hp v u
  | [], us, h => by
    simp only [resV, Option.some.injEq] at h
    subst h
    exact ⟨[], rfl, rfl, by simp⟩
  | .tmp t :: r, us, h => by
    obtain ⟨us', hr, rfl⟩ := Option.map_eq_some_iff.1 h
    obtain ⟨vs, h1, h2, h3⟩ := resV_run' hH hE hr
    refine ⟨tmps.getD t undef :: vs, by simp only [List.mapM_cons, resOne, Sem.run_bind, Sem.run_pure, Result.andThen_ok, h1], by simp [h2], fun j v u e1 e2 => ?_⟩
    cases j with
    | zero =>
      simp only [List.getElem?_cons_zero, Option.some.injEq] at e1 e2
      subst e1 e2
      exact hE t
    | succ j => exact h3 j v u (by simpa using e1) (by simpa using e2)
  | .cell p t :: r, us, h => by
    simp only [resV] at h
    split at h
    · rename_i u us' hu hr
      simp only [Option.some.injEq] at h
      subst h
      obtain ⟨vs, h1, h2, h3⟩ := resV_run' hH hE hr
      unfold vLoad at hu
      split at hu
      · rename_i e c ag n hp ha hn
        obtain ⟨b, o, hv, hm⟩ := place_rep hH (hE p) hp
        obtain ⟨v', g1, g2⟩ := getP_run (P := P) hm hu ha hn
        refine ⟨v' :: vs, by simp only [List.mapM_cons, resOne, Sem.run_bind, hv, asAddr, Sem.run_pure, g1, Result.andThen_ok, h1], by simp [h2], fun j v u e1 e2 => ?_⟩
        cases j with
        | zero =>
          simp only [List.getElem?_cons_zero, Option.some.injEq] at e1 e2
          subst e1 e2
          exact g2
        | succ j => exact h3 j v u (by simpa using e1) (by simpa using e2)
      · simp at hu
    · simp at h

theorem retV_run' {σ : St} {tmps : Array Value} (hH : HRel x w β σ.hp) (hE : ∀ t, Rep x w β σ.hp (tmps.getD t undef) (eget σ.env t)) {fn : Func} {u : V} (h : retV P fn σ = some u) :
    ∃ v, (results fn tmps).run P w = .ok v w ∧ Rep x w β σ.hp v u := by
  unfold retV at h
  have run : ∀ vs : List Value, (fn.results.toList.mapM (resOne tmps)).run P w = .ok vs w →
      (results fn tmps).run P w = .ok (if h : vs.toArray.size = 1 then vs.toArray[0] else .tuple vs.toArray) w := by
    intro vs hv
    rw [results_eq]
    simp only [Sem.run_bind]
    rw [Array.mapM_eq_mapM_toList]
    simp only [Sem.run_map, hv, Result.andThen_ok, Sem.run_pure]
  split at h
  · rename_i u' hu
    simp only [Option.some.injEq] at h
    subst h
    obtain ⟨vs, h1, h2, h3⟩ := resV_run' hH hE hu
    obtain ⟨v, rfl⟩ : ∃ v, vs = [v] := by
      cases vs with
      | nil => simp at h2
      | cons v r => cases r with
        | nil => exact ⟨v, rfl⟩
        | cons _ _ => simp at h2
    exact ⟨v, run _ h1, h3 0 v u' rfl rfl⟩
  · rename_i us hne hu
    simp only [Option.some.injEq] at h
    subst h
    obtain ⟨vs, h1, h2, h3⟩ := resV_run' hH hE hu
    refine ⟨.tuple vs.toArray, ?_, rep_mkTup (by simpa using h2) fun j v c e1 e2 => h3 j v c (by simpa using e1) e2⟩
    rw [run _ h1, dif_neg]
    intro hl
    cases us with
    | nil => simp at h2; simp [h2] at hl
    | cons u r => cases r with
      | nil => exact hne u rfl
      | cons _ _ => simp at h2 hl; omega
  · simp at h

/-- A frame leaves: its marks are shut, its results are read. -/
theorem leave_ok {fn : Func} {tmps : Array Value} {w0 : World} {β0 : Nat → Option Nat} {H0 : Heap} {n : Nat} {E : List (Nat × V)} {u : V} {H' : Heap} : ∀ (pr : List Nat) (ds : List Deferred) (rs : List Nat) (w : World) (β : Nat → Option Nat) (H : Heap),
    ds.map (·.target) = rs.map Target.collected → pr.map β = rs.map some → shutAll pr H = some H' → Step x w0 β0 H0 w β H → (∀ t, Rep x w β H (tmps.getD t undef) (eget E t)) → (∀ pr', retV P fn { n := n, env := E, hp := H', pr := pr' } = some u) →
      LeavesInM Fence.wide 0 P fn tmps (fun e w' => ∃ v, e = .returned v ∧ Told1 x w0 β0 H0 u H' v w') ds .returning w
  | [], ds, rs, w, β, H, h1, h2, h3, hS, hE, hr => by
    have : rs = [] := by simpa using h2.symm
    subst this
    have : ds = [] := by simpa using h1
    subst this
    simp only [shutAll, Option.some.injEq] at h3
    subst h3
    obtain ⟨v, g1, g2⟩ := retV_run' (P := P) (σ := { n := n, env := E, hp := H, pr := [] }) hS.heap hE (hr [])
    exact ⟨v, g1, v, rfl, β, hS, g2⟩
  | m :: pr, ds, rs, w, β, H, h1, h2, h3, hS, hE, hr => by
    obtain ⟨r, rs', rfl⟩ : ∃ r rs', rs = r :: rs' := by
      cases rs with
      | nil => simp at h2
      | cons r rs' => exact ⟨r, rs', rfl⟩
    obtain ⟨d, ds', rfl⟩ : ∃ d ds', ds = d :: ds' := by
      cases ds with
      | nil => simp at h1
      | cons d ds' => exact ⟨d, ds', rfl⟩
    simp only [List.map_cons, List.cons.injEq] at h1 h2
    simp only [shutAll] at h3
    split at h3
    · rename_i hm
      obtain ⟨xs, o, hw, ho, hl, _⟩ := objBlk hS.heap hm h2.1
      obtain rfl : xs = [] := List.eq_nil_of_length_eq_zero (by simpa using hl)
      have ho' : o = .deferred (some []) := by
        have : some (Obj.deferred (some [])) = some o := ho
        simpa using this.symm
      subst ho'
      have S := setObj_good hS.heap hm h2.1 (ns' := [1]) (ks' := []) (vs' := []) (cs' := []) (xs := []) (o := .deferred none) rfl rfl (by simp)
      refine ⟨by simp, .inl ⟨r, _, h1.1, ?_, leave_ok pr ds' rs' _ β _ h1.2 h2.2 h3 (hS.trans S) (fun t => S.rep (hE t)) hr⟩⟩
      simp only [Instr.takeDeferred, Sem.run_bind, getObj, Sem.run, hw, Result.andThen_ok, setObj]
      rfl
    · simp at h3

theorem setPs_ok {F : Nat → Prop} {n : Nat} : ∀ (ps : List Nat) (vs : List V) (cs : List Value) (E E' : List (Nat × V)) (tmps : Array Value), tmps.size = n → (∀ t, RepV F w β H (tmps.getD t undef) (eget E t)) → cs.length = vs.length →
    (∀ (j : Nat) (v : Value) (u : V), cs[j]? = some v → vs[j]? = some u → RepV F w β H v u) → setPs n E ps vs = some E' →
      ps.length = vs.length ∧ ((ps.zip cs).foldl (fun (tmps : Array Value) (p : Nat × Value) => tmps.setIfInBounds p.1 p.2) tmps).size = n ∧
        ∀ t, RepV F w β H (((ps.zip cs).foldl (fun (tmps : Array Value) (p : Nat × Value) => tmps.setIfInBounds p.1 p.2) tmps).getD t undef) (eget E' t)
  | [], [], cs, E, E', tmps, hn, hE, hl, hr, h => by
    simp only [setPs, Option.some.injEq] at h
    subst h
    exact ⟨rfl, hn, hE⟩
  | p :: ps, v :: vs, cs, E, E', tmps, hn, hE, hl, hr, h => by
    simp only [setPs] at h
    split at h
    · rename_i hp
      obtain ⟨c, cs', rfl⟩ : ∃ c cs', cs = c :: cs' := by
        cases cs with
        | nil => simp at hl
        | cons c cs' => exact ⟨c, cs', rfl⟩
      obtain ⟨g1, g2, g3⟩ := setPs_ok ps vs cs' (eset E p v) E' (tmps.setIfInBounds p c) (by simpa using hn) (fun t => by
        rw [eget_eset]
        by_cases e : t = p
        · subst e
          have : t < tmps.size := by omega
          simp only [if_true, Array.getD_eq_getD_getElem?]
          rw [Array.getElem?_setIfInBounds, if_pos rfl, if_pos this]
          exact hr 0 c v rfl rfl
        · rw [if_neg e, Array.getD_eq_getD_getElem?, Array.getElem?_setIfInBounds, if_neg (fun q => e q.symm), ← Array.getD_eq_getD_getElem?]
          exact hE t) (by simpa using hl) (fun j v u e1 e2 => hr (j + 1) v u (by simpa using e1) (by simpa using e2)) h
      exact ⟨by simp [g1], g2, g3⟩
    · simp at h
  | [], _ :: _, cs, E, E', tmps, hn, hE, hl, hr, h => by simp [setPs] at h
  | _ :: _, [], cs, E, E', tmps, hn, hE, hl, hr, h => by simp [setPs] at h
end

theorem bodyM {P : Program} {fn : Func} {R : Ending → World → Prop} {o : Out} {a : Act} {w : World} (ho : ∀ i, o ≠ .exit i) (h : LeavesInM Fence.wide 0 P fn a.tmps R a.defers .returning w) : bodyPostM Fence.wide 0 P fn R (exitOf o) a w := by
  cases o with
  | norm => exact h
  | ret => exact h
  | exit i => exact absurd rfl (ho i)

theorem busy_ok {P : Program} {x : Cx} {w0 : Start} {σ : St} {a : Act} {w : World} {β : Nat → Option Nat} {l b : Nat} {H1 : Heap} (hs : SimE x w0 β σ a w) (hb : β l = some b) (h : busyAt l σ.hp = some H1) :
    ∃ w', (Instr.beginRound b).run P w = .ok () w' ∧ SimE x w0 β { σ with hp := H1 } a w' := by
  unfold busyAt at h
  split at h
  · rename_i ps vs as bd pend hl
    simp only [Option.some.injEq] at h
    subst h
    obtain ⟨r, g1, g2, g3, _, _, _, _, _, g4⟩ := loopTurn (P := P) hs.heap hl hb
    obtain ⟨w', g5, S⟩ := g4 1 pend
    refine ⟨w', ?_, hs.only S⟩
    have hr : ({ r with state := LoopState.busy } : Loop) = { r with state := LoopState.busy, pending := pend.head? } := by rw [← g3]
    have g5' : (setObj b (.loop { r with state := LoopState.busy, pending := pend.head? })).run P w = .ok () w' := g5
    have g2' : r.state = .ready := g2
    simp only [Instr.beginRound, Sem.run_bind, g1, Result.andThen_ok]
    rw [hr, g5', g2']
    rfl
  · simp at h

theorem done_ok {P : Program} {x : Cx} {w0 : Start} {σ : St} {a : Act} {w : World} {β : Nat → Option Nat} {l b : Nat} {o : Out} {v : V} {H' : Heap} (hs : SimE x w0 β σ a w) (hb : β l = some b) (h : doneAt l o σ.hp = some (v, H')) :
    ∃ c w', (Instr.endRound b (jumpOf o)).run P w = .ok c w' ∧ Told1 x w0.w w0.β w0.H v H' c w' := by
  unfold doneAt at h
  split at h
  · rename_i st ps vs as bd pend hl
    obtain ⟨r, g1, g2, g3, _, _, _, _, _, g4⟩ := loopTurn (P := P) hs.heap hl hb
    split at h
    · rename_i hj
      simp only [Option.some.injEq, Prod.mk.injEq] at h
      obtain ⟨rfl, rfl⟩ := h
      obtain ⟨w', g5, S⟩ := g4 0 []
      have g5' : (setObj b (.loop { r with state := LoopState.ready, pending := none })).run P w = .ok () w' := g5
      refine ⟨.bool true, w', ?_, β, hs.start.trans S, .t _ _ (.c _ rfl)⟩
      rw [hj]
      simp only [Instr.endRound, Sem.run_bind, g1, Result.andThen_ok, Option.isNone_none, if_true, g5', Sem.run_pure]
    · rename_i j hj
      simp only [Option.some.injEq, Prod.mk.injEq] at h
      obtain ⟨rfl, rfl⟩ := h
      obtain ⟨w', g5, S⟩ := g4 2 [j]
      have g5' : (setObj b (.loop { r with state := LoopState.done, pending := some j })).run P w = .ok () w' := g5
      refine ⟨.bool false, w', ?_, β, hs.start.trans S, .t _ _ (.c _ rfl)⟩
      rw [hj]
      simp only [Instr.endRound, Sem.run_bind, g1, Result.andThen_ok, Option.isNone_some, Bool.false_eq_true, if_false, g5', Sem.run_pure]
  · simp at h

theorem roundM {P : Program} {l : Nat} {R : Ending → World → Prop} {o : Out} {a : Act} {w : World} (h : ∃ c w', (Instr.endRound l (jumpOf o)).run P w = .ok c w' ∧ R (.returned c) w') : roundPost P l R (exitOf o) a w := by
  cases o with
  | norm => exact h
  | ret => exact h
  | exit i => exact h

theorem xF_ok {P : Program} (hmix : P.follows .mixedOrders = true) : ∀ n, CallerOk P (xF P n) := by
  intro n
  induction n with
  | zero => intro c args H r H' h; simp [xF] at h
  | succ n ih =>
    intro c args H r H' h x β w cargs hH hl hrep
    cases c with
    | f f =>
      simp only [xF] at h
      split at h
      rotate_left
      · simp at h
      rename_i fn hfn
      split at h
      · rename_i c hbody
        split at h
        · simp at h
        rename_i hname
        have hname : (fn.name == "runtime.NumGoroutine") = false := by simpa using hname
        have hent : (callFunc f cargs).run P w = .ok (.enter f cargs) w := callable_enter (by simp [callable, hfn, hbody, hname]) cargs w
        simp only
        rw [hent]
        have hs : SimE x ⟨w, β, H⟩ β { n := max args.length fn.ntmps, env := envOf 0 args, hp := H, pr := [] } { tmps := cargs ++ Array.replicate (fn.ntmps - cargs.size) undef, defers := [] } w := by
          refine ⟨.refl hH, fun t => ?_, by simp; omega, ⟨[], rfl, rfl⟩, fun n hn => by simp at hn⟩
          simp only [eget_envOf, Nat.zero_le, if_true, Nat.sub_zero]
          by_cases ht : t < cargs.size
          · have e1 : cargs[t]? = some cargs[t] := Array.getElem?_eq_getElem ht
            have e2 : args[t]? = some (args[t]'(by omega)) := List.getElem?_eq_getElem (by omega)
            rw [e2, Option.getD_some]
            have : (cargs ++ Array.replicate (fn.ntmps - cargs.size) undef).getD t undef = cargs[t] := by
              rw [Array.getD_eq_getD_getElem?, Array.getElem?_append_left ht, e1]
              rfl
            rw [this]
            exact hrep t _ _ e1 e2
          · rw [List.getElem?_eq_none (by omega)]
            exact .undef _
        have fin : ∀ (o : Out) (σ : St), xC P (xF P n) f none 100000 c { n := max args.length fn.ntmps, env := envOf 0 args, hp := H, pr := [] } = .ok (o, σ) → (∀ i, o ≠ .exit i) → shutAll σ.pr σ.hp = some H' → retV P fn { σ with hp := H' } = some r →
            CallsIn Fence.wide 0 P f cargs w fun e w' => ∃ v, e = .returned v ∧ Told1 x w β H r H' v w' := by
          intro o σ hx hne hshut hret
          refine callsIn_of_wp_marks hfn hbody trivial (wpIn_mono (xC_ok (rd := none) (F := Fence.wide) hmix ih 100000 c _ o σ hx rfl hs).1 fun e a' w' he => ?_)
          obtain ⟨rfl, β', hs'⟩ := he
          refine bodyM hne ?_
          obtain ⟨rs, d1, d2⟩ := hs'.defs
          exact leave_ok σ.pr a'.defers rs w' β' σ.hp d1 d2 hshut hs'.start hs'.env fun pr' => by
            rw [← hret]
            unfold retV
            have : ∀ l, resV P { n := σ.n, env := σ.env, hp := H', pr := pr' } l = resV P { n := σ.n, env := σ.env, hp := H', pr := σ.pr } l := by
              intro l
              induction l with
              | nil => rfl
              | cons q l ihl => cases q <;> simp only [resV, ihl]
            rw [this]
        split at h
        · simp at h
        · rename_i o σ hne hx
          split at h
          · rename_i H1 hshut
            split at h
            · rename_i u hret
              simp only [Except.ok.injEq, Prod.mk.injEq] at h
              obtain ⟨rfl, rfl⟩ := h
              exact fin o σ hx (fun i e => hne i e) hshut hret
            · simp at h
          · simp at h
        · simp at h
      · rename_i hbody
        split at h
        rotate_left
        · simp at h
        rename_i hnm
        split at h
        · rename_i u
          simp only [Except.ok.injEq, Prod.mk.injEq] at h
          obtain ⟨rfl, rfl⟩ := h
          obtain ⟨c0, rfl⟩ : ∃ c0, cargs = #[c0] := by
            have : cargs.size = 1 := hl
            match cargs, this with
            | ⟨[c0]⟩, _ => exact ⟨c0, rfl⟩
          have hrun := run_callFunc_extern (P := P) hfn (by rw [hnm.1]; rfl) (by rw [hbody]; rfl) (noEscape_next hnm.1 hnm.2) (noEscape_find hnm.1) #[c0] w
          have hrun' : (callFunc f #[c0]).run P w = .ok (.value c0) w := hrun
          simp only
          rw [hrun']
          exact ⟨β, .refl hH, hrep 0 c0 u rfl rfl⟩
        · simp at h
    | y l =>
      intro b hb
      simp only [xF] at h
      split at h
      rotate_left
      · simp at h
      rename_i st ps c0 c1 vs assign body pend hlk
      split at h
      · simp at h
      rename_i E hE
      obtain ⟨rec, g1, g2, g3, ga, gb, gp, gt, gr, _⟩ := loopTurn (P := P) hH hlk hb
      have hrn : rec.tmps.size = vs.length := by simpa using gt
      obtain ⟨p1, p2, p3⟩ := setPs_ok ps args cargs.toList (envOf 0 vs) E rec.tmps hrn (fun t => by
        simp only [eget_envOf, Nat.zero_le, if_true, Nat.sub_zero]
        by_cases ht : t < vs.length
        · have e1 : vs[t]? = some vs[t] := List.getElem?_eq_getElem ht
          have e2 : rec.tmps[t]? = some (rec.tmps[t]'(by omega)) := Array.getElem?_eq_getElem (by omega)
          rw [e1, Option.getD_some, Array.getD_eq_getD_getElem?, e2, Option.getD_some]
          exact gr t _ _ e2 (by simp)
        · rw [List.getElem?_eq_none (by omega)]
          exact .undef _) (by simpa using hl) (fun j v u e1 e2 => hrep j v u (by simpa using e1) e2) hE
      generalize htm : ((ps.zip cargs.toList).foldl (fun (tmps : Array Value) (p : Nat × Value) => tmps.setIfInBounds p.1 p.2) rec.tmps) = tm at p2 p3
      have hyield : (Instr.yield b cargs).run P w = .ok (.round b rec.fn tm assign body) w := by
        have hsz : ¬ (cargs.size ≠ rec.params.size) := by rw [gp]; simp; omega
        simp only [Instr.yield, Sem.run_bind, g1, Result.andThen_ok]
        rw [if_neg hsz]
        simp only [Sem.run_pure, ga, gb]
        rw [← htm, gp]
        simp only [← Array.foldl_toList, Array.toList_zip]
      rw [hyield]
      have hs : SimE x ⟨w, β, H⟩ β { n := vs.length, env := E, hp := H, pr := [] } { tmps := tm, defers := [] } w :=
        ⟨.refl hH, p3, p2, ⟨[], rfl, rfl⟩, fun n hn => by simp at hn⟩
      have hrd : RdOk (some l) (Fence.wide.inRound b) ⟨w, β, H⟩ := ⟨b, rfl, hb, _, _, _, _, hlk⟩
      have fin : ∀ (σ1 : St) (H1 : Heap) (o : Out) (σ2 : St), xC P (xF P n) l (some l) 100000 assign { n := vs.length, env := E, hp := H, pr := [] } = .ok (.norm, σ1) → busyAt l σ1.hp = some H1 → xC P (xF P n) l (some l) 100000 body { σ1 with hp := H1 } = .ok (o, σ2) → doneAt l o σ2.hp = some (r, H') →
          RoundIn Fence.wide 0 P b rec.fn tm assign body w fun e w' => ∃ v, e = .returned v ∧ Told1 x w β H r H' v w' := by
        intro σ1 H1 o σ2 x1 x2 x3 x4
        refine roundIn_of_wpIn trivial (wpIn_mono (xC_ok hmix ih 100000 assign _ _ σ1 x1 hrd hs).1 fun e a1 w1 he => ?_)
        obtain ⟨rfl, β1, hs1⟩ := he
        obtain ⟨b1, hF1, hb1⟩ := hrd.at hs1
        have : b1 = b := by
          have := congrArg Fence.round hF1
          simpa using this.symm
        subst this
        obtain ⟨w2, y1, hs2⟩ := busy_ok (P := P) hs1 hb1 x2
        refine ⟨w2, y1, wpIn_mono (xC_ok hmix ih 100000 body _ o σ2 x3 hrd hs2).1 fun e a2 w3 he => ?_⟩
        obtain ⟨rfl, β2, hs3⟩ := he
        obtain ⟨b2, hF2, hb2⟩ := hrd.at hs3
        have : b2 = b1 := by
          have := congrArg Fence.round hF2
          simpa using this.symm
        subst this
        obtain ⟨cv, w', z1, z2⟩ := done_ok (P := P) hs3 hb2 x4
        exact roundM ⟨cv, w', z1, cv, rfl, z2⟩
      split at h
      · rename_i σ1 x1
        split at h
        · simp at h
        · rename_i H1 x2
          split at h
          · rename_i o σ2 x3
            split at h
            · rename_i q x4
              simp only [Except.ok.injEq] at h
              subst h
              exact fin σ1 H1 o σ2 x1 x2 x3 x4
            · simp at h
          · simp at h
      · simp at h
      · simp at h
end Go.Vm
namespace Go.Vm
open Go.RowKit Go.WideShapes Go.ChangeShapes

section
variable {H : Type} {enc : TypeId × Value → H} {P : Program} {W W' : World}

/-- What was read is read again where nothing has turned. -/
theorem trodAll_again (K : Kids P (· < P.types.size)) (hz : ∀ t e, t < P.types.size → P.underlying t = some (.slice e) → 0 < P.cellsOf e) (hb : Below W.heap.size W W') {sp : Nat → Bool} :
    ∀ {ts : List TypeId} {vs : List Value} {ds : List (DataW H)} {ps : List MemPlace}, (∀ t, t ∈ ts → t < P.types.size) → DataW.TrodAll enc P W 0 (fun _ => true) true ts vs ds ps → (∀ p, p ∈ ps → p.block < W.heap.size) →
      (∀ p, p ∈ ps → sp p.block = true) → DataW.TrodAll enc P W' 0 sp true ts vs ds ps
  | [], [], [], _, _, h, _, _ => h
  | t :: ts, v :: vs, d :: ds, _, hT, ⟨p, q, ⟨n, h1⟩, h2, e⟩, hlt, hs => by
    refine ⟨p, q, ⟨n, DataW.trod_stays K (fun {t e} => hz t e) (fun h => by cases h) (hT t (by simp)) h1 (fun x hx => hb.same (hlt x (by rw [e]; simp; exact .inl hx))) (fun x hx => hs x (by rw [e]; simp; exact .inl hx))⟩,
      trodAll_again K hz hb (fun t' ht => hT t' (by simp [ht])) h2 (fun x hx => hlt x (by rw [e]; simp; exact .inr hx)) (fun x hx => hs x (by rw [e]; simp; exact .inr hx)), e⟩

/-- A law's row: true is told, and what was handed in reads as it did. -/
theorem law_post (K : Kids P (· < P.types.size)) (hz : ∀ t e, t < P.types.size → P.underlying t = some (.slice e) → 0 < P.cellsOf e) {f : Func} {s : ChangeSpec} {tb : TypeId} {apart fresh handsOn again : Bool} {args : Array Value} {ds gs : List (DataW H)} {before : List MemPlace}
    (hvars : s.vars = []) (hpar : ∀ t, t ∈ f.params.toList → t < P.types.size) (hrt : f.resultTypes = #[tb]) (htb : P.underlying tb = some .bool) (hW : DataW.Whole enc P f.params.toList s.vars apart W args.toList ds gs before)
    (hfn : (s.fn H (ds ++ gs)).results = [.lit (.bool true)] ∧ (s.fn H (ds ++ gs)).args = ds ∧ (s.fn H (ds ++ gs)).vars = []) (hb : Below W.heap.size W W') : s.post enc P f apart fresh handsOn again W args (.bool true) W' := by
  have hlt : ∀ p, p ∈ before → p.block < W.heap.size := fun p hp => hW.lt p hp
  have hW' := hW
  obtain ⟨p, q, h1, h2, rfl, hf, hn⟩ := hW
  have hq : gs = [] ∧ q = [] := by
    rw [hvars] at h2
    exact trodVars_none h2
  obtain ⟨rfl, rfl⟩ := hq
  simp only [List.append_nil] at hlt hf hn hW' hfn
  have hres : ∀ (b : Nat) (sp : Nat → Bool) (hd : Bool), DataW.TrodAll enc P W' b sp hd f.resultTypes.toList ((Value.bool true).resultList f.resultTypes.size) [.lit (.bool true)] [] := by
    intro b sp hd
    rw [hrt]
    exact trodAll_mk1 (shut_bool htb true)
  have hargs : ∀ sp : Nat → Bool, (∀ x, x ∈ p → sp x.block = true) → DataW.TrodAll enc P W' 0 sp true f.params.toList args.toList ds p := fun sp hs => trodAll_again K hz hb hpar h1 hlt hs
  have hvs : ∀ sp : Nat → Bool, DataW.TrodVars enc P W' sp s.vars [] [] := fun sp => by rw [hvars]; rfl
  refine ⟨ds, [], p, [], p, [], hW', ?_, ?_, ?_, World.keptBut_mono (fun x hx => ⟨hx, .inr (.inl hx)⟩) (hb.frame (· ∈ p)), fun _ => ⟨?_, ?_⟩⟩
  · simp only [List.append_nil]
    rw [hfn.1]
    exact hres _ _ _
  · simp only [List.append_nil]
    rw [hfn.2.1]
    exact hargs _ fun x hx => by simpa using hlt x hx
  · simp only [List.append_nil]
    rw [hfn.2.2]
    exact hvs _
  · intro j t r h3 h4
    rw [hrt] at h3 h4
    cases j with
    | zero =>
      simp at h3
      subst h3
      have : r = .bool true := by simpa [Value.resultList] using h4.symm
      subst this
      exact okWide_bool_mk htb true
    | succ j => simp at h3
  · refine ⟨[.lit (.bool true)] ++ ds, [], ([] ++ p) ++ [], ⟨[] ++ p, [], trodAll_append (hargs _ fun _ _ => rfl) (hres _ _ _), hvs _, rfl, ?_, ?_⟩, ?_⟩
    · intro b off hp
      have hin : MemPlace.cell b off ∈ p := by simpa using hp
      rw [hb.frozen (hlt _ hin)]
      exact hf b off hin
    · intro ha
      simpa using hn ha
    · intro x hx _
      simpa using hx

/-- A run that was reckoned, called on things that nobody looks at. -/
theorem calls_of_run (hmix : P.follows .mixedOrders = true) {n : Nat} {f : FuncId} {args : List V} {cargs : Array Value} (h : ∃ H', xF P n (.f f) args [] = .ok (vb true, H')) (hf : callable P f = true) (hl : cargs.size = args.length)
    (hrep : ∀ (j : Nat) (v : Value) (u : V), cargs[j]? = some v → args[j]? = some u → RepV (fun _ => False) W (fun _ => none) [] v u) :
    Calls P f cargs W fun e W' => e = .returned (.bool true) ∧ Below W.heap.size W W' := by
  obtain ⟨H1, h⟩ := h
  have hH : HRel (cxOf (fun _ => False) W) W (fun _ => none) [] := hrel_nil (fun _ h => h.elim) _
  have hcon := xF_ok hmix n _ _ _ _ _ h (cxOf (fun _ => False) W) (fun _ => none) W cargs hH hl fun j v u e1 e2 => by
    refine (hrep j v u e1 e2).move (β' := fun _ => none) (H' := []) ⟨fun b hb => hb.elim, fun a B B' hB => by simp [hget] at hB⟩ ((hrep j v u e1 e2).within)
  simp only [callable_enter hf] at hcon
  have hcon : CallsIn Fence.wide 0 P f cargs W fun e w' => ∃ v, e = .returned v ∧ Told1 (cxOf (fun _ => False) W) W (fun _ => none) [] (vb true) H1 v w' := hcon
  refine (callsIn_wide.1 hcon).mono fun e W' ⟨v, he, β', S, hv⟩ => ?_
  obtain rfl := rep_c hv rfl
  exact ⟨he, S.kept.os, S.kept.tape, S.kept.output, S.kept.size, fun k hk => S.kept.block k hk fun a h => h⟩

theorem cell_one {r : Reach} {base : Nat} {t : TypeId} {v : Value} (h : Cell.okWide P W r base t v) : one v = true := by
  cases v with
  | agg cs =>
    exfalso
    unfold Cell.okWide Cell.ok at h
    split at h <;> first | (rename_i h1 h2; cases h2; done) | skip
    all_goals (split at h <;> first | exact h | simp_all)
  | tuple cs =>
    exfalso
    unfold Cell.okWide Cell.ok at h
    split at h <;> first | (rename_i h1 h2; cases h2; done) | skip
    all_goals (split at h <;> first | exact h | simp_all)
  | _ => rfl

/-- A struct that was handed in. -/
theorem arg_agg {r : Reach} {base : Nat} {t : TypeId} {fs : Array Field} {v : Value} (ht : P.underlying t = some (.struct fs)) (h : Value.okWide P W r base t v) :
    ∃ cs, v = .agg cs ∧ cs.size = P.cellsOf t ∧ ∀ (j : Nat) (c : Value), cs[j]? = some c → one c = true := by
  unfold Value.okWide at h
  rw [ht] at h
  obtain ⟨cs, rfl, h1, ts, _, _, h2⟩ := h
  refine ⟨cs, rfl, h1, fun j c hc => ?_⟩
  obtain ⟨u, _, h3⟩ := h2 j c hc
  exact cell_one h3
/-- It is told by so many cells of which nothing is known. -/
theorem rep_blank {F : Nat → Prop} {β : Nat → Option Nat} {Hp : Heap} {cs : Array Value} {n : Nat} (hn : cs.size = n) (h1 : ∀ (j : Nat) (c : Value), cs[j]? = some c → one c = true) : RepV F W β Hp (.agg cs) (.agg (List.replicate n .undef)) :=
  .agg cs _ (by simp [hn]) h1 fun j v t _ e2 => by
    rw [List.getElem?_replicate] at e2
    split at e2
    · simp only [Option.some.injEq] at e2
      subst e2
      exact .undef v
    · simp at e2
end

def okTrue : Except Er (V × Heap) → Bool
  | .ok (u, _) => match boolOf u with | some true => true | _ => false
  | .error _ => false
theorem okTrue_spec {r : Except Er (V × Heap)} (h : okTrue r = true) : ∃ H', r = .ok (vb true, H') := by
  unfold okTrue at h
  split at h
  · rename_i u H'
    split at h
    · rename_i hb
      refine ⟨H', ?_⟩
      have : u = vb true := by
        unfold boolOf at hb
        split at hb
        · rename_i b hc
          simp only [Option.some.injEq] at hb
          subst hb
          unfold cOf at hc
          split at hc
          · simp only [Option.some.injEq] at hc
            subst hc
            rfl
          · simp at hc
        · simp at hb
      rw [this]
    · simp at h
  · simp at h
end Go.Vm
