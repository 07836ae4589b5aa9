/-
  What memory and a call's state hold, told by values, and what each operation of the model comes to on them: no condition.
-/
import Derived.Below
import Derived.Laws.Sem
import Derived.Laws.StructEq
import Derived.Tactics
import Derived.Laws.Tables
import Derived.Laws.Cells
import Derived.LoopN
namespace Go.Vm

/-- One cell holds it. -/
abbrev one (v : Value) : Bool := v.oneCell'

/-- What is known of a value, all that it leads to taken along; nobody writes there any more. -/
inductive T where
  | c (v : Value)
  | sl (es : List T)
  | ptr (e : T) (c : Nat)
  | agg (cs : List T)
  | tup (ts : List T)
  | fn (f : Fn) (first cap : List T)
  | iface (t : TypeId) (v : T)
  | map (ks : List Value) (vs : List T)
  deriving Inhabited

def T.cells : T → List T
  | .agg cs => cs
  | t => [t]

inductive RepT (F : Nat → Prop) (w : World) : Value → T → Prop
  | c (v : Value) (h : one v = true) : RepT F w v (.c v)
  | sl (A : Option Addr) (len cap sz : Nat) (es : List T) (g : Nat → Nat → Value) (hl : es.length = len) (hc : len ≤ cap)
      (hz : ∀ (e : T), e ∈ es → e.cells.length = sz)
      (hm : ∀ (i : Nat) (e : T) (j : Nat) (t : T), es[i]? = some e → e.cells[j]? = some t → ∃ b o, A = some ⟨b, o, none⟩ ∧ F b ∧ w.cell? ⟨b, o + i * sz + j, none⟩ = some (g i j))
      (ho : ∀ (i : Nat) (e : T) (j : Nat) (t : T), es[i]? = some e → e.cells[j]? = some t → one (g i j) = true)
      (hr : ∀ (i : Nat) (e : T) (j : Nat) (t : T), es[i]? = some e → e.cells[j]? = some t → RepT F w (g i j) t) : RepT F w (.slice A len cap) (.sl es)
  | ptr (b o : Nat) (e : T) (c : Nat) (g : Nat → Value)
      (hm : ∀ (j : Nat) (t : T), e.cells[j]? = some t → F b ∧ w.cell? ⟨b, o + j, none⟩ = some (g j))
      (ho : ∀ (j : Nat) (t : T), e.cells[j]? = some t → one (g j) = true)
      (hr : ∀ (j : Nat) (t : T), e.cells[j]? = some t → RepT F w (g j) t) : RepT F w (.pointer (some ⟨b, o + c, none⟩)) (.ptr e c)
  | agg (vs : Array Value) (cs : List T) (hl : vs.size = cs.length) (ho : ∀ (j : Nat) (v : Value), vs[j]? = some v → one v = true)
      (hr : ∀ (j : Nat) (v : Value) (t : T), vs[j]? = some v → cs[j]? = some t → RepT F w v t) : RepT F w (.agg vs) (.agg cs)
  | tup (vs : Array Value) (ts : List T) (hl : vs.size = ts.length)
      (hr : ∀ (j : Nat) (v : Value) (t : T), vs[j]? = some v → ts[j]? = some t → RepT F w v t) : RepT F w (.tuple vs) (.tup ts)
  | fn (f : Fn) (as bs : Array Value) (ts us : List T) (ha : as.size = ts.length) (hb : bs.size = us.length)
      (hr : ∀ (j : Nat) (v : Value) (t : T), as[j]? = some v → ts[j]? = some t → RepT F w v t)
      (hs : ∀ (j : Nat) (v : Value) (t : T), bs[j]? = some v → us[j]? = some t → RepT F w v t) : RepT F w (.func f as bs) (.fn f ts us)
  | iface (t : TypeId) (v : Value) (u : T) (h : RepT F w v u) : RepT F w (.iface t v) (.iface t u)
  | map (r : Nat) (es : Array MapEntry) (clock : Nat) (ks : List Value) (vs : List T) (hF : F r) (hw : w.heap[r]? = some (.map es clock))
      (hk : es.size = ks.length) (hv : es.size = vs.length)
      (he : ∀ (j : Nat) (e : MapEntry) (k : Value), es[j]? = some e → ks[j]? = some k → e.key = k)
      (hr : ∀ (j : Nat) (e : MapEntry) (t : T), es[j]? = some e → vs[j]? = some t → RepT F w e.val t) : RepT F w (.map (some r)) (.map ks vs)

theorem cell_same {w w' : World} {b o : Nat} (h : w'.heap[b]? = w.heap[b]?) : w'.cell? ⟨b, o, none⟩ = w.cell? ⟨b, o, none⟩ := by
  simp only [World.cell?, h]

theorem RepT.mono {F F' : Nat → Prop} {w w' : World} (hF : ∀ b, F b → F' b) (hw : ∀ b, F b → w'.heap[b]? = w.heap[b]?) {v : Value} {t : T}
    (h : RepT F w v t) : RepT F' w' v t := by
  induction h with
  | c v h => exact .c v h
  | sl A len cap sz es g hl hc hz hm ho _ ih =>
    refine .sl A len cap sz es g hl hc hz (fun i e j t hi hj => ?_) ho ih
    obtain ⟨b, o, ha, hb, hcell⟩ := hm i e j t hi hj
    exact ⟨b, o, ha, hF b hb, (cell_same (hw b hb)).trans hcell⟩
  | ptr b o e c g hm ho _ ih =>
    exact .ptr b o e c g (fun j t hj => ⟨hF b (hm j t hj).1, (cell_same (hw b (hm j t hj).1)).trans (hm j t hj).2⟩) ho ih
  | agg vs cs hl ho _ ih => exact .agg vs cs hl ho ih
  | tup vs ts hl _ ih => exact .tup vs ts hl ih
  | fn f as bs ts us ha hb _ _ ih1 ih2 => exact .fn f as bs ts us ha hb ih1 ih2
  | iface t v u _ ih => exact .iface t v u ih
  | map r es clock ks vs h hh hk hv he _ ih => exact .map r es clock ks vs (hF r h) ((hw r h).trans hh) hk hv he ih

/-- A value that a call works with: a tree, or something of its own. -/
inductive V where
  | t (t : T)
  | ref (a c : Nat)
  | elt (a i c n : Nat)
  | hdr (a off len cap : Nat)
  | nils
  | ob (k a : Nat)
  | agg (cs : List V)
  | tup (vs : List V)
  | fn (f : Fn) (first cap : List V)
  | iface (t : TypeId) (v : V)
  | undef
  deriving Inhabited

/-- A block of a call's own: a variable; a slice's array; something that is no cells (0: a map, 1: a map's iterator, 2: a loop over a function, 3: a loop's calls that wait, 4: a string's iterator). -/
inductive Blk where
  | var (ty : TypeId) (e : V)
  | arr (ty : TypeId) (sz : Nat) (es : List V)
  | obj (k : Nat) (ns : List Nat) (ks : List Value) (vs : List V) (cs : List Code)
  deriving Inhabited

def obVal : Nat → Nat → Value
  | 0, b => .map (some b)
  | 2, b => .func (.yield b) #[] #[]
  | _, b => .pointer (some ⟨b, 0, none⟩)
def mkEs : List Value → List Value → List Nat → List MapEntry
  | k :: ks, x :: xs, n :: ns => { key := k, val := x, born := n } :: mkEs ks xs ns
  | _, _, _ => []
def loopSt : Nat → LoopState
  | 0 => .ready
  | 1 => .busy
  | 2 => .done
  | _ => .exhausted
def mapObj : List Nat → List Value → List Code → List Value → Option Obj
  | clk :: ns, ks, [], xs => if ks.length = xs.length ∧ ns.length = xs.length then some (.map (mkEs ks xs ns).toArray clk) else none
  | _, _, _, _ => none
def itObj : List Nat → List Value → List Code → List Value → Option Obj
  | since :: last :: seen, [], [], [.map m] => some (.mapIter m since seen.toArray last)
  | _, _, _, _ => none
def loopObj : List Nat → List Value → List Code → List Value → Option Obj
  | st :: ps, [], assign :: body :: pend, .pointer (some ⟨d, 0, none⟩) :: .int .i64 fn :: tmps =>
    some (.loop { state := loopSt st, pending := pend.head?, fn := fn.toNat, tmps := tmps.toArray, params := ps.toArray, assign := assign, body := body, defers := d })
  | _, _, _, _ => none
def waitObj : List Nat → List Value → List Code → List Value → Option Obj
  | [], [], [], [] => some (.deferred (some []))
  | [1], [], [], [] => some (.deferred none)
  | _, _, _, _ => none
def strObj : List Nat → List Value → List Code → List Value → Option Obj
  | [pos], [.string s], [], [] => some (.stringIter s pos)
  | _, _, _, _ => none
def objOf : Nat → List Nat → List Value → List Code → List Value → Option Obj
  | 0 => mapObj
  | 1 => itObj
  | 2 => loopObj
  | 3 => waitObj
  | 4 => strObj
  | _ => fun _ _ _ _ => none
theorem one_obVal (k b : Nat) : one (obVal k b) = true := by
  unfold obVal
  split <;> rfl

theorem mkEs_get : ∀ (ks : List Value) (xs : List Value) (ns : List Nat), ks.length = xs.length → ns.length = xs.length → (mkEs ks xs ns).length = xs.length ∧
    ∀ (j : Nat) (e : MapEntry), (mkEs ks xs ns)[j]? = some e → ks[j]? = some e.key ∧ xs[j]? = some e.val ∧ ns[j]? = some e.born
  | [], [], [], _, _ => ⟨rfl, fun j e h => by simp [mkEs] at h⟩
  | k :: ks, x :: xs, n :: ns, h1, h2 => by
    obtain ⟨q1, q2⟩ := mkEs_get ks xs ns (by simpa using h1) (by simpa using h2)
    refine ⟨by simp [mkEs, q1], fun j e h => ?_⟩
    cases j with
    | zero =>
      simp only [mkEs, List.getElem?_cons_zero, Option.some.injEq] at h
      subst h
      exact ⟨rfl, rfl, rfl⟩
    | succ j =>
      simp only [mkEs, List.getElem?_cons_succ] at h
      exact q2 j e h
  | [], _ :: _, _, h1, _ => by simp at h1
  | _ :: _, [], _, h1, _ => by simp at h1
  | [], [], _ :: _, _, h2 => by simp at h2
  | _ :: _, _ :: _, [], _, h2 => by simp at h2
theorem objOf_map2 {ns : List Nat} {ks : List Value} {cs : List Code} {xs : List Value} {o : Obj} (h : objOf 0 ns ks cs xs = some o) :
    ∃ clk bs, (∀ (j : Nat) (e : MapEntry), (mkEs ks xs bs)[j]? = some e → ks[j]? = some e.key ∧ xs[j]? = some e.val) ∧ ks.length = xs.length ∧ bs.length = xs.length ∧ o = .map (mkEs ks xs bs).toArray clk ∧ (mkEs ks xs bs).length = xs.length := by
  change mapObj ns ks cs xs = some o at h
  unfold mapObj at h
  split at h
  · rename_i clk bs
    split at h
    · rename_i hc
      simp only [Option.some.injEq] at h
      obtain ⟨q1, q2⟩ := mkEs_get ks xs bs hc.1 hc.2
      exact ⟨clk, bs, fun j e he => ⟨(q2 j e he).1, (q2 j e he).2.1⟩, hc.1, hc.2, h.symm, q1⟩
    · simp at h
  · simp at h
theorem objOf_map {ns : List Nat} {ks : List Value} {cs : List Code} {xs : List Value} {o : Obj} (h : objOf 0 ns ks cs xs = some o) : ∃ clk, ∃ es : Array MapEntry, es.size = xs.length ∧ o = .map es clk := by
  obtain ⟨clk, bs, _, _, _, rfl, h2⟩ := objOf_map2 h
  exact ⟨clk, _, by simpa using h2, rfl⟩

def V.cells : V → List V
  | .agg cs => cs
  | .t x => x.cells.map V.t
  | v => [v]

abbrev Heap := List (Nat × Blk)

def hget : Heap → Nat → Option Blk
  | [], _ => none
  | (k, b) :: r, a => if a = k then some b else hget r a

def eget : List (Nat × V) → Nat → V
  | [], _ => .undef
  | (k, v) :: r, a => if a = k then v else eget r a

/-- A slice's header over a block of the call's own. -/
def HdrOk (w : World) (o : Option Nat) (sz off len cap : Nat) (v : Value) : Prop :=
  len ≤ cap ∧ ∃ A C, v = .slice A len C ∧ cap ≤ C ∧ (o = none → C = 0) ∧
    ∀ cb, o = some cb → (0 < C → A = some ⟨cb, off * sz, none⟩) ∧ ∃ cs ty fr, w.heap[cb]? = some (.cells cs ty fr) ∧ (off + C) * sz ≤ cs.size

inductive RepV (F : Nat → Prop) (w : World) (β : Nat → Option Nat) (H : Heap) : Value → V → Prop
  | t (v : Value) (t : T) (h : RepT F w v t) : RepV F w β H v (.t t)
  | ref (a c cb : Nat) (e : V) (ty : TypeId) (hH : hget H a = some (.var ty e)) (hb : β a = some cb) : RepV F w β H (.pointer (some ⟨cb, c, none⟩)) (.ref a c)
  | elt (v : Value) (a i c n : Nat) (ty : TypeId) (sz : Nat) (es : List V) (hH : hget H a = some (.arr ty sz es)) (hn : n ≤ es.length) (ho : one v = true)
      (hv : n = es.length → ∃ cb, β a = some cb ∧ v = .pointer (some ⟨cb, i * sz + c, none⟩)) : RepV F w β H v (.elt a i c n)
  | hdr (v : Value) (a off len cap : Nat) (ty : TypeId) (sz : Nat) (es : List V) (hH : hget H a = some (.arr ty sz es)) (hn : off + cap ≤ es.length) (ho : one v = true)
      (hv : off + cap = es.length → HdrOk w (β a) sz off len cap v) : RepV F w β H v (.hdr a off len cap)
  | nils (A : Option Addr) : RepV F w β H (.slice A 0 0) .nils
  | ob (v : Value) (k a r : Nat) (ns : List Nat) (ks : List Value) (vs : List V) (cs : List Code) (hH : hget H a = some (.obj k ns ks vs cs)) (hb : β a = some r) (hv : v = obVal k r) : RepV F w β H v (.ob k a)
  | agg (vs : Array Value) (cs : List V) (hl : vs.size = cs.length) (ho : ∀ (j : Nat) (v : Value), vs[j]? = some v → one v = true)
      (hr : ∀ (j : Nat) (v : Value) (t : V), vs[j]? = some v → cs[j]? = some t → RepV F w β H v t) : RepV F w β H (.agg vs) (.agg cs)
  | tup (vs : Array Value) (ts : List V) (hl : vs.size = ts.length)
      (hr : ∀ (j : Nat) (v : Value) (t : V), vs[j]? = some v → ts[j]? = some t → RepV F w β H v t) : RepV F w β H (.tuple vs) (.tup ts)
  | fn (f : Fn) (as bs : Array Value) (ts us : List V) (ha : as.size = ts.length) (hb : bs.size = us.length)
      (hr : ∀ (j : Nat) (v : Value) (t : V), as[j]? = some v → ts[j]? = some t → RepV F w β H v t)
      (hs : ∀ (j : Nat) (v : Value) (t : V), bs[j]? = some v → us[j]? = some t → RepV F w β H v t) : RepV F w β H (.func f as bs) (.fn f ts us)
  | iface (t : TypeId) (v : Value) (u : V) (h : RepV F w β H v u) : RepV F w β H (.iface t v) (.iface t u)
  | undef (v : Value) : RepV F w β H v .undef

/-- The first element is not known. -/
def headU : List V → Bool
  | .undef :: _ => true
  | _ => false
/-- What may be written (an array whose first element is not known may have been frozen). -/
def Unfz (es : List V) (fr : Nat × Nat) (n : Nat) : Prop := headU es = false → fr.2 ≤ fr.1 ∨ n ≤ fr.1
theorem Unfz.free {es : List V} {fr : Nat × Nat} {n : Nat} (h : fr.2 ≤ fr.1) : Unfz es fr n := fun _ => .inl h
/-- What a block of the call's own holds. -/
inductive RepB (F : Nat → Prop) (w : World) (β : Nat → Option Nat) (H : Heap) (a : Nat) : Blk → Prop
  | var (ty : TypeId) (e : V) (cb : Nat) (xs : Array Value) (fr : Nat × Nat) (hb : β a = some cb) (hw : w.heap[cb]? = some (.cells xs ty fr)) (hf : fr.2 ≤ fr.1)
      (hl : xs.size = e.cells.length) (ho : ∀ (j : Nat) (v : Value), xs[j]? = some v → one v = true)
      (hr : ∀ (j : Nat) (v : Value) (c : V), xs[j]? = some v → e.cells[j]? = some c → RepV F w β H v c) : RepB F w β H a (.var ty e)
  | arr0 (ty : TypeId) (sz : Nat) (hz : 0 < sz) (hb : β a = none) : RepB F w β H a (.arr ty sz [])
  | arr (ty : TypeId) (sz : Nat) (es : List V) (cb : Nat) (xs : Array Value) (fr : Nat × Nat) (hz : 0 < sz) (hb : β a = some cb) (hw : w.heap[cb]? = some (.cells xs ty fr)) (hf : Unfz es fr xs.size)
      (hs : ∀ (e : V), e ∈ es → e.cells.length = sz) (hl : es.length * sz ≤ xs.size) (ho : ∀ (j : Nat) (v : Value), xs[j]? = some v → one v = true)
      (hr : ∀ (i : Nat) (e : V) (j : Nat) (v : Value) (c : V), es[i]? = some e → e.cells[j]? = some c → xs[i * sz + j]? = some v → RepV F w β H v c) : RepB F w β H a (.arr ty sz es)
  | obj (k : Nat) (ns : List Nat) (ks : List Value) (vs : List V) (cs : List Code) (r : Nat) (xs : List Value) (o : Obj) (hb : β a = some r) (hw : w.heap[r]? = some o) (ho : objOf k ns ks cs xs = some o)
      (hl : xs.length = vs.length) (hr : ∀ (j : Nat) (v : Value) (c : V), xs[j]? = some v → vs[j]? = some c → RepV F w β H v c) : RepB F w β H a (.obj k ns ks vs cs)

/-- How a block may turn while what leads to it lives on. -/
def Blk.onto : Blk → Blk → Prop
  | .var ty _, .var ty' _ => ty = ty'
  | .arr _ sz es, .arr _ sz' es' => sz = sz' ∧ es.length ≤ es'.length
  | .obj k _ _ _ _, .obj k' _ _ _ _ => k = k'
  | _, _ => False
/-- It has not been moved. -/
def Blk.stays : Blk → Blk → Prop
  | .arr _ _ es, .arr _ _ es' => es.length = es'.length
  | _, _ => True

theorem Blk.onto_refl (B : Blk) : B.onto B := by cases B <;> simp [Blk.onto]

def keepsSize (w w' : World) (cb : Nat) : Prop := ∀ cs ty fr, w.heap[cb]? = some (.cells cs ty fr) → ∃ cs' ty' fr', w'.heap[cb]? = some (.cells cs' ty' fr') ∧ cs'.size = cs.size
theorem keepsSize.of_eq {w w' : World} {cb : Nat} (h : w'.heap[cb]? = w.heap[cb]?) : keepsSize w w' cb := fun cs ty fr e => ⟨cs, ty, fr, h.trans e, rfl⟩

/-- The names that a value bears. -/
inductive Within (H : Heap) : V → Prop
  | t (t : T) : Within H (.t t)
  | ref (a c : Nat) (h : hget H a ≠ none) : Within H (.ref a c)
  | elt (a i c n : Nat) (h : hget H a ≠ none) : Within H (.elt a i c n)
  | hdr (a off len cap : Nat) (h : hget H a ≠ none) : Within H (.hdr a off len cap)
  | nils : Within H .nils
  | ob (k a : Nat) (h : hget H a ≠ none) : Within H (.ob k a)
  | agg (cs : List V) (h : ∀ (c : V), c ∈ cs → Within H c) : Within H (.agg cs)
  | tup (cs : List V) (h : ∀ (c : V), c ∈ cs → Within H c) : Within H (.tup cs)
  | fn (f : Fn) (as bs : List V) (ha : ∀ (c : V), c ∈ as → Within H c) (hb : ∀ (c : V), c ∈ bs → Within H c) : Within H (.fn f as bs)
  | iface (t : TypeId) (v : V) (h : Within H v) : Within H (.iface t v)
  | undef : Within H .undef

/-- A step from world to world: what it does to blocks with names. -/
structure Moves (F F' : Nat → Prop) (w w' : World) (β β' : Nat → Option Nat) (H H' : Heap) : Prop where
  imm : ∀ b, F b → F' b ∧ w'.heap[b]? = w.heap[b]?
  blk : ∀ a B B', hget H a = some B → hget H' a = some B' → B.onto B' ∧ (B.stays B' → β' a = β a ∧ ∀ cb, β a = some cb → keepsSize w w' cb)

theorem HdrOk.move {w w' : World} {o : Option Nat} {sz off len cap : Nat} {v : Value} (h : HdrOk w o sz off len cap v) (hk : ∀ cb, o = some cb → keepsSize w w' cb) :
    HdrOk w' o sz off len cap v := by
  obtain ⟨h1, A, C, h2, h3, h4, h5⟩ := h
  refine ⟨h1, A, C, h2, h3, h4, fun cb e => ?_⟩
  obtain ⟨g1, cs, ty, fr, g2, g3⟩ := h5 cb e
  obtain ⟨cs', ty', fr', k1, k2⟩ := hk cb e cs ty fr g2
  exact ⟨g1, cs', ty', fr', k1, by rw [k2]; exact g3⟩

theorem RepV.move {F F' : Nat → Prop} {w w' : World} {β β' : Nat → Option Nat} {H H' : Heap} (M : Moves F F' w w' β β' H H') {v : Value} {u : V}
    (h : RepV F w β H v u) (hin : Within H' u) : RepV F' w' β' H' v u := by
  induction h with
  | t v t h => exact .t v t (h.mono (fun b hb => (M.imm b hb).1) (fun b hb => (M.imm b hb).2))
  | ref a c cb cs ty hH hb =>
    cases hin with | ref _ _ hn =>
    cases hB : hget H' a with
    | none => exact absurd hB hn
    | some B' =>
      obtain ⟨h1, h2⟩ := M.blk a _ B' hH hB
      cases B' with
      | var ty' cs' => exact .ref a c cb cs' ty' hB ((h2 trivial).1.trans hb)
      | arr _ _ _ => exact h1.elim
      | obj _ _ _ _ _ => exact h1.elim
  | elt v a i c n ty sz es hH hn ho hv =>
    cases hin with | elt _ _ _ _ hnn =>
    cases hB : hget H' a with
    | none => exact absurd hB hnn
    | some B' =>
      obtain ⟨h1, h2⟩ := M.blk a _ B' hH hB
      cases B' with
      | var ty' cs' => exact h1.elim
      | arr ty' sz' es' =>
        obtain ⟨rfl, hle⟩ := h1
        refine .elt v a i c n ty' sz es' hB (Nat.le_trans hn hle) ho (fun e => ?_)
        have he : es.length = es'.length := by omega
        obtain ⟨cb, hb, rfl⟩ := hv (by omega)
        exact ⟨cb, (h2 he).1.trans hb, rfl⟩
      | obj _ _ _ _ _ => exact h1.elim
  | hdr v a off len cap ty sz es hH hn ho hv =>
    cases hin with | hdr _ _ _ _ hnn =>
    cases hB : hget H' a with
    | none => exact absurd hB hnn
    | some B' =>
      obtain ⟨h1, h2⟩ := M.blk a _ B' hH hB
      cases B' with
      | var ty' cs' => exact h1.elim
      | arr ty' sz' es' =>
        obtain ⟨rfl, hle⟩ := h1
        refine .hdr v a off len cap ty' sz es' hB (Nat.le_trans hn hle) ho (fun e => ?_)
        have he : es.length = es'.length := by omega
        rw [(h2 he).1]
        exact (hv (by omega)).move (h2 he).2
      | obj _ _ _ _ _ => exact h1.elim
  | nils A => exact .nils A
  | ob v k a r ns ks vs cs hH hb hvv =>
    cases hin with | ob _ _ hn =>
    cases hB : hget H' a with
    | none => exact absurd hB hn
    | some B' =>
      obtain ⟨h1, h2⟩ := M.blk a _ B' hH hB
      cases B' with
      | var _ cs' => exact h1.elim
      | arr _ _ _ => exact h1.elim
      | obj k' ns' ks' vs' cs' =>
        obtain rfl : k = k' := h1
        exact .ob v k a r ns' ks' vs' cs' hB ((h2 trivial).1.trans hb) hvv
  | agg vs cs hl ho _ ih =>
    cases hin with | agg _ hw => exact .agg vs cs hl ho fun j v t h1 h2 => ih j v t h1 h2 (hw t (List.mem_of_getElem? h2))
  | tup vs cs hl _ ih =>
    cases hin with | tup _ hw => exact .tup vs cs hl fun j v t h1 h2 => ih j v t h1 h2 (hw t (List.mem_of_getElem? h2))
  | fn f as bs ts us ha hb _ _ ih1 ih2 =>
    cases hin with | fn _ _ _ h1 h2 =>
      exact .fn f as bs ts us ha hb (fun j v t e1 e2 => ih1 j v t e1 e2 (h1 t (List.mem_of_getElem? e2))) (fun j v t e1 e2 => ih2 j v t e1 e2 (h2 t (List.mem_of_getElem? e2)))
  | iface t v u _ ih => cases hin with | iface _ _ hw => exact .iface t v u (ih hw)
  | undef v => exact .undef v

/-- What is told is within. -/
theorem RepV.within {F : Nat → Prop} {w : World} {β : Nat → Option Nat} {H : Heap} {v : Value} {u : V} (h : RepV F w β H v u) : Within H u := by
  have getV {vs : Array Value} {cs : List V} (hl : vs.size = cs.length) {c : V} (hc : c ∈ cs) : ∃ (j : Nat) (v : Value), vs[j]? = some v ∧ cs[j]? = some c := by
    obtain ⟨j, hj⟩ := List.mem_iff_getElem?.1 hc
    have : j < cs.length := (List.getElem?_eq_some_iff.1 hj).1
    exact ⟨j, vs[j]'(by omega), Array.getElem?_eq_getElem (by omega), hj⟩
  induction h with
  | t v t _ => exact .t t
  | ref a c cb cs _ hH _ => exact .ref a c (by simp [hH])
  | elt v a i c n _ sz es hH _ _ _ => exact .elt a i c n (by simp [hH])
  | hdr v a off len cap _ sz es hH _ _ _ => exact .hdr a off len cap (by simp [hH])
  | nils A => exact .nils
  | ob v k a r ns ks vs cs hH _ _ => exact .ob k a (by simp [hH])
  | agg vs cs hl _ _ ih => exact .agg cs fun c hc => let ⟨j, v, h1, h2⟩ := getV hl hc; ih j v c h1 h2
  | tup vs cs hl _ ih => exact .tup cs fun c hc => let ⟨j, v, h1, h2⟩ := getV hl hc; ih j v c h1 h2
  | fn f as bs ts us ha hb _ _ ih1 ih2 =>
    exact .fn f ts us (fun c hc => let ⟨j, v, h1, h2⟩ := getV ha hc; ih1 j v c h1 h2) (fun c hc => let ⟨j, v, h1, h2⟩ := getV hb hc; ih2 j v c h1 h2)
  | iface t v u _ ih => exact .iface t u ih
  | undef v => exact .undef

theorem Within.mono {H H' : Heap} (hh : ∀ a, hget H a ≠ none → hget H' a ≠ none) {u : V} (h : Within H u) : Within H' u := by
  induction h with
  | t t => exact .t t
  | ref a c h => exact .ref a c (hh a h)
  | elt a i c n h => exact .elt a i c n (hh a h)
  | hdr a off len cap h => exact .hdr a off len cap (hh a h)
  | nils => exact .nils
  | ob k a h => exact .ob k a (hh a h)
  | agg cs _ ih => exact .agg cs ih
  | tup cs _ ih => exact .tup cs ih
  | fn f as bs _ _ ih1 ih2 => exact .fn f as bs ih1 ih2
  | iface t v _ ih => exact .iface t v ih
  | undef => exact .undef
end Go.Vm
namespace Go.Vm

/-- What a call finds: blocks that stand still, where its own begin, and older ones that were handed to it. -/
structure Cx where
  F0 : Nat → Prop
  base : Nat
  own0 : Nat → Nat → Prop

/-- What nobody writes any more: what stood still before; what is new and owned by no name. -/
def imm (x : Cx) (w : World) (β : Nat → Option Nat) (H : Heap) (b : Nat) : Prop :=
  x.F0 b ∨ (x.base ≤ b ∧ b < w.heap.size ∧ ∀ a, hget H a ≠ none → β a ≠ some b)

structure HRel (x : Cx) (w : World) (β : Nat → Option Nat) (H : Heap) : Prop where
  inj : ∀ a a' b, hget H a ≠ none → hget H a' ≠ none → β a = some b → β a' = some b → a = a'
  own : ∀ a b, hget H a ≠ none → β a = some b → b < w.heap.size ∧ ¬ x.F0 b ∧ (x.base ≤ b ∨ x.own0 b a)
  f0 : ∀ b, x.F0 b → b < x.base
  bs : x.base ≤ w.heap.size
  blk : ∀ a B, hget H a = some B → RepB (imm x w β H) w β H a B

structure Kept (x : Cx) (w0 w : World) : Prop where
  os : w.os = w0.os
  tape : w.tape = w0.tape
  output : w.output = w0.output
  size : w0.heap.size ≤ w.heap.size
  block : ∀ b, b < x.base → (∀ a, ¬ x.own0 b a) → w.heap[b]? = w0.heap[b]?

theorem Kept.refl (x : Cx) (w : World) : Kept x w w := ⟨rfl, rfl, rfl, Nat.le_refl _, fun _ _ _ => rfl⟩
theorem Kept.trans {x : Cx} {a b c : World} (h : Kept x a b) (k : Kept x b c) : Kept x a c :=
  ⟨k.os.trans h.os, k.tape.trans h.tape, k.output.trans h.output, Nat.le_trans h.size k.size, fun i hi ho => (k.block i hi ho).trans (h.block i hi ho)⟩

abbrev Rep (x : Cx) (w : World) (β : Nat → Option Nat) (H : Heap) : Value → V → Prop := RepV (imm x w β H) w β H

/-- A step of the heap. -/
structure Step (x : Cx) (w : World) (β : Nat → Option Nat) (H : Heap) (w' : World) (β' : Nat → Option Nat) (H' : Heap) : Prop where
  moves : Moves (imm x w β H) (imm x w' β' H') w w' β β' H H'
  dom : ∀ a, hget H a ≠ none → hget H' a ≠ none
  heap : HRel x w' β' H'
  kept : Kept x w w'

theorem Step.rep {x : Cx} {w w' : World} {β β' : Nat → Option Nat} {H H' : Heap} (S : Step x w β H w' β' H') {v : Value} {u : V} (h : Rep x w β H v u) : Rep x w' β' H' v u :=
  h.move S.moves (h.within.mono S.dom)

theorem Moves.refl (F : Nat → Prop) (w : World) (β : Nat → Option Nat) (H : Heap) : Moves F F w w β β H H :=
  ⟨fun b h => ⟨h, rfl⟩, fun a B B' h h' => by
    rw [h] at h'
    obtain rfl : B = B' := by simpa using h'
    exact ⟨B.onto_refl, fun _ => ⟨rfl, fun cb _ => .of_eq rfl⟩⟩⟩

theorem Step.refl {x : Cx} {w : World} {β : Nat → Option Nat} {H : Heap} (h : HRel x w β H) : Step x w β H w β H :=
  ⟨.refl _ _ _ _, fun _ h => h, h, .refl _ _⟩

/-- A block's telling moves on, where it stays what it is. -/
theorem RepB.move {F F' : Nat → Prop} {w w' : World} {β β' : Nat → Option Nat} {H H' : Heap} (M : Moves F F' w w' β β' H H') {a : Nat} {B : Blk}
    (h : RepB F w β H a B) (hb : β' a = β a) (hw : ∀ cb, β a = some cb → w'.heap[cb]? = w.heap[cb]?) (hd : ∀ c, hget H c ≠ none → hget H' c ≠ none) : RepB F' w' β' H' a B := by
  cases h with
  | var ty cs cb xs fr h1 h2 hf hl ho hr =>
    exact .var ty cs cb xs fr (hb.trans h1) ((hw cb h1).trans h2) hf hl ho fun j v c e1 e2 => (hr j v c e1 e2).move M ((hr j v c e1 e2).within.mono hd)
  | arr0 ty sz hz h1 => exact .arr0 ty sz hz (hb.trans h1)
  | arr ty sz es cb xs fr hz h1 h2 hf hs hl ho hr =>
    exact .arr ty sz es cb xs fr hz (hb.trans h1) ((hw cb h1).trans h2) hf hs hl ho fun i e j v c e1 e2 e3 => (hr i e j v c e1 e2 e3).move M ((hr i e j v c e1 e2 e3).within.mono hd)
  | obj k ns ks vs cs r xs o h1 h2 ho hl hr =>
    exact .obj k ns ks vs cs r xs o (hb.trans h1) ((hw r h1).trans h2) ho hl fun j v c e1 e2 => (hr j v c e1 e2).move M ((hr j v c e1 e2).within.mono hd)

def upd (β : Nat → Option Nat) (d : Nat) (o : Option Nat) : Nat → Option Nat := fun a => if a = d then o else β a
theorem upd_same (β : Nat → Option Nat) (d : Nat) (o : Option Nat) : upd β d o d = o := by simp [upd]
theorem upd_other {β : Nat → Option Nat} {d a : Nat} (o : Option Nat) (h : a ≠ d) : upd β d o a = β a := by simp [upd, h]

theorem alloc_old (w : World) (o : Obj) {b : Nat} (h : b < w.heap.size) : (w.alloc o).heap[b]? = w.heap[b]? := Go.RowKit.Below.heap_alloc w o b h
theorem alloc_new (w : World) (o : Obj) : (w.alloc o).heap[w.heap.size]? = some o := by
  show (w.heap.push o)[w.heap.size]? = _
  simp

theorem HRel.imm_lt {x : Cx} {w : World} {β : Nat → Option Nat} {H : Heap} (h : HRel x w β H) {b : Nat} (hb : imm x w β H b) : b < w.heap.size := by
  rcases hb with hb | hb
  · exact Nat.lt_of_lt_of_le (h.f0 b hb) h.bs
  · exact hb.2.1
theorem HRel.imm_ne {x : Cx} {w : World} {β : Nat → Option Nat} {H : Heap} (h : HRel x w β H) {a b cb : Nat} (ha : hget H a ≠ none) (hb : β a = some cb) (hi : imm x w β H b) : b ≠ cb := by
  rintro rfl
  rcases hi with hi | hi
  · exact (h.own a b ha hb).2.1 hi
  · exact hi.2.2 a ha hb

theorem hget_cons (H : Heap) (d : Nat) (B : Blk) (a : Nat) : hget ((d, B) :: H) a = if a = d then some B else hget H a := rfl
theorem hget_new {H : Heap} {d : Nat} {B : Blk} : hget ((d, B) :: H) d = some B := by simp [hget]
theorem hget_old {H : Heap} {d : Nat} {B : Blk} {a : Nat} (h : a ≠ d) : hget ((d, B) :: H) a = hget H a := by simp [hget, h]

/-- A new block of the call's own, under a new name. -/
theorem Step.alloc {x : Cx} {w : World} {β : Nat → Option Nat} {H : Heap} (h : HRel x w β H) (d : Nat) (hd : hget H d = none) (B : Blk) (o : Obj)
    (hB : (∀ v u, Rep x w β H v u → RepV (imm x (w.alloc o) (upd β d (some w.heap.size)) ((d, B) :: H)) (w.alloc o) (upd β d (some w.heap.size)) ((d, B) :: H) v u) →
      RepB (imm x (w.alloc o) (upd β d (some w.heap.size)) ((d, B) :: H)) (w.alloc o) (upd β d (some w.heap.size)) ((d, B) :: H) d B) :
    Step x w β H (w.alloc o) (upd β d (some w.heap.size)) ((d, B) :: H) := by
  have hne : ∀ a, hget H a ≠ none → a ≠ d := fun a ha e => ha (e ▸ hd)
  have hdom : ∀ a, hget H a ≠ none → hget ((d, B) :: H) a ≠ none := fun a ha => by rw [hget_old (hne a ha)]; exact ha
  have hin : ∀ a, hget ((d, B) :: H) a ≠ none → a = d ∨ (a ≠ d ∧ hget H a ≠ none) := fun a ha => by
    by_cases e : a = d
    · exact .inl e
    · exact .inr ⟨e, by rwa [hget_old e] at ha⟩
  have M : Moves (imm x w β H) (imm x (w.alloc o) (upd β d (some w.heap.size)) ((d, B) :: H)) w (w.alloc o) β (upd β d (some w.heap.size)) H ((d, B) :: H) := by
    refine ⟨fun b hb => ⟨?_, alloc_old w o (h.imm_lt hb)⟩, fun a C C' hC hC' => ?_⟩
    · rcases hb with hb | ⟨h1, h2, h3⟩
      · exact .inl hb
      · refine .inr ⟨h1, by simp; omega, fun a ha e => ?_⟩
        rcases hin a ha with rfl | ⟨hne', ha'⟩
        · rw [upd_same] at e
          have : w.heap.size = b := by simpa using e
          omega
        · rw [upd_other _ hne'] at e
          exact h3 a ha' e
    · have hn := hne a (by simp [hC])
      rw [hget_old hn, hC] at hC'
      obtain rfl : C = C' := by simpa using hC'
      exact ⟨C.onto_refl, fun _ => ⟨upd_other _ hn, fun cb e => .of_eq (alloc_old w o (h.own a cb (by simp [hC]) e).1)⟩⟩
  have hmove : ∀ v u, Rep x w β H v u → RepV (imm x (w.alloc o) (upd β d (some w.heap.size)) ((d, B) :: H)) (w.alloc o) (upd β d (some w.heap.size)) ((d, B) :: H) v u :=
    fun v u hr => hr.move M (hr.within.mono hdom)
  refine ⟨M, hdom, ⟨fun a a' b ha ha' e e' => ?_, fun a b ha e => ?_, h.f0, ?_, fun a C hC => ?_⟩, ⟨rfl, rfl, rfl, by simp, fun b hb _ => alloc_old w o (Nat.lt_of_lt_of_le hb h.bs)⟩⟩
  · rcases hin a ha with rfl | ⟨n1, a1⟩ <;> rcases hin a' ha' with rfl | ⟨n2, a2⟩
    · rfl
    · rw [upd_same] at e
      rw [upd_other _ n2] at e'
      have h1 : w.heap.size = b := by simpa using e
      have := (h.own a' b a2 e').1
      omega
    · rw [upd_same] at e'
      rw [upd_other _ n1] at e
      have h1 : w.heap.size = b := by simpa using e'
      have := (h.own a b a1 e).1
      omega
    · rw [upd_other _ n1] at e
      rw [upd_other _ n2] at e'
      exact h.inj a a' b a1 a2 e e'
  · rcases hin a ha with rfl | ⟨n1, a1⟩
    · rw [upd_same] at e
      have h1 : w.heap.size = b := by simpa using e
      refine ⟨by simp; omega, fun hf => ?_, .inl (by have := h.bs; omega)⟩
      have := h.f0 b hf
      have := h.bs
      omega
    · rw [upd_other _ n1] at e
      obtain ⟨k1, k2, k3⟩ := h.own a b a1 e
      exact ⟨by simp; omega, k2, k3⟩
  · have := h.bs
    simp
    omega
  · by_cases e : a = d
    · subst e
      rw [hget_new] at hC
      obtain rfl : B = C := by simpa using hC
      exact hB hmove
    · rw [hget_old e] at hC
      exact (h.blk a C hC).move M (upd_other _ e) (fun cb e' => alloc_old w o (h.own a cb (by simp [hC]) e').1) hdom

def hset : Heap → Nat → Blk → Heap
  | [], _, _ => []
  | (k, b) :: r, a, B => if a = k then (k, B) :: r else (k, b) :: hset r a B

theorem hget_hset_same {H : Heap} {d : Nat} {B : Blk} (h : hget H d ≠ none) : hget (hset H d B) d = some B := by
  induction H with
  | nil => exact absurd rfl h
  | cons p r ih =>
    obtain ⟨k, b⟩ := p
    by_cases e : d = k
    · simp [hset, hget, e]
    · simp only [hget, e, if_false] at h
      simp [hset, hget, e, ih h]
theorem hget_hset_other {H : Heap} {d : Nat} {B : Blk} {a : Nat} (h : a ≠ d) : hget (hset H d B) a = hget H a := by
  induction H with
  | nil => rfl
  | cons p r ih =>
    obtain ⟨k, b⟩ := p
    by_cases e : d = k
    · subst e
      simp [hset, hget, h]
    · simp only [hset, e, if_false, hget, ih]

/-- A block of the call's own turns: in its place, or (a slice that grows) into a new one. -/
theorem Step.turn {x : Cx} {w w' : World} {β : Nat → Option Nat} {H : Heap} (h : HRel x w β H) (d : Nat) (B0 B : Blk) (hd : hget H d = some B0) (o : Option Nat)
    (hon : B0.onto B) (hst : B0.stays B → o = β d ∧ ∀ cb, β d = some cb → keepsSize w w' cb)
    (ho : o = β d ∨ o = some w.heap.size) (hlt : ∀ cb, o = some cb → cb < w'.heap.size)
    (hk : Kept x w w') (hw : ∀ b, b < w.heap.size → β d ≠ some b → w'.heap[b]? = w.heap[b]?)
    (hB : (∀ v u, Rep x w β H v u → RepV (imm x w' (upd β d o) (hset H d B)) w' (upd β d o) (hset H d B) v u) →
      RepB (imm x w' (upd β d o) (hset H d B)) w' (upd β d o) (hset H d B) d B) :
    Step x w β H w' (upd β d o) (hset H d B) := by
  have hdn : hget H d ≠ none := by simp [hd]
  have hdom : ∀ a, hget H a ≠ none → hget (hset H d B) a ≠ none := fun a ha => by
    by_cases e : a = d
    · rw [e, hget_hset_same hdn]; simp
    · rw [hget_hset_other e]; exact ha
  have hin : ∀ a, hget (hset H d B) a ≠ none → hget H a ≠ none := fun a ha => by
    by_cases e : a = d
    · rw [e]; exact hdn
    · rwa [hget_hset_other e] at ha
  have hsz := hk.size
  have oth : ∀ a b, a ≠ d → hget H a ≠ none → β a = some b → w'.heap[b]? = w.heap[b]? := fun a b ha ha' e =>
    hw b (h.own a b ha' e).1 fun e' => ha (h.inj a d b ha' hdn e e')
  have M : Moves (imm x w β H) (imm x w' (upd β d o) (hset H d B)) w w' β (upd β d o) H (hset H d B) := by
    refine ⟨fun b hb => ⟨?_, hw b (h.imm_lt hb) fun e => h.imm_ne hdn e hb rfl⟩, fun a C C' hC hC' => ?_⟩
    · rcases hb with hb | ⟨h1, h2, h3⟩
      · exact .inl hb
      · refine .inr ⟨h1, by omega, fun a ha e => ?_⟩
        by_cases n : a = d
        · subst n
          rw [upd_same] at e
          rcases ho with ho | ho
          · exact h3 a hdn (ho.symm.trans e)
          · rw [ho] at e
            have : w.heap.size = b := by simpa using e
            omega
        · rw [upd_other _ n] at e
          exact h3 a (hin a ha) e
    · by_cases n : a = d
      · subst n
        rw [hget_hset_same hdn] at hC'
        rw [hd] at hC
        obtain rfl : B0 = C := by simpa using hC
        obtain rfl : B = C' := by simpa using hC'
        exact ⟨hon, fun hs => ⟨(upd_same _ _ _).trans (hst hs).1, (hst hs).2⟩⟩
      · rw [hget_hset_other n, hC] at hC'
        obtain rfl : C = C' := by simpa using hC'
        exact ⟨C.onto_refl, fun _ => ⟨upd_other _ n, fun cb e => .of_eq (oth a cb n (by simp [hC]) e)⟩⟩
  have hmove : ∀ v u, Rep x w β H v u → RepV (imm x w' (upd β d o) (hset H d B)) w' (upd β d o) (hset H d B) v u :=
    fun v u hr => hr.move M (hr.within.mono hdom)
  have ownd : ∀ b, o = some b → b < w'.heap.size ∧ ¬ x.F0 b ∧ (x.base ≤ b ∨ x.own0 b d) := fun b e => by
    refine ⟨hlt b e, ?_⟩
    rcases ho with ho | ho
    · exact (h.own d b hdn (ho.symm.trans e)).2
    · rw [ho] at e
      have h1 : w.heap.size = b := by simpa using e
      exact ⟨fun hf => by have := h.f0 b hf; have := h.bs; omega, .inl (by have := h.bs; omega)⟩
  have uniq : ∀ a b, a ≠ d → hget H a ≠ none → β a = some b → o ≠ some b := fun a b n ha e eo => by
    rcases ho with ho | ho
    · exact n (h.inj a d b ha hdn e (ho.symm.trans eo))
    · rw [ho] at eo
      have h1 : w.heap.size = b := by simpa using eo
      have := (h.own a b ha e).1
      omega
  refine ⟨M, hdom, ⟨fun a a' b ha ha' e e' => ?_, fun a b ha e => ?_, h.f0, by have := h.bs; omega, fun a C hC => ?_⟩, hk⟩
  · by_cases n : a = d <;> by_cases n' : a' = d
    · rw [n, n']
    · rw [n, upd_same] at e
      rw [upd_other _ n'] at e'
      exact absurd e (uniq a' b n' (hin a' ha') e')
    · rw [n', upd_same] at e'
      rw [upd_other _ n] at e
      exact absurd e' (uniq a b n (hin a ha) e)
    · rw [upd_other _ n] at e
      rw [upd_other _ n'] at e'
      exact h.inj a a' b (hin a ha) (hin a' ha') e e'
  · by_cases n : a = d
    · rw [n, upd_same] at e
      rw [n]
      exact ownd b e
    · rw [upd_other _ n] at e
      obtain ⟨k1, k2, k3⟩ := h.own a b (hin a ha) e
      exact ⟨by omega, k2, k3⟩
  · by_cases n : a = d
    · subst n
      rw [hget_hset_same hdn] at hC
      obtain rfl : B = C := by simpa using hC
      exact hB hmove
    · rw [hget_hset_other n] at hC
      exact (h.blk a C hC).move M (upd_other _ n) (fun cb e => oth a cb n (by simp [hC]) e) hdom

theorem Blk.onto_trans {a b c : Blk} (h : a.onto b) (k : b.onto c) : a.onto c := by
  cases a <;> cases b <;> cases c <;> first | exact h.elim | exact k.elim | trivial | exact ⟨h.1.trans k.1, Nat.le_trans h.2 k.2⟩ | exact Eq.trans h k
theorem Blk.stays_split {a b c : Blk} (h : a.onto b) (k : b.onto c) (s : a.stays c) : a.stays b ∧ b.stays c := by
  cases a <;> cases b <;> cases c <;> first
    | exact h.elim
    | exact k.elim
    | exact ⟨trivial, trivial⟩
    | (have h2 := h.2
       have k2 := k.2
       simp only [Blk.stays] at s ⊢
       omega)
theorem keepsSize.trans {a b c : World} {cb : Nat} (h : keepsSize a b cb) (k : keepsSize b c cb) : keepsSize a c cb := by
  intro cs ty fr e
  obtain ⟨cs1, ty1, fr1, e1, s1⟩ := h cs ty fr e
  obtain ⟨cs2, ty2, fr2, e2, s2⟩ := k cs1 ty1 fr1 e1
  exact ⟨cs2, ty2, fr2, e2, s2.trans s1⟩
theorem Step.trans {x : Cx} {a b c : World} {β β' β'' : Nat → Option Nat} {H H' H'' : Heap} (h : Step x a β H b β' H') (k : Step x b β' H' c β'' H'') : Step x a β H c β'' H'' := by
  refine ⟨⟨fun i hi => ?_, fun n B B'' hB hB'' => ?_⟩, fun n hn => k.dom n (h.dom n hn), k.heap, h.kept.trans k.kept⟩
  · obtain ⟨h1, h2⟩ := h.moves.imm i hi
    obtain ⟨k1, k2⟩ := k.moves.imm i h1
    exact ⟨k1, k2.trans h2⟩
  · cases hB' : hget H' n with
    | none => exact absurd hB' (h.dom n (by simp [hB]))
    | some B' =>
      obtain ⟨h1, h2⟩ := h.moves.blk n B B' hB hB'
      obtain ⟨k1, k2⟩ := k.moves.blk n B' B'' hB' hB''
      refine ⟨Blk.onto_trans h1 k1, fun hs => ?_⟩
      obtain ⟨s1, s2⟩ := Blk.stays_split h1 k1 hs
      obtain ⟨p1, p2⟩ := h2 s1
      obtain ⟨q1, q2⟩ := k2 s2
      exact ⟨q1.trans p1, fun cb e => (p2 cb e).trans (q2 cb (p1.trans e))⟩

/-- Where a call began. -/
structure Start where
  w : World
  β : Nat → Option Nat
  H : Heap

/-- A state: how many slots, what is known of them, the blocks of its own; the names that were handed in. -/
structure St where
  n : Nat
  env : List (Nat × V)
  hp : Heap
  pr : List Nat

structure Sim (x : Cx) (w0 : Start) (β : Nat → Option Nat) (σ : St) (a : Act) (w : World) : Prop where
  start : Step x w0.w w0.β w0.H w β σ.hp
  env : ∀ t, Rep x w β σ.hp (a.tmps.getD t undef) (eget σ.env t)
  size : a.tmps.size = σ.n
  defs : a.defers = []
  prot : ∀ n, (∃ b, x.own0 b n) ∨ hget w0.H n ≠ none → n ∈ σ.pr

theorem Sim.heap {x : Cx} {w0 : Start} {β : Nat → Option Nat} {σ : St} {a : Act} {w : World} (h : Sim x w0 β σ a w) : HRel x w β σ.hp := h.start.heap

def eset (E : List (Nat × V)) (d : Nat) (v : V) : List (Nat × V) := (d, v) :: E

theorem eget_eset (E : List (Nat × V)) (d : Nat) (v : V) (t : Nat) : eget (eset E d v) t = if t = d then v else eget E t := rfl

/-- A slot is written. -/
theorem Sim.put {x : Cx} {w0 : Start} {w w' : World} {β β' : Nat → Option Nat} {σ : St} {a : Act} (h : Sim x w0 β σ a w) {H' : Heap} (S : Step x w β σ.hp w' β' H') (d : Nat) (hd : d < σ.n)
    {v : Value} {u : V} (hv : Rep x w' β' H' v u) : Sim x w0 β' { σ with env := eset σ.env d u, hp := H' } (a.put (some d) v) w' := by
  refine ⟨h.start.trans S, fun t => ?_, by simp [Act.put, h.size], h.defs, h.prot⟩
  rw [eget_eset]
  by_cases e : t = d
  · subst e
    have : t < a.tmps.size := by rw [h.size]; exact hd
    simp [Act.put, Array.getD_eq_getD_getElem?, this, hv]
  · rw [if_neg e]
    have : (a.put (some d) v).tmps.getD t undef = a.tmps.getD t undef := by
      simp only [Act.put, Array.getD_eq_getD_getElem?, Array.getElem?_setIfInBounds]
      rw [if_neg (fun h => e h.symm)]
    rw [this]
    exact S.rep (h.env t)
/-- No slot is written. -/
theorem Sim.only {x : Cx} {w0 : Start} {w w' : World} {β β' : Nat → Option Nat} {σ : St} {a : Act} (h : Sim x w0 β σ a w) {H' : Heap} (S : Step x w β σ.hp w' β' H') :
    Sim x w0 β' { σ with hp := H' } a w' :=
  ⟨h.start.trans S, fun t => S.rep (h.env t), h.size, h.defs, h.prot⟩
end Go.Vm
namespace Go.Vm

def allT : List V → Option (List T)
  | [] => some []
  | .t x :: r => (allT r).map (x :: ·)
  | _ => none
def mkAgg (cs : List V) : V := match allT cs with | some ts => .t (.agg ts) | none => .agg cs
def mkTup (cs : List V) : V := match allT cs with | some ts => .t (.tup ts) | none => .tup cs
def cOf : V → Option Value | .t (.c v) => some v | _ => none
def aggOf : V → Option (List V) | .agg cs => some cs | .t (.agg ts) => some (ts.map V.t) | _ => none
def tupOf : V → Option (List V) | .tup cs => some cs | .t (.tup ts) => some (ts.map V.t) | _ => none
def boolOf (u : V) : Option Bool := match cOf u with | some (.bool b) => some b | _ => none
def intOf? (u : V) : Option (IntKind × Int) := match cOf u with | some (.int k n) => some (k, n) | _ => none
def strOf (u : V) : Option ByteArray := match cOf u with | some (.string s) => some s | _ => none
abbrev vc (v : Value) : V := .t (.c v)
abbrev vi (n : Int) : V := .t (.c (.int .i64 n))
abbrev vb (b : Bool) : V := .t (.c (.bool b))

def ofC : Value → V
  | .slice _ 0 0 => .nils
  | .slice _ _ _ | .agg _ | .tuple _ | .func _ _ _ | .iface _ _ => .undef
  | v => .t (.c v)
def ofV : Value → V
  | .agg cs => mkAgg (cs.toList.map ofC)
  | v => ofC v

section
variable {F : Nat → Prop} {w : World} {β : Nat → Option Nat} {H : Heap}

theorem rep_c {v c : Value} {u : V} (h : RepV F w β H v u) (hc : cOf u = some c) : v = c := by
  cases h with
  | t v t h =>
    cases h with
    | c v h1 => simpa [cOf] using hc
    | _ => simp [cOf] at hc
  | _ => simp [cOf] at hc

theorem allT_rep : ∀ {cs : List V} {ts : List T}, allT cs = some ts → cs = ts.map V.t
  | [], ts, h => by simp [allT] at h; subst h; rfl
  | .t x :: r, ts, h => by
    simp only [allT, Option.map_eq_some_iff] at h
    obtain ⟨rs, hr, rfl⟩ := h
    rw [allT_rep hr]
    rfl
  | .ref _ _ :: _, _, h | .elt _ _ _ _ :: _, _, h | .hdr _ _ _ _ :: _, _, h | .nils :: _, _, h | .ob _ _ :: _, _, h | .agg _ :: _, _, h | .tup _ :: _, _, h
  | .fn _ _ _ :: _, _, h | .iface _ _ :: _, _, h | .undef :: _, _, h => by simp [allT] at h

theorem rep_t {v : Value} {t : T} (h : RepV F w β H v (.t t)) : RepT F w v t := by cases h with | t _ _ h => exact h

theorem rep_one {v : Value} {u : V} (h : RepV F w β H v u) (hu : aggOf u = none) (ht : tupOf u = none) (hun : u ≠ .undef) : one v = true := by
  cases h with
  | t v t h => cases h <;> first | assumption | rfl | (simp [aggOf, tupOf] at hu ht)
  | elt _ _ _ _ _ _ _ _ _ _ ho _ => exact ho
  | hdr _ _ _ _ _ _ _ _ _ _ ho _ => exact ho
  | undef => exact absurd rfl hun
  | ob v k a r ns ks vs cs _ _ hv => subst hv; exact one_obVal k r
  | _ => first | rfl | (simp [aggOf, tupOf] at hu ht)

theorem rep_mkAgg {vs : Array Value} {cs : List V} (hl : vs.size = cs.length) (ho : ∀ (j : Nat) (v : Value), vs[j]? = some v → one v = true)
    (hr : ∀ (j : Nat) (v : Value) (c : V), vs[j]? = some v → cs[j]? = some c → RepV F w β H v c) : RepV F w β H (.agg vs) (mkAgg cs) := by
  unfold mkAgg
  cases h : allT cs with
  | none => exact .agg vs cs hl ho hr
  | some ts =>
    obtain rfl := allT_rep h
    refine .t _ _ (.agg vs ts (by simpa using hl) ho fun j v t h1 h2 => rep_t (hr j v (.t t) h1 (by simp [h2])))
theorem rep_mkTup {vs : Array Value} {cs : List V} (hl : vs.size = cs.length)
    (hr : ∀ (j : Nat) (v : Value) (c : V), vs[j]? = some v → cs[j]? = some c → RepV F w β H v c) : RepV F w β H (.tuple vs) (mkTup cs) := by
  unfold mkTup
  cases h : allT cs with
  | none => exact .tup vs cs hl hr
  | some ts =>
    obtain rfl := allT_rep h
    refine .t _ _ (.tup vs ts (by simpa using hl) fun j v t h1 h2 => rep_t (hr j v (.t t) h1 (by simp [h2])))

theorem rep_agg {v : Value} {u : V} {cs : List V} (h : RepV F w β H v u) (ha : aggOf u = some cs) :
    ∃ vs, v = .agg vs ∧ vs.size = cs.length ∧ (∀ (j : Nat) (v : Value), vs[j]? = some v → one v = true) ∧
      ∀ (j : Nat) (v : Value) (c : V), vs[j]? = some v → cs[j]? = some c → RepV F w β H v c := by
  cases h with
  | t v t h =>
    cases h with
    | agg vs ts hl ho hr =>
      simp only [aggOf, Option.some.injEq] at ha
      subst ha
      refine ⟨vs, rfl, by simpa using hl, ho, fun j v c h1 h2 => ?_⟩
      simp only [List.getElem?_map, Option.map_eq_some_iff] at h2
      obtain ⟨t, h2, rfl⟩ := h2
      exact .t _ _ (hr j v t h1 h2)
    | _ => simp [aggOf] at ha
  | agg vs cs hl ho hr =>
    simp only [aggOf, Option.some.injEq] at ha
    subst ha
    exact ⟨vs, rfl, hl, ho, hr⟩
  | _ => simp [aggOf] at ha
theorem rep_tup {v : Value} {u : V} {cs : List V} (h : RepV F w β H v u) (ha : tupOf u = some cs) :
    ∃ vs, v = .tuple vs ∧ vs.size = cs.length ∧ ∀ (j : Nat) (v : Value) (c : V), vs[j]? = some v → cs[j]? = some c → RepV F w β H v c := by
  cases h with
  | t v t h =>
    cases h with
    | tup vs ts hl hr =>
      simp only [tupOf, Option.some.injEq] at ha
      subst ha
      refine ⟨vs, rfl, by simpa using hl, fun j v c h1 h2 => ?_⟩
      simp only [List.getElem?_map, Option.map_eq_some_iff] at h2
      obtain ⟨t, h2, rfl⟩ := h2
      exact .t _ _ (hr j v t h1 h2)
    | _ => simp [tupOf] at ha
  | tup vs cs hl hr =>
    simp only [tupOf, Option.some.injEq] at ha
    subst ha
    exact ⟨vs, rfl, hl, hr⟩
  | _ => simp [tupOf] at ha

/-- A value's cells. -/
theorem rep_cells {v : Value} {u : V} (h : RepV F w β H v u) (hu : u ≠ .undef) (ht : tupOf u = none) :
    v.cells.size = u.cells.length ∧ (∀ (j : Nat) (x : Value), v.cells[j]? = some x → one x = true) ∧
      ∀ (j : Nat) (x : Value) (c : V), v.cells[j]? = some x → u.cells[j]? = some c → RepV F w β H x c := by
  cases ha : aggOf u with
  | some cs =>
    obtain ⟨vs, rfl, h1, h2, h3⟩ := rep_agg h ha
    have hc : u.cells = cs := by
      cases u with
      | t t => cases t <;> simp_all [aggOf, V.cells, T.cells]
      | agg _ => simpa [aggOf, V.cells] using ha
      | _ => simp [aggOf] at ha
    rw [hc]
    exact ⟨h1, h2, h3⟩
  | none =>
    have h1 := rep_one h ha ht hu
    have hc : u.cells = [u] := by
      cases u with
      | t t => cases t <;> simp_all [aggOf, V.cells, T.cells]
      | agg _ => simp [aggOf] at ha
      | _ => rfl
    have hv : v.cells = #[v] := by cases v <;> simp_all [Value.cells, Value.oneCell']
    rw [hc, hv]
    refine ⟨rfl, fun j x e => ?_, fun j x c e e' => ?_⟩
    · cases j with
      | zero => simp at e; subst e; exact h1
      | succ j => simp at e
    · cases j with
      | zero => simp at e e'; subst e e'; exact h
      | succ j => simp at e

theorem rep_ofC (v : Value) : RepV F w β H v (ofC v) := by
  cases v with
  | slice a n c => cases n <;> cases c <;> first | exact .nils _ | exact .undef _
  | agg _ => exact .undef _
  | tuple _ => exact .undef _
  | func _ _ _ => exact .undef _
  | iface _ _ => exact .undef _
  | _ => exact .t _ _ (.c _ rfl)
def okAgg : Value → Bool
  | .agg cs => cs.all (·.oneCell')
  | _ => true
theorem rep_ofV (v : Value) (hv : okAgg v = true) : RepV F w β H v (ofV v) := by
  cases v with
  | agg cs =>
    refine rep_mkAgg (by simp) (fun j v h => ?_) (fun j v c h1 h2 => ?_)
    · exact (Array.all_eq_true_iff_forall_mem.1 hv) v (Array.mem_of_getElem? h)
    · simp only [List.getElem?_map, Array.getElem?_toList, h1, Option.map_some, Option.some.injEq] at h2
      subst h2
      exact rep_ofC v
  | _ => exact rep_ofC _
end

/-! ### Numbers and strings -/
def intBin (op : BinOp) (k : IntKind) (a : Int) (k' : IntKind) (b : Int) : Option Value :=
  match op with
  | .shl => if b < 0 then none else some (.int k (k.wrap (a * 2 ^ (min b.toNat k.bits))))
  | .shr => if b < 0 then none else some (.int k (a.fdiv (2 ^ (min b.toNat k.bits))))
  | op => if k = k' then match op with
    | .add => some (.int k (k.wrap (a + b)))
    | .sub => some (.int k (k.wrap (a - b)))
    | .mul => some (.int k (k.wrap (a * b)))
    | .quo => if b = 0 then none else some (.int k (k.wrap (a.tdiv b)))
    | .rem => if b = 0 then none else some (.int k (a.tmod b))
    | .and => some (.int k (k.wrap (BitVec.ofInt k.bits a &&& BitVec.ofInt k.bits b).toNat))
    | .or => some (.int k (k.wrap (BitVec.ofInt k.bits a ||| BitVec.ofInt k.bits b).toNat))
    | .xor => some (.int k (k.wrap (BitVec.ofInt k.bits a ^^^ BitVec.ofInt k.bits b).toNat))
    | .andNot => some (.int k (k.wrap (BitVec.ofInt k.bits a &&& ~~~ BitVec.ofInt k.bits b).toNat))
    | .eql => some (.bool (a == b))
    | .neq => some (.bool (a != b))
    | .lss => some (.bool (decide (a < b)))
    | .leq => some (.bool (decide (a ≤ b)))
    | .gtr => some (.bool (decide (a > b)))
    | .geq => some (.bool (decide (a ≥ b)))
    | _ => none
    else none

def slt (a b : ByteArray) : Bool := Op.bytesLess a.toList b.toList
def strBin (op : BinOp) (a b : ByteArray) : Option Value :=
  match op with
  | .add => if a.size + b.size < 9223372036854775808 then some (.string (a ++ b)) else none
  | .eql => some (.bool (a == b))
  | .neq => some (.bool (!(a == b)))
  | .lss => some (.bool (slt a b))
  | .leq => some (.bool (slt a b || a == b))
  | .gtr => some (.bool (!(slt a b || a == b)))
  | .geq => some (.bool (!(slt a b)))
  | _ => none

theorem run_eqGuard_plain (P : Program) (w : World) (op : BinOp) (ty : TypeId) (x y : Operand) (a b : Value) (ha : ∀ n, a ≠ .agg n) (hb : a ≠ .nilIface) :
    (eqGuard op ty x y a b).run P w = .ok () w := by
  cases a <;> first
    | (exact absurd rfl hb)
    | (exact absurd rfl (ha _))
    | (simp [eqGuard]; done)
    | (simp only [eqGuard]; split <;> simp)

theorem intBin_run (P : Program) (w : World) (op : BinOp) (ty : TypeId) (x y : Operand) (k k' : IntKind) (a b : Int) (r : Value) (h : intBin op k a k' b = some r) :
    (do eqGuard op ty x y (.int k a) (.int k' b); binOp op ty (.int k a) (.int k' b) : Sem Value).run P w = .ok r w := by
  simp only [Sem.run_bind, run_eqGuard_plain P w op ty x y (.int k a) (.int k' b) (by simp) (by simp), Result.andThen_ok]
  by_cases hk : k = k'
  · subst hk
    cases op <;> simp only [intBin, if_true] at h <;> first
      | (split at h
         · simp at h
         · rename_i hb
           simp only [Option.some.injEq] at h
           subst h
           simp [binOp, Op.shift, Op.intDiv, hb])
      | (simp only [Option.some.injEq] at h
         subst h
         simp [binOp, Op.intArith, Op.intBits, Op.intCmp]; done)
      | simp at h
  · cases op <;> simp only [intBin, if_neg hk] at h <;> first
      | (split at h
         · simp at h
         · rename_i hb
           simp only [Option.some.injEq] at h
           subst h
           simp [binOp, Op.shift, hb])
      | simp at h

theorem beq_toList (a b : ByteArray) : (a.toList == b.toList) = (a == b) := (beq_toListBytes a b).symm

theorem strBin_run (P : Program) (w : World) (op : BinOp) (ty : TypeId) (x y : Operand) (a b : ByteArray) (r : Value) (h : strBin op a b = some r) :
    (do eqGuard op ty x y (.string a) (.string b); binOp op ty (.string a) (.string b) : Sem Value).run P w = .ok r w := by
  simp only [Sem.run_bind, run_eqGuard_plain P w op ty x y (.string a) (.string b) (by simp) (by simp), Result.andThen_ok]
  cases op <;> simp only [strBin] at h <;> first
    | (simp only [Option.some.injEq] at h
       subst h
       simp only [binOp, Op.stringOp, beq_toList, slt]; rfl)
    | (split at h
       · rename_i hs
         simp only [Option.some.injEq] at h
         subst h
         have : ¬ ((a.size + b.size : Nat) : Int) > IntKind.i64.max := by simp [IntKind.max, IntKind.signed, IntKind.bits]; omega
         simp only [binOp, Op.stringOp, if_neg this]; rfl
       · simp at h)
    | simp at h

/-! ### Equality of what is compared part by part -/
def fieldParts (P : Program) (f : Field) (cs : List Value) : Option (List Value) :=
  match P.info? f.type with
  | some i => if f.offset + i.size ≤ cs.length then some ((cs.drop f.offset).take i.size) else none
  | none => none
mutual
def eqTy (P : Program) : Nat → TypeId → List Value → List Value → Option Bool
  | 0, _, _, _ => none
  | d + 1, t, xs, ys =>
    match P.underlying t, xs, ys with
    | some .bool, [.bool a], [.bool b] => some (a == b)
    | some (.int _), [.int k a], [.int k' b] => if k = k' then some (a == b) else none
    | some .string, [.string a], [.string b] => some (a == b)
    | some (.struct fs), xs, ys => if P.stoodInHeld t then none else eqFs P d fs.toList xs ys
    | _, _, _ => none
def eqFs (P : Program) : Nat → List Field → List Value → List Value → Option Bool
  | 0, _, _, _ => none
  | _, [], _, _ => some true
  | d + 1, f :: fs, xs, ys =>
    if f.name = "_" then none else
    match fieldParts P f xs, fieldParts P f ys with
    | some a, some b => match eqTy P d f.type a b, eqFs P d fs xs ys with
      | some p, some q => some (p && q)
      | _, _ => none
    | _, _ => none
end
end Go.Vm
namespace Go.Vm

def aggT (P : Program) (t : TypeId) : Option Bool := (P.underlying t).map fun | .struct _ | .array _ _ => true | _ => false
def szT (P : Program) (t : TypeId) : Option Nat := (P.info? t).map (·.size)
def bytesT (P : Program) (t : TypeId) : Option Nat := (P.info? t).map (·.bytes)
def elemT (P : Program) (t : TypeId) : Option TypeId := match P.underlying t with | some (.slice e) => some e | _ => none
/-- A field: its place, its type. -/
def fldT (P : Program) (t : TypeId) (i : Nat) : Option (Nat × TypeId) := match P.underlying t with | some (.struct fs) => (fs[i]?).map fun f => (f.offset, f.type) | _ => none

section
variable {P : Program} {w : World}
theorem r_typeInfo {t : TypeId} {i : TypeInfo} (h : P.info? t = some i) : (typeInfo t).run P w = .ok i w := by simp [typeInfo, h]
theorem r_sizeOf {t : TypeId} {n : Nat} (h : szT P t = some n) : (sizeOf t).run P w = .ok n w := by
  obtain ⟨i, hi, rfl⟩ := Option.map_eq_some_iff.1 h
  simp [sizeOf, r_typeInfo hi]
theorem r_underlying {t : TypeId} {d : TypeDesc} (h : P.underlying t = some d) : (underlying t).run P w = .ok d w := by simp [underlying, h]
theorem r_isAgg {t : TypeId} {b : Bool} (h : aggT P t = some b) : (isAgg t).run P w = .ok b w := by
  obtain ⟨d, hd, rfl⟩ := Option.map_eq_some_iff.1 h
  simp only [isAgg, Sem.run_bind, r_underlying hd, Result.andThen_ok]
  cases d <;> rfl

theorem r_part {t : TypeId} {b : Bool} {n : Nat} (hb : aggT P t = some b) (hn : szT P t = some n) (cs : Array Value) (off : Nat) (v : Value)
    (h : (if b then (if off + n ≤ cs.size then some (.agg (cs.extract off (off + n))) else none) else cs[off]?) = some v) : (part t cs off).run P w = .ok v w := by
  simp only [part, Sem.run_bind, r_isAgg hb, Result.andThen_ok]
  cases b with
  | true =>
    simp only [if_true] at h ⊢
    split at h
    · simp only [Option.some.injEq] at h
      subst h
      simp [r_sizeOf hn]
    · simp at h
  | false =>
    simp only [Bool.false_eq_true, if_false] at h ⊢
    rw [h]
    rfl

/-- A value out of its cells. -/
def ofCells (P : Program) (t : TypeId) (cs : List Value) : Option Value :=
  match aggT P t, cs with
  | some true, cs => some (.agg cs.toArray)
  | some false, [v] => some v
  | _, _ => none

theorem r_part_cells {f : Field} {xs : Array Value} {a : List Value} (h : fieldParts P f xs.toList = some a) {v : Value} (hv : ofCells P f.type a = some v) :
    (part f.type xs f.offset).run P w = .ok v w := by
  unfold fieldParts at h
  split at h
  · rename_i i hi
    split at h
    · rename_i hle
      simp only [Option.some.injEq] at h
      have hn : szT P f.type = some i.size := by simp [szT, hi]
      unfold ofCells at hv
      split at hv
      · rename_i hb
        simp only [Option.some.injEq] at hv
        subst hv
        refine r_part hb hn _ _ _ ?_
        simp only [Array.length_toList] at hle
        simp only [if_true, hle, Option.some.injEq, Value.agg.injEq]
        apply Array.ext'
        simp [← h, Array.toList_extract, List.extract_eq_take_drop]
      · rename_i v0 hb
        simp only [Option.some.injEq] at hv
        subst hv
        refine r_part hb hn _ _ _ ?_
        simp only [Bool.false_eq_true, if_false]
        have h0 : ((xs.toList.drop f.offset).take i.size)[0]? = some v0 := by rw [h]; rfl
        rw [List.getElem?_take] at h0
        split at h0
        · simpa using h0
        · simp at h0
      · simp at hv
    · simp at h
  · simp at h

theorem eqTy_run : ∀ (d : Nat) (D : Nat), d ≤ D →
    (∀ (t : TypeId) (xs ys : List Value) (x y : Value) (b : Bool), eqTy P d t xs ys = some b → ofCells P t xs = some x → ofCells P t ys = some y → (Op.equalIn D t x y).run P w = .ok b w) ∧
    (∀ (fs : List Field) (xs ys : Array Value) (b : Bool), eqFs P d fs xs.toList ys.toList = some b → (Op.eqFields D xs ys fs).run P w = .ok b w)
  | 0, _, _ => ⟨fun t xs ys x y b h => by simp [eqTy] at h, fun fs xs ys b h => by simp [eqFs] at h⟩
  | d + 1, D, hD => by
    obtain ⟨D, rfl⟩ : ∃ k, D = k + 1 := ⟨D - 1, by omega⟩
    have ih := eqTy_run d D (by omega)
    have ih' := eqTy_run d (D + 1) (by omega)
    refine ⟨fun t xs ys x y b h hx hy => ?_, fun fs xs ys b h => ?_⟩
    · unfold eqTy at h
      split at h
      · rename_i hu
        simp only [ofCells, aggT, hu, Option.map_some, Option.some.injEq] at hx hy h
        subst hx hy h
        simp [Op.equalIn, r_underlying hu]
      · rename_i hu
        simp only [ofCells, aggT, hu, Option.map_some, Option.some.injEq] at hx hy
        subst hx hy
        split at h
        · rename_i hk
          simp only [Option.some.injEq] at h
          subst h hk
          simp [Op.equalIn, r_underlying hu]
        · simp at h
      · rename_i hu
        simp only [ofCells, aggT, hu, Option.map_some, Option.some.injEq] at hx hy h
        subst hx hy h
        simp [Op.equalIn, r_underlying hu]
      · rename_i fs hu
        split at h
        · simp at h
        · rename_i hp
          simp only [ofCells, aggT, hu, Option.map_some, Option.some.injEq] at hx hy
          subst hx hy
          have hf : P.fieldsOf t = fs := by simp [Program.fieldsOf, hu]
          rw [run_equalIn_struct w D t _ _ (by rw [hf]; exact hu) (by simpa using hp), hf]
          exact ih.2 _ _ _ _ (by simpa using h)
      · simp at h
    · cases fs with
      | nil => simp [eqFs] at h; subst h; simp [Op.eqFields]
      | cons f fs =>
        unfold eqFs at h
        split at h
        · simp at h
        · rename_i hname
          split at h
          · rename_i a c ha hc
            split at h
            · rename_i p q hp hq
              simp only [Option.some.injEq] at h
              subst h
              have hx : ∃ x y, ofCells P f.type a = some x ∧ ofCells P f.type c = some y := by
                cases d with
                | zero => simp [eqTy] at hp
                | succ d =>
                  unfold eqTy at hp
                  split at hp
                  · rename_i hu; simp [ofCells, aggT, hu]
                  · rename_i hu; simp [ofCells, aggT, hu]
                  · rename_i hu; simp [ofCells, aggT, hu]
                  · rename_i hu; simp [ofCells, aggT, hu]
                  · simp at hp
              obtain ⟨x, y, hx, hy⟩ := hx
              simp only [Op.eqFields, ne_eq, hname, not_false_eq_true, if_true, Sem.run_bind, r_part_cells ha hx, r_part_cells hc hy, Result.andThen_ok, ih'.1 _ _ _ _ _ _ hp hx hy]
              cases p with
              | false => simp
              | true => simpa using ih'.2 fs xs ys q hq
            · simp at h
          · simp at h
end

/-- A value's cells, where they are all known. -/
def valCells (u : V) : Option (List Value) := u.cells.mapM cOf

theorem mapM_some {α β : Type} {f : α → Option β} : ∀ {l : List α} {r : List β}, l.mapM f = some r → r.length = l.length ∧ ∀ (j : Nat) (a : α) (b : β), l[j]? = some a → r[j]? = some b → f a = some b
  | [], r, h => by simp at h; subst h; simp
  | a :: l, r, h => by
    simp only [List.mapM_cons, Option.pure_def, Option.bind_eq_bind, Option.bind_eq_some_iff, Option.some.injEq] at h
    obtain ⟨b, hb, bs, hbs, rfl⟩ := h
    obtain ⟨h1, h2⟩ := mapM_some hbs
    refine ⟨by simp [h1], fun j x y e1 e2 => ?_⟩
    cases j with
    | zero => simp at e1 e2; subst e1 e2; exact hb
    | succ j => exact h2 j x y (by simpa using e1) (by simpa using e2)

theorem valCells_rep {F : Nat → Prop} {w : World} {β : Nat → Option Nat} {H : Heap} {v : Value} {u : V} {cs : List Value} (h : RepV F w β H v u) (hc : valCells u = some cs)
    (hu : u ≠ .undef) (ht : tupOf u = none) : v.cells.toList = cs := by
  obtain ⟨h1, _, h3⟩ := rep_cells h hu ht
  obtain ⟨g1, g2⟩ := mapM_some hc
  apply List.ext_getElem?
  intro j
  by_cases hj : j < v.cells.size
  · have e1 : v.cells[j]? = some v.cells[j] := Array.getElem?_eq_getElem hj
    have hj2 : j < u.cells.length := by omega
    have e2 : u.cells[j]? = some u.cells[j] := List.getElem?_eq_getElem hj2
    have hj3 : j < cs.length := by omega
    have e3 : cs[j]? = some cs[j] := List.getElem?_eq_getElem hj3
    have := rep_c (h3 j _ _ e1 e2) (g2 j _ _ e2 e3)
    rw [e3]
    simp only [Array.getElem?_toList, e1, this]
  · have hj3 : ¬ j < cs.length := by omega
    rw [List.getElem?_eq_none (by simpa using hj), List.getElem?_eq_none (by omega)]

/-- Is a value surely an address? -/
def isAddr : V → Bool
  | .ref _ _ | .t (.ptr _ _) => true
  | _ => false
theorem isAddr_rep {F : Nat → Prop} {w : World} {β : Nat → Option Nat} {H : Heap} {v : Value} {u : V} (h : RepV F w β H v u) (hu : isAddr u = true) : ∃ a, v = .pointer (some a) := by
  cases h with
  | t v t h => cases h <;> first | exact ⟨_, rfl⟩ | simp [isAddr] at hu
  | ref => exact ⟨_, rfl⟩
  | _ => simp [isAddr] at hu

/-- 'x == y' of what is no number and no string. -/
def vEq (P : Program) (ty : TypeId) (x y : V) : Option Bool :=
  match P.underlying ty with
  | some .bool => match cOf x, cOf y with | some (.bool a), some (.bool b) => some (a == b) | _, _ => none
  | some (.struct _) => match aggOf x, aggOf y, valCells x, valCells y with
    | some _, some _, some a, some b => if P.eqGuardType P.depth ty then none else eqTy P 20 ty a b
    | _, _, _, _ => none
  | some (.pointer _) => match cOf x, cOf y with
    | some (.pointer none), some (.pointer none) => some true
    | some (.pointer none), _ => if isAddr y then some false else none
    | _, some (.pointer none) => if isAddr x then some false else none
    | _, _ => none
  | _ => none

def vBin (P : Program) (op : BinOp) (ty : TypeId) (x y : V) : Option V :=
  match cOf x, cOf y with
  | some (.int k a), some (.int k' b) => (intBin op k a k' b).map vc
  | some (.string a), some (.string b) => (strBin op a b).map vc
  | _, _ => match op with
    | .eql => (vEq P ty x y).map vb
    | .neq => (vEq P ty x y).map fun b => vb (!b)
    | _ => none

theorem run_equal_nil {P : Program} {w : World} {t e : TypeId} (hu : P.underlying t = some (.pointer e)) (p q : Option Addr) (hpq : p = none ∨ q = none) :
    (Op.equal t (.pointer p) (.pointer q)).run P w = .ok (p.isNone && q.isNone) w := by
  have key : ∀ d, (Op.equalIn (d + 1) t (.pointer p) (.pointer q)).run P w = .ok (p.isNone && q.isNone) w := by
    intro d
    simp only [Op.equalIn, Sem.run_bind, r_underlying hu, Result.andThen_ok]
    cases p <;> cases q <;> simp at hpq ⊢
  exact key 9999

theorem vEq_run {P : Program} {F : Nat → Prop} {w : World} {β : Nat → Option Nat} {H : Heap} {ty : TypeId} {x y : V} {b : Bool} (h : vEq P ty x y = some b) (op : BinOp) (o1 o2 : Operand)
    {cx cy : Value} (hx : RepV F w β H cx x) (hy : RepV F w β H cy y) :
    (eqGuard op ty o1 o2 cx cy).run P w = .ok () w ∧ (Op.equal ty cx cy).run P w = .ok b w ∧ (∀ k n, cx ≠ .int k n) ∧ (∀ s, cx ≠ .string s) ∧ (∀ k n, cx ≠ .float k n) ∧ (∀ k m n, cx ≠ .complex k m n) := by
  unfold vEq at h
  split at h
  · rename_i hu
    split at h
    · rename_i a c ha hc
      obtain rfl := rep_c hx ha
      obtain rfl := rep_c hy hc
      simp only [Option.some.injEq] at h
      subst h
      exact ⟨run_eqGuard_plain _ _ _ _ _ _ _ _ (by simp) (by simp), run_equal_bool w ty _ _ hu, by simp, by simp, by simp, by simp⟩
    · simp at h
  · rename_i fs hu
    split at h
    · rename_i a' b' ca cb hax hay ha hb
      split at h
      · simp at h
      · rename_i hg
        obtain ⟨vs, rfl, _⟩ := rep_agg hx hax
        obtain ⟨us, rfl, _⟩ := rep_agg hy hay
        have nx : x ≠ .undef := by rintro rfl; simp [aggOf] at hax
        have ny : y ≠ .undef := by rintro rfl; simp [aggOf] at hay
        have tx : tupOf x = none := by
          cases x with
          | t t => cases t <;> simp_all [tupOf, aggOf]
          | _ => simp_all [tupOf, aggOf]
        have tyy : tupOf y = none := by
          cases y with
          | t t => cases t <;> simp_all [tupOf, aggOf]
          | _ => simp_all [tupOf, aggOf]
        have e1 := valCells_rep hx ha nx tx
        have e2 := valCells_rep hy hb ny tyy
        simp only [Value.cells] at e1 e2
        refine ⟨run_eqGuard_agg w op ty o1 o2 vs us (by simpa using hg), ?_, by simp, by simp, by simp, by simp⟩
        refine (eqTy_run (w := w) 20 10000 (by omega)).1 ty ca cb _ _ b h ?_ ?_ <;> simp [ofCells, aggT, hu, ← e1, ← e2]
    · simp at h
  · rename_i e hu
    have fin : ∀ (p q : Option Addr), (p = none ∨ q = none) → b = (p.isNone && q.isNone) → cx = .pointer p → cy = .pointer q →
        (eqGuard op ty o1 o2 cx cy).run P w = .ok () w ∧ (Op.equal ty cx cy).run P w = .ok b w ∧ (∀ k n, cx ≠ .int k n) ∧ (∀ s, cx ≠ .string s) ∧ (∀ k n, cx ≠ .float k n) ∧ (∀ k m n, cx ≠ .complex k m n) := by
      rintro p q hpq rfl rfl rfl
      exact ⟨run_eqGuard_plain _ _ _ _ _ _ _ _ (by simp) (by simp), run_equal_nil hu p q hpq, by simp, by simp, by simp, by simp⟩
    split at h
    · rename_i ha hc
      exact fin none none (.inl rfl) (by simpa using h.symm) (rep_c hx ha) (rep_c hy hc)
    · rename_i ha _
      split at h
      · rename_i hq
        obtain ⟨a, rfl⟩ := isAddr_rep hy hq
        exact fin none (some a) (.inl rfl) (by simpa using h.symm) (rep_c hx ha) rfl
      · simp at h
    · rename_i hc _
      split at h
      · rename_i hq
        obtain ⟨a, rfl⟩ := isAddr_rep hx hq
        exact fin (some a) none (.inr rfl) (by simpa using h.symm) rfl (rep_c hy hc)
      · simp at h
    · simp at h
  · simp at h

theorem run_eql_other (P : Program) (w : World) (ty : TypeId) (x y : Value) (b : Bool) (h : (Op.equal ty x y).run P w = .ok b w) (hi : ∀ k n, x ≠ .int k n) (hs : ∀ s, x ≠ .string s)
    (hf : ∀ k n, x ≠ .float k n) (hc : ∀ k m n, x ≠ .complex k m n) :
    (binOp .eql ty x y).run P w = .ok (.bool b) w ∧ (binOp .neq ty x y).run P w = .ok (.bool (!b)) w := by
  cases x <;> first
    | (exact absurd rfl (hi _ _))
    | (exact absurd rfl (hs _))
    | (exact absurd rfl (hf _ _))
    | (exact absurd rfl (hc _ _ _))
    | (refine ⟨?_, ?_⟩ <;> simp [binOp, h])

theorem vBin_run {P : Program} {F : Nat → Prop} {w : World} {β : Nat → Option Nat} {H : Heap} {op : BinOp} {ty : TypeId} {x y u : V} (h : vBin P op ty x y = some u) (o1 o2 : Operand)
    {cx cy : Value} (hx : RepV F w β H cx x) (hy : RepV F w β H cy y) :
    ∃ v, (do eqGuard op ty o1 o2 cx cy; binOp op ty cx cy : Sem Value).run P w = .ok v w ∧ RepV F w β H v u := by
  unfold vBin at h
  split at h
  · rename_i ha hc
    obtain rfl := rep_c hx ha
    obtain rfl := rep_c hy hc
    obtain ⟨r, hr, rfl⟩ := Option.map_eq_some_iff.1 h
    refine ⟨r, intBin_run P w op ty o1 o2 _ _ _ _ r hr, .t _ _ (.c _ ?_)⟩
    cases op <;> simp only [intBin] at hr <;> (repeat' split at hr) <;> simp at hr <;> subst hr <;> rfl
  · rename_i ha hc
    obtain rfl := rep_c hx ha
    obtain rfl := rep_c hy hc
    obtain ⟨r, hr, rfl⟩ := Option.map_eq_some_iff.1 h
    refine ⟨r, strBin_run P w op ty o1 o2 _ _ r hr, .t _ _ (.c _ ?_)⟩
    cases op <;> simp only [strBin] at hr <;> (repeat' split at hr) <;> simp at hr <;> subst hr <;> rfl
  · split at h
    · obtain ⟨b, hb, rfl⟩ := Option.map_eq_some_iff.1 h
      obtain ⟨h1, h2, h3, h4, h5, h6⟩ := vEq_run hb .eql o1 o2 hx hy
      exact ⟨_, by simp only [Sem.run_bind, h1, Result.andThen_ok]; exact (run_eql_other P w ty cx cy b h2 h3 h4 h5 h6).1, .t _ _ (.c _ rfl)⟩
    · obtain ⟨b, hb, rfl⟩ := Option.map_eq_some_iff.1 h
      obtain ⟨h1, h2, h3, h4, h5, h6⟩ := vEq_run hb .neq o1 o2 hx hy
      exact ⟨_, by simp only [Sem.run_bind, h1, Result.andThen_ok]; exact (run_eql_other P w ty cx cy b h2 h3 h4 h5 h6).2, .t _ _ (.c _ rfl)⟩
    · simp at h
end Go.Vm
namespace Go.Vm

/-- What an operation does to the heap, and what it hands on. -/
def Good (P : Program) (x : Cx) (w : World) (β : Nat → Option Nat) (H : Heap) (s : Sem Next) (u : V) (H' : Heap) : Prop :=
  ∃ w' β' v, (s.run P w = .ok (.value v) w' ∨ (s.run P w = .ok .skip w' ∧ v = undef)) ∧ Step x w β H w' β' H' ∧ Rep x w' β' H' v u

theorem Good.same {P : Program} {x : Cx} {w : World} {β : Nat → Option Nat} {H : Heap} (h : HRel x w β H) {s : Sem Value} {u : V} {v : Value} (hs : s.run P w = .ok v w) (hv : Rep x w β H v u) :
    Good P x w β H (do pure (.value (← s))) u H :=
  ⟨w, β, v, .inl (by simp [hs]), .refl h, hv⟩

theorem addr_add (b o n : Nat) : (⟨b, o, none⟩ : Addr).add n = ⟨b, o + n, none⟩ := by
  unfold Addr.add
  split
  · simp_all
  · rfl

/-! ### Parts of a value -/
def getP (ag : Bool) (n c : Nat) (e : V) : Option V :=
  if ag then match aggOf e with
    | some cs => if c = 0 ∧ cs.length = n then some e else if c + n ≤ cs.length then some (mkAgg ((cs.drop c).take n)) else none
    | none => none
  else e.cells[c]?

/-- Memory at a place, cell by cell. -/
def Holds (F : Nat → Prop) (w : World) (β : Nat → Option Nat) (H : Heap) (b o : Nat) (e : V) : Prop :=
  ∀ j u, e.cells[j]? = some u → ∃ v, w.cell? ⟨b, o + j, none⟩ = some v ∧ one v = true ∧ RepV F w β H v u

section
variable {P : Program} {F : Nat → Prop} {w : World} {β : Nat → Option Nat} {H : Heap}

theorem aggOf_cells {e : V} {cs : List V} (h : aggOf e = some cs) : e.cells = cs := by
  cases e with
  | t t => cases t <;> simp_all [aggOf, V.cells, T.cells]
  | agg _ => simpa [aggOf, V.cells] using h
  | _ => simp [aggOf] at h

/-- A value, read cell by cell. -/
theorem rep_whole {e : V} {cs : List V} (ha : aggOf e = some cs) {vs : Array Value} (hl : vs.size = cs.length) (ho : ∀ (j : Nat) (v : Value), vs[j]? = some v → one v = true)
    (hr : ∀ (j : Nat) (v : Value) (c : V), vs[j]? = some v → cs[j]? = some c → RepV F w β H v c) : RepV F w β H (.agg vs) e := by
  cases e with
  | t t =>
    cases t with
    | agg ts =>
      simp only [aggOf, Option.some.injEq] at ha
      subst ha
      exact .t _ _ (.agg vs ts (by simpa using hl) ho fun j v t h1 h2 => rep_t (hr j v (.t t) h1 (by simp [h2])))
    | _ => simp [aggOf] at ha
  | agg cs' =>
    simp only [aggOf, Option.some.injEq] at ha
    subst ha
    exact .agg vs cs' hl ho hr
  | _ => simp [aggOf] at ha

theorem getP_run {b o c n : Nat} {e u : V} {ag : Bool} {ty : TypeId} (hm : Holds F w β H b o e) (hg : getP ag n c e = some u) (ha : aggT P ty = some ag) (hn : szT P ty = some n) :
    ∃ v, (loadVar ty ⟨b, o + c, none⟩).run P w = .ok v w ∧ RepV F w β H v u := by
  cases ag with
  | false =>
    simp only [getP, Bool.false_eq_true, if_false] at hg
    obtain ⟨v, h1, _, h3⟩ := hm c u hg
    exact ⟨v, by simp [loadVar, r_isAgg ha, h1], h3⟩
  | true =>
    simp only [getP, if_true] at hg
    split at hg
    · rename_i cs hcs
      have hc := aggOf_cells hcs
      have key : ∀ k, c + k ≤ cs.length → ∃ vs : Array Value, (loadCells ⟨b, o + c, none⟩ k).run P w = .ok vs w ∧ vs.size = k ∧
          ∀ j v, vs[j]? = some v → one v = true ∧ ∀ y, cs[c + j]? = some y → RepV F w β H v y := by
        intro k hk
        have hv : ∀ j, j < k → ∃ v, w.cell? ⟨b, o + (c + j), none⟩ = some v ∧ one v = true ∧ ∀ y, cs[c + j]? = some y → RepV F w β H v y := by
          intro j hj
          have e1 : e.cells[c + j]? = some (cs[c + j]'(by omega)) := by rw [hc]; exact List.getElem?_eq_getElem (by omega)
          obtain ⟨v, h1, h2, h3⟩ := hm (c + j) _ e1
          refine ⟨v, h1, h2, fun y hy => ?_⟩
          rw [← hc, e1] at hy
          obtain rfl := by simpa using hy
          exact h3
        let f : Nat → Value := fun j => (w.cell? ⟨b, o + (c + j), none⟩).getD undef
        refine ⟨((List.range k).map f).toArray, run_loadCells w _ k f fun j hj => ?_, by simp, fun j v hj => ?_⟩
        · obtain ⟨v, h1, _⟩ := hv j hj
          rw [addr_add, Nat.add_assoc]
          simp [f, h1]
        · have hjk : j < k := by
            have := (Array.getElem?_eq_some_iff.1 hj).1
            simpa using this
          simp only [List.getElem?_toArray, List.getElem?_map, List.getElem?_range hjk, Option.map_some, Option.some.injEq] at hj
          subst hj
          obtain ⟨v, h1, h2, h3⟩ := hv j hjk
          simp only [f, h1, Option.getD_some]
          exact ⟨h2, h3⟩
      have run : ∀ k, szT P ty = some k → c + k ≤ cs.length → ∃ vs : Array Value, (loadVar ty ⟨b, o + c, none⟩).run P w = .ok (.agg vs) w ∧ vs.size = k ∧
          ∀ j v, vs[j]? = some v → one v = true ∧ ∀ y, cs[c + j]? = some y → RepV F w β H v y := by
        intro k hk hle
        obtain ⟨vs, h1, h2, h3⟩ := key k hle
        exact ⟨vs, by simp [loadVar, r_isAgg ha, r_sizeOf hk, h1], h2, h3⟩
      split at hg
      · rename_i hcn
        obtain ⟨rfl, hcn⟩ := hcn
        simp only [Option.some.injEq] at hg
        subst hg
        obtain ⟨vs, h1, h2, h3⟩ := run n hn (by omega)
        refine ⟨.agg vs, h1, rep_whole hcs (by omega) (fun j v hj => (h3 j v hj).1) fun j v y hj hy => (h3 j v hj).2 y (by simpa using hy)⟩
      · split at hg
        · rename_i hle
          simp only [Option.some.injEq] at hg
          subst hg
          obtain ⟨vs, h1, h2, h3⟩ := run n hn hle
          refine ⟨.agg vs, h1, rep_mkAgg (by simp; omega) (fun j v hj => (h3 j v hj).1) fun j v y hj hy => (h3 j v hj).2 y ?_⟩
          rw [List.getElem?_take] at hy
          split at hy
          · simpa using hy
          · simp at hy
        · simp at hg
    · simp at hg
end

/-! ### Places -/
def placeV (H : Heap) : V → Option (V × Nat)
  | .ref a c => match hget H a with | some (.var _ e) => some (e, c) | _ => none
  | .elt a i c m => match hget H a with
    | some (.arr _ _ es) => if m = es.length then (es[i]?).map (·, c) else none
    | _ => none
  | .t (.ptr e c) => some (.t e, c)
  | _ => none

theorem heap_cell {w : World} {b o : Nat} {xs : Array Value} {ty : TypeId} {fr : Nat × Nat} (h : w.heap[b]? = some (.cells xs ty fr)) : w.cell? ⟨b, o, none⟩ = xs[o]? := by
  simp [World.cell?, h]

theorem place_rep {x : Cx} {w : World} {β : Nat → Option Nat} {H : Heap} (hH : HRel x w β H) {v : Value} {p e : V} {c : Nat} (hv : Rep x w β H v p) (hp : placeV H p = some (e, c)) :
    ∃ b o, v = .pointer (some ⟨b, o + c, none⟩) ∧ Holds (imm x w β H) w β H b o e := by
  cases hv with
  | ref a c' cb e' tyb hHe hb =>
    simp only [placeV, hHe, Option.some.injEq, Prod.mk.injEq] at hp
    obtain ⟨rfl, rfl⟩ := hp
    refine ⟨cb, 0, by simp, ?_⟩
    have hB := hH.blk a _ hHe
    cases hB with
    | var ty _ cb' xs fr h1 h2 hf hl ho hr =>
      rw [hb] at h1
      obtain rfl : cb = cb' := by simpa using h1
      intro j u hu
      have hj : j < xs.size := by rw [hl]; exact (List.getElem?_eq_some_iff.1 hu).1
      have hx : xs[j]? = some xs[j] := Array.getElem?_eq_getElem hj
      exact ⟨xs[j], by rw [Nat.zero_add, heap_cell h2, hx], ho j _ hx, hr j _ u hx hu⟩
  | elt v a i c' m tyb sz es hHe hn ho hv' =>
    simp only [placeV, hHe] at hp
    split at hp
    · rename_i hm
      obtain ⟨e', he, hec⟩ := Option.map_eq_some_iff.1 hp
      simp only [Prod.mk.injEq] at hec
      obtain ⟨rfl, rfl⟩ := hec
      obtain ⟨cb, hb, rfl⟩ := hv' hm
      refine ⟨cb, i * sz, rfl, ?_⟩
      have hB := hH.blk a _ hHe
      have hi : i < es.length := (List.getElem?_eq_some_iff.1 he).1
      cases hB with
      | arr0 => simp at hi
      | arr ty _ _ cb' xs fr hz h1 h2 hf hs hl hon hr =>
        rw [hb] at h1
        obtain rfl : cb = cb' := by simpa using h1
        intro j u hu
        have hw := hs e' (List.mem_of_getElem? he)
        have hj : j < sz := by rw [← hw]; exact (List.getElem?_eq_some_iff.1 hu).1
        have hlt : i * sz + j < xs.size := by
          have : (i + 1) * sz ≤ es.length * sz := Nat.mul_le_mul_right sz hi
          rw [Nat.succ_mul] at this
          omega
        have hx : xs[i * sz + j]? = some xs[i * sz + j] := Array.getElem?_eq_getElem hlt
        exact ⟨_, by rw [heap_cell h2, hx], hon _ _ hx, hr i e' j _ u he hu hx⟩
    · simp at hp
  | t v t h =>
    cases h with
    | ptr b o e' c' g hm ho hr =>
      simp only [placeV, Option.some.injEq, Prod.mk.injEq] at hp
      obtain ⟨rfl, rfl⟩ := hp
      refine ⟨b, o, rfl, fun j u hu => ?_⟩
      simp only [V.cells, List.getElem?_map, Option.map_eq_some_iff] at hu
      obtain ⟨t, ht, rfl⟩ := hu
      exact ⟨g j, (hm j t ht).2, ho j t ht, .t _ _ (hr j t ht)⟩
    | _ => simp [placeV] at hp
  | _ => simp [placeV] at hp

def vLoad (P : Program) (H : Heap) (ty : TypeId) (p : V) : Option V :=
  match placeV H p, aggT P ty, szT P ty with
  | some (e, c), some ag, some n => getP ag n c e
  | _, _, _ => none

theorem vLoad_good {P : Program} {x : Cx} {w : World} {β : Nat → Option Nat} {H : Heap} (hH : HRel x w β H) {ty : TypeId} {v : Value} {p u : V} (hv : Rep x w β H v p) (h : vLoad P H ty p = some u) :
    Good P x w β H (do pure (.value (← Instr.loadAt ty v))) u H := by
  unfold vLoad at h
  split at h
  · rename_i e c ag n hp ha hn
    obtain ⟨b, o, rfl, hm⟩ := place_rep hH hv hp
    obtain ⟨v', h1, h2⟩ := getP_run hm h ha hn
    exact .same hH (by simp [Instr.loadAt, Instr.sureAddr, h1]) h2
  · simp at h

/-! ### New variables -/
def vAlloc (P : Program) (d : Nat) (H : Heap) (ty : TypeId) : Option (V × Heap) :=
  match (P.info? ty).bind (·.zero), hget H d with
  | some z, none => if z.cells.all (·.oneCell') && okAgg z && (ofV z).cells.length = z.cells.size then some (.ref d 0, (d, .var ty (ofV z)) :: H) else none
  | _, _ => none
def plainV (u : V) : Bool := match u with | .undef | .tup _ | .t (.tup _) => false | _ => true
def vBox (d : Nat) (H : Heap) (ty : TypeId) (u : V) : Option (V × Heap) :=
  match hget H d with
  | none => if plainV u then some (.ref d 0, (d, .var ty u) :: H) else none
  | _ => none

theorem plainV_spec {u : V} (h : plainV u = true) : u ≠ .undef ∧ tupOf u = none := by
  constructor
  · rintro rfl; simp [plainV] at h
  · cases u with
    | t t => cases t <;> simp_all [plainV, tupOf]
    | _ => simp_all [plainV, tupOf]

theorem newVar_good {P : Program} {x : Cx} {w : World} {β : Nat → Option Nat} {H : Heap} (hH : HRel x w β H) {d : Nat} (hd : hget H d = none) {ty : TypeId} {v : Value} {u : V} (hu : plainV u = true)
    (hv : Rep x w β H v u) (s : Sem Next) (hs : s.run P w = .ok (.value (.pointer (some ⟨w.heap.size, 0, none⟩))) (w.alloc (.cells v.cells ty))) :
    Good P x w β H s (.ref d 0) ((d, .var ty u) :: H) := by
  obtain ⟨h1, h2⟩ := plainV_spec hu
  obtain ⟨g1, g2, g3⟩ := rep_cells hv h1 h2
  have S : Step x w β H (w.alloc (.cells v.cells ty)) (upd β d (some w.heap.size)) ((d, .var ty u) :: H) := by
    refine Step.alloc hH d hd _ _ fun tr => ?_
    exact .var ty u w.heap.size v.cells (0, 0) (upd_same _ _ _) (alloc_new _ _) (Nat.le_refl _) g1 g2 fun j y c e1 e2 => tr _ _ (g3 j y c e1 e2)
  exact ⟨_, _, _, .inl hs, S, .ref d 0 w.heap.size u _ hget_new (upd_same _ _ _)⟩

theorem vAlloc_good {P : Program} {x : Cx} {w : World} {β : Nat → Option Nat} {H H' : Heap} (hH : HRel x w β H) {d : Nat} {ty : TypeId} {u : V} (h : vAlloc P d H ty = some (u, H')) :
    Good P x w β H (do pure (.value (← Instr.alloc ty true (.tuple #[])))) u H' := by
  unfold vAlloc at h
  split at h
  · rename_i z hz hd
    split at h
    · rename_i hc
      simp only [Bool.and_eq_true, decide_eq_true_eq] at hc
      obtain ⟨⟨hc1, hc2⟩, hc3⟩ := hc
      simp only [Option.some.injEq, Prod.mk.injEq] at h
      obtain ⟨rfl, rfl⟩ := h
      obtain ⟨i, hi, hiz⟩ := Option.bind_eq_some_iff.1 hz
      have hv : Rep x w β H z (ofV z) := rep_ofV z hc2
      have S : Step x w β H (w.alloc (.cells z.cells ty)) (upd β d (some w.heap.size)) ((d, .var ty (ofV z)) :: H) := by
        refine Step.alloc hH d hd _ _ fun tr => ?_
        refine .var ty _ w.heap.size z.cells (0, 0) (upd_same _ _ _) (alloc_new _ _) (Nat.le_refl _) hc3.symm
          (fun j v hj => (Array.all_eq_true_iff_forall_mem.1 hc1) v (Array.mem_of_getElem? hj)) fun j y c e1 e2 => tr _ _ ?_
        cases z with
        | agg cs =>
          simp only [Value.cells] at e1
          have : (ofV (.agg cs)).cells = cs.toList.map ofC := by
            simp only [ofV, mkAgg]
            cases ht : allT (cs.toList.map ofC) with
            | none => rfl
            | some ts => exact (allT_rep ht).symm
          rw [this] at e2
          simp only [List.getElem?_map, Array.getElem?_toList, e1, Option.map_some, Option.some.injEq] at e2
          subst e2
          exact rep_ofC y
        | _ =>
          simp only [Value.cells] at e1
          cases j with
          | zero =>
            simp at e1
            subst e1
            have hlen : (ofV _).cells.length = 1 := hc3
            have hp : ∀ q : V, q.cells.length = 1 → aggOf q = none → q.cells = [q] := by
              intro q _ hq
              cases q with
              | t t => cases t <;> simp_all [aggOf, V.cells, T.cells]
              | agg _ => simp [aggOf] at hq
              | _ => rfl
            rw [hp _ hlen (by simp only [ofV, ofC]; (repeat' split) <;> rfl)] at e2
            simp at e2
            subst e2
            exact hv
          | succ j => simp at e1
      refine ⟨_, _, _, .inl ?_, S, .ref d 0 w.heap.size _ _ hget_new (upd_same _ _ _)⟩
      simp [Instr.alloc, zeroValue, r_typeInfo hi, hiz, newVar, newRow]
    · simp at h
  · simp at h

theorem vBox_good {P : Program} {x : Cx} {w : World} {β : Nat → Option Nat} {H H' : Heap} (hH : HRel x w β H) {d : Nat} {ty : TypeId} {v : Value} {u r : V} (hv : Rep x w β H v u)
    (h : vBox d H ty u = some (r, H')) : Good P x w β H (do pure (.value (← Instr.box ty v))) r H' := by
  unfold vBox at h
  split at h
  · rename_i hd
    split at h
    · rename_i hu
      simp only [Option.some.injEq, Prod.mk.injEq] at h
      obtain ⟨rfl, rfl⟩ := h
      exact newVar_good hH hd (ty := ty) hu hv _ (by simp [Instr.box, newVar, newRow])
    · simp at h
  · simp at h

/-! ### Addresses of parts -/
def vField (P : Program) (s : TypeId) (p : V) (f : Nat) : Option V :=
  match fldT P s f with
  | some (off, fty) => match szT P fty with
    | some (_ + 1) => match p with
      | .ref a c => some (.ref a (c + off))
      | .elt a i c m => some (.elt a i (c + off) m)
      | .t (.ptr e c) => some (.t (.ptr e (c + off)))
      | _ => none
    | _ => none
  | none => none

theorem vField_good {P : Program} {x : Cx} {w : World} {β : Nat → Option Nat} {H : Heap} (hH : HRel x w β H) {s : TypeId} {f : Nat} {v : Value} {p u : V} (hv : Rep x w β H v p)
    (h : vField P s p f = some u) (hq : (∃ a i c m, p = .elt a i c m) → (placeV H p).isSome = true) : Good P x w β H (do pure (.value (← Instr.fieldAt s v f))) u H := by
  unfold vField at h
  split at h
  · rename_i off fty hf
    split at h
    · rename_i k hk
      unfold fldT at hf
      split at hf
      · rename_i fs hu
        obtain ⟨fd, hfd, hof⟩ := Option.map_eq_some_iff.1 hf
        simp only [Prod.mk.injEq] at hof
        obtain ⟨rfl, rfl⟩ := hof
        have run : ∀ b o, (Instr.fieldAt s (.pointer (some ⟨b, o, none⟩)) f).run P w = .ok (.pointer (some ⟨b, o + fd.offset, none⟩)) w := by
          intro b o
          simp only [Instr.fieldAt, Sem.run_bind, r_underlying hu, Result.andThen_ok, hfd, Instr.sureAddr, Sem.run_pure, fieldPlace, r_sizeOf hk, addr_add]
          simp
        split at h
        · simp only [Option.some.injEq] at h
          subst h
          cases hv with
          | ref _ _ cb e tyb h1 h2 => exact .same hH (run cb _) (.ref _ _ cb e _ h1 h2)
        · rename_i a i c m
          simp only [Option.some.injEq] at h
          subst h
          have hsome := hq ⟨a, i, c, m, rfl⟩
          cases hv with
          | elt _ _ _ _ _ tyb sz es hHe hn ho hv' =>
            simp only [placeV, hHe] at hsome
            split at hsome
            · rename_i hm
              obtain ⟨cb, hb, rfl⟩ := hv' hm
              exact .same hH (run cb _) (.elt _ _ _ _ _ _ sz es hHe hn rfl fun _ => ⟨cb, hb, by rw [Nat.add_assoc]⟩)
            · simp at hsome
        · simp only [Option.some.injEq] at h
          subst h
          cases hv with
          | t v t h =>
            cases h with
            | ptr b o _ _ g hm ho hr => exact .same hH (run b _) (.t _ _ (by rw [Nat.add_assoc]; exact .ptr b o _ _ g hm ho hr))
        · simp at h
      · simp at hf
    · simp at h
  · simp at h
end Go.Vm
namespace Go.Vm

/-! ### A row of cells, written from a place on -/
def putAt (xs : Array Value) (k : Nat) : List Value → Array Value
  | [] => xs
  | v :: r => putAt (xs.setIfInBounds k v) (k + 1) r
theorem putAt_size (xs : Array Value) (k : Nat) (vs : List Value) : (putAt xs k vs).size = xs.size := by
  induction vs generalizing xs k with
  | nil => rfl
  | cons v r ih => simp [putAt, ih]
theorem putAt_get (xs : Array Value) (k : Nat) (vs : List Value) (j : Nat) : (putAt xs k vs)[j]? = if k ≤ j ∧ j < k + vs.length ∧ j < xs.size then vs[j - k]? else xs[j]? := by
  induction vs generalizing xs k with
  | nil =>
    rw [if_neg (by simp; omega)]
    rfl
  | cons v r ih =>
    simp only [putAt, ih, Array.size_setIfInBounds, List.length_cons]
    by_cases h1 : k + 1 ≤ j ∧ j < k + 1 + r.length ∧ j < xs.size
    · rw [if_pos h1, if_pos (by omega)]
      rw [show j - k = (j - (k + 1)) + 1 by omega, List.getElem?_cons_succ]
    · rw [if_neg h1]
      by_cases h2 : k ≤ j ∧ j < k + (r.length + 1) ∧ j < xs.size
      · have : j = k := by omega
        subst this
        rw [if_pos h2]
        simp [h2.2.2]
      · rw [if_neg h2, Array.getElem?_setIfInBounds]
        by_cases hk : k = j
        · subst hk
          have : ¬ k < xs.size := by omega
          simp [this]
        · simp [hk]

theorem setRow_self {w : World} {g : Nat} {xs : Array Value} {t : TypeId} {fr : Nat × Nat} (hg : w.heap[g]? = some (.cells xs t fr)) : w.setRow g xs = w := by
  have h : (w.setRow g xs).heap = w.heap := by
    apply Array.ext_getElem?
    intro i
    by_cases e : i = g
    · subst e
      rw [setRow_heap w i xs xs t fr hg, hg]
    · rw [setRow_other w g i xs e]
  unfold World.setRow at h ⊢
  simp only at h
  rw [h]

theorem storeCells_run {P : Program} {g o : Nat} {t : TypeId} {fr : Nat × Nat} : ∀ (vs : List Value) (i : Nat) (xs : Array Value) (w : World), fr.2 ≤ fr.1 ∨ xs.size ≤ fr.1 → w.heap[g]? = some (.cells xs t fr) →
    o + i + vs.length ≤ xs.size → (∀ v ∈ vs, one v = true) → (storeCells ⟨g, o, none⟩ vs i).run P w = .ok () (w.setRow g (putAt xs (o + i) vs))
  | [], i, xs, w, _, hg, _, _ => by
    simp only [storeCells, Sem.run_pure, putAt, setRow_self hg]
  | v :: r, i, xs, w, hf, hg, hl, h1 => by
    simp only [List.length_cons] at hl
    have hv := h1 v (by simp)
    have hc : w.cell? ⟨g, o + i, none⟩ = some (xs[o + i]'(by omega)) := by rw [heap_cell hg]; exact Array.getElem?_eq_getElem (by omega)
    have hnf : w.frozen? ⟨g, o + i, none⟩ = false := by
      simp only [World.frozen?, hg, Bool.and_eq_false_iff, decide_eq_false_iff_not]
      omega
    have hset := setCell_eq_setRow w g (o + i) xs t fr v hg
    have hg' : (w.setRow g (xs.setIfInBounds (o + i) v)).heap[g]? = some (.cells (xs.setIfInBounds (o + i) v) t fr) := setRow_heap w g xs _ t fr hg
    simp only [storeCells, Sem.run_bind, addr_add, run_store P w _ v .plain hv, hc, hnf, Bool.false_eq_true, if_false, Result.andThen_ok, hset]
    rw [storeCells_run r (i + 1) _ _ (by simpa using hf) hg' (by simp; omega) (fun u hu => h1 u (by simp [hu])), setRow_setRow]
    rfl

def setP (e : V) (c : Nat) (v : V) : Option V :=
  if c = 0 ∧ (aggOf e).isSome = (aggOf v).isSome ∧ e.cells.length = v.cells.length then some v
  else match aggOf e with
    | some cs => if c + v.cells.length ≤ cs.length then some (mkAgg (cs.take c ++ v.cells ++ cs.drop (c + v.cells.length))) else none
    | none => none

theorem setP_cells {e v e' : V} {c : Nat} (h : setP e c v = some e') (hv : plainV v = true) (_ : plainV e = true) : e'.cells.length = e.cells.length ∧ c + v.cells.length ≤ e.cells.length ∧ plainV e' = true ∧
    ∀ j, e'.cells[j]? = if c ≤ j ∧ j < c + v.cells.length then v.cells[j - c]? else e.cells[j]? := by
  unfold setP at h
  split at h
  · rename_i hc
    simp only [Option.some.injEq] at h
    subst h
    obtain ⟨rfl, h1, h2⟩ := hc
    refine ⟨h2.symm, by omega, hv, fun j => ?_⟩
    by_cases hj : j < v.cells.length
    · rw [if_pos (by omega)]; simp
    · rw [if_neg (by omega), List.getElem?_eq_none (by omega), List.getElem?_eq_none (by omega)]
  · split at h
    · rename_i cs hcs
      split at h
      · rename_i hle
        simp only [Option.some.injEq] at h
        subst h
        have hce := aggOf_cells hcs
        have hm : (mkAgg (cs.take c ++ v.cells ++ cs.drop (c + v.cells.length))).cells = cs.take c ++ v.cells ++ cs.drop (c + v.cells.length) := by
          unfold mkAgg
          cases ha : allT (cs.take c ++ v.cells ++ cs.drop (c + v.cells.length)) with
          | none => rfl
          | some ts => exact (allT_rep ha).symm
        have hlen : (cs.take c).length = c := by simp; omega
        refine ⟨?_, by rw [hce]; exact hle, ?_, fun j => ?_⟩
        · rw [hm, hce]; simp; omega
        · unfold mkAgg; split <;> rfl
        · rw [hm, hce]
          by_cases h1 : j < c
          · rw [if_neg (by omega), List.append_assoc, List.getElem?_append_left (by omega), List.getElem?_take, if_pos h1]
          · by_cases h2 : j < c + v.cells.length
            · rw [if_pos (by omega), List.append_assoc, List.getElem?_append_right (by omega), hlen, List.getElem?_append_left (by omega)]
            · rw [if_neg (by omega), List.getElem?_append_right (by simp; omega)]
              simp only [List.length_append, hlen, List.getElem?_drop]
              congr 1
              omega
      · simp at h
    · simp at h

/-- The heap behind a store. -/
def vStore (P : Program) (H : Heap) (ty : TypeId) (p v : V) : Option Heap :=
  if plainV v then
    match szT P ty with
    | some n => if v.cells.length = n then match p with
        | .ref a c => match hget H a with
          | some (.var tyb e) => if plainV e then (setP e c v).map fun e' => hset H a (.var tyb e') else none
          | _ => none
        | .elt a i c m => match hget H a with
          | some (.arr tyb sz es) => if m = es.length ∧ headU es = false then match es[i]? with
              | some e => if plainV e then (setP e c v).map fun e' => hset H a (.arr tyb sz (es.set i e')) else none
              | none => none
            else none
          | _ => none
        | _ => none
      else none
    | none => none
  else none

theorem storeVar_run {P : Program} {w : World} {ty : TypeId} {n b o : Nat} {v : Value} {xs : Array Value} {t : TypeId} {fr : Nat × Nat} (hn : szT P ty = some n) (hs : v.cells.size = n)
    (hg : w.heap[b]? = some (.cells xs t fr)) (hf : fr.2 ≤ fr.1 ∨ xs.size ≤ fr.1) (hle : o + n ≤ xs.size) (h1 : ∀ (j : Nat) (u : Value), v.cells[j]? = some u → one u = true) :
    (storeVar ty ⟨b, o, none⟩ v).run P w = .ok () (w.setRow b (putAt xs o v.cells.toList)) := by
  simp only [storeVar, Sem.run_bind, r_sizeOf hn, Result.andThen_ok, hs, ne_eq, not_true, if_false]
  refine storeCells_run _ 0 xs w hf hg (by simp [hs]; omega) fun u hu => ?_
  obtain ⟨j, hj⟩ := List.mem_iff_getElem?.1 hu
  exact h1 j u (by simpa using hj)

theorem setRow_kept {x : Cx} {w : World} {b : Nat} {ys : Array Value} (hb : x.base ≤ b ∨ ∃ a, x.own0 b a) : Kept x w (w.setRow b ys) := by
  refine ⟨rfl, rfl, rfl, by simp, fun k hk ho => setRow_other w b k ys ?_⟩
  rintro rfl
  rcases hb with hb | hb
  · omega
  · obtain ⟨a, q⟩ := hb
    exact ho a q

theorem setRow_keepsSize {w : World} {b cb : Nat} {xs ys : Array Value} {t : TypeId} {fr : Nat × Nat} (hg : w.heap[b]? = some (.cells xs t fr)) (hs : ys.size = xs.size) : keepsSize w (w.setRow b ys) cb := by
  intro cs ty f h
  by_cases e : cb = b
  · subst e
    rw [hg] at h
    simp only [Option.some.injEq, Obj.cells.injEq] at h
    obtain ⟨rfl, rfl, rfl⟩ := h
    exact ⟨ys, t, fr, setRow_heap w cb xs ys t fr hg, hs⟩
  · exact ⟨cs, ty, f, (setRow_other w b cb ys e).trans h, rfl⟩

theorem upd_id {β : Nat → Option Nat} {a : Nat} {o : Option Nat} (h : β a = o) : upd β a o = β := by
  funext k
  by_cases e : k = a
  · rw [e, upd_same, h]
  · exact upd_other _ e

theorem vStore_step {P : Program} {x : Cx} {w : World} {β : Nat → Option Nat} {H H' : Heap} (hH : HRel x w β H) {ty : TypeId} {cp cv : Value} {p v : V} (hp : Rep x w β H cp p) (hv : Rep x w β H cv v)
    (h : vStore P H ty p v = some H') : ∃ w', (Instr.storeAt ty cp cv).run P w = .ok () w' ∧ Step x w β H w' β H' := by
  unfold vStore at h
  split at h
  · rename_i hpv
    obtain ⟨hpv1, hpv2⟩ := plainV_spec hpv
    obtain ⟨hc1, hc2, hc3⟩ := rep_cells hv hpv1 hpv2
    split at h
    · rename_i n hn
      split at h
      · rename_i hlen
        split at h
        · rename_i a c
          split at h
          · rename_i tyv e hHe
            split at h
            · rename_i hpe
              obtain ⟨e', he', rfl⟩ := Option.map_eq_some_iff.1 h
              obtain ⟨q1, q2, q2', q3⟩ := setP_cells he' hpv hpe
              cases hp with
              | ref _ _ cb e0 tyb hHe0 hb =>
                have hB := hH.blk a _ hHe
                cases hB with
                | var t _ cb' xs fr h1 h2 hf hl ho hr =>
                  rw [hb] at h1
                  obtain rfl : cb = cb' := by simpa using h1
                  have hrun := storeVar_run (P := P) (o := c) hn (by omega) h2 (.inl hf) (by omega) hc2
                  refine ⟨w.setRow cb (putAt xs c cv.cells.toList), by simp [Instr.storeAt, Instr.sureAddr, hrun], ?_⟩
                  have hown := hH.own a cb (by simp [hHe]) hb
                  have S := Step.turn hH a (.var tyv e) (.var tyv e') hHe (some cb) (w' := w.setRow cb (putAt xs c cv.cells.toList)) rfl
                    (fun _ => ⟨hb.symm, fun cb2 _ => setRow_keepsSize h2 (putAt_size _ _ _)⟩) (.inl hb.symm) (fun k hk => by simp only [Option.some.injEq] at hk; subst hk; simpa using hown.1)
                    (setRow_kept (hown.2.2.imp id fun q => ⟨_, q⟩)) (fun k hk hne => setRow_other w cb k _ (by rintro rfl; exact hne hb)) (fun tr => by
                      refine .var _ e' cb (putAt xs c cv.cells.toList) fr (upd_same _ _ _) (setRow_heap w cb xs _ _ fr h2) hf (by rw [putAt_size, hl, q1]) (fun j u hj => ?_) fun j u k hj hk => ?_
                      · rw [putAt_get] at hj
                        split at hj
                        · exact hc2 _ _ (by simpa using hj)
                        · exact ho j u hj
                      · rw [putAt_get] at hj
                        rw [q3] at hk
                        simp only [Array.length_toList, hc1] at hj
                        by_cases hin : c ≤ j ∧ j < c + v.cells.length
                        · rw [if_pos ⟨hin.1, hin.2, by omega⟩] at hj
                          rw [if_pos hin] at hk
                          exact tr _ _ (hc3 _ _ _ (by simpa using hj) hk)
                        · rw [if_neg (fun q => hin ⟨q.1, q.2.1⟩)] at hj
                          rw [if_neg hin] at hk
                          exact tr _ _ (hr j u k hj hk))
                  rwa [upd_id hb] at S
            · simp at h
          · simp at h
        · rename_i a i c m
          split at h
          · rename_i tya sz es hHe
            split at h
            · rename_i hm
              obtain ⟨hm, hun⟩ := hm
              split at h
              · rename_i e hei
                split at h
                · rename_i hpe
                  obtain ⟨e', he', rfl⟩ := Option.map_eq_some_iff.1 h
                  obtain ⟨q1, q2, q2', q3⟩ := setP_cells he' hpv hpe
                  have hilt : i < es.length := (List.getElem?_eq_some_iff.1 hei).1
                  cases hp with
                  | elt _ _ _ _ _ tyb sz0 es0 hHe0 hmn hon hvv =>
                    rw [hHe] at hHe0
                    simp only [Option.some.injEq, Blk.arr.injEq] at hHe0
                    obtain ⟨rfl, rfl, rfl⟩ := hHe0
                    obtain ⟨cb, hb, rfl⟩ := hvv hm
                    have hB := hH.blk a _ hHe
                    cases hB with
                    | arr0 => simp at hilt
                    | arr t _ _ cb' xs fr hz h1 h2 hf hs hl ho hr =>
                      rw [hb] at h1
                      obtain rfl : cb = cb' := by simpa using h1
                      have hesz := hs e (List.mem_of_getElem? hei)
                      have hrow : i * sz + sz ≤ xs.size := by
                        have : (i + 1) * sz ≤ es.length * sz := Nat.mul_le_mul_right sz hilt
                        rw [Nat.succ_mul] at this
                        omega
                      have hrun := storeVar_run (P := P) (o := i * sz + c) hn (by omega) h2 (hf hun) (by omega) hc2
                      refine ⟨w.setRow cb (putAt xs (i * sz + c) cv.cells.toList), by simp [Instr.storeAt, Instr.sureAddr, hrun], ?_⟩
                      have hown := hH.own a cb (by simp [hHe]) hb
                      have S := Step.turn hH a (.arr tya sz es) (.arr tya sz (es.set i e')) hHe (some cb) (w' := w.setRow cb (putAt xs (i * sz + c) cv.cells.toList)) ⟨rfl, by simp⟩
                        (fun _ => ⟨hb.symm, fun cb2 _ => setRow_keepsSize h2 (putAt_size _ _ _)⟩) (.inl hb.symm) (fun k hk => by simp only [Option.some.injEq] at hk; subst hk; simpa using hown.1)
                        (setRow_kept (hown.2.2.imp id fun q => ⟨_, q⟩)) (fun k hk hne => setRow_other w cb k _ (by rintro rfl; exact hne hb)) (fun tr => by
                          refine .arr _ sz (es.set i e') cb (putAt xs (i * sz + c) cv.cells.toList) fr hz (upd_same _ _ _) (setRow_heap w cb xs _ _ fr h2) (fun _ => by rw [putAt_size]; exact hf hun) (fun y hy => ?_) (by rw [putAt_size]; simpa using hl)
                            (fun j u hj => ?_) fun i2 y j u k hy hk hj => ?_
                          · rcases List.mem_or_eq_of_mem_set hy with hy | rfl
                            · exact hs y hy
                            · omega
                          · rw [putAt_get] at hj
                            split at hj
                            · exact hc2 _ _ (by simpa using hj)
                            · exact ho j u hj
                          · rw [putAt_get] at hj
                            simp only [Array.length_toList, hc1] at hj
                            rw [List.getElem?_set] at hy
                            by_cases e2 : i = i2
                            · subst e2
                              rw [if_pos rfl, if_pos hilt] at hy
                              obtain rfl : e' = y := by simpa using hy
                              rw [q3] at hk
                              by_cases hin : c ≤ j ∧ j < c + v.cells.length
                              · rw [if_pos ⟨by omega, by omega, by omega⟩] at hj
                                rw [if_pos hin] at hk
                                exact tr _ _ (hc3 _ _ _ (by rw [show i * sz + j - (i * sz + c) = j - c by omega] at hj; simpa using hj) hk)
                              · rw [if_neg (fun q => hin ⟨by omega, by omega⟩)] at hj
                                rw [if_neg hin] at hk
                                exact tr _ _ (hr i e j u k hei hk hj)
                            · rw [if_neg e2] at hy
                              have hysz := hs y (List.mem_of_getElem? hy)
                              have hjlt : j < sz := by rw [← hysz]; exact (List.getElem?_eq_some_iff.1 hk).1
                              have hout : ¬ (i * sz + c ≤ i2 * sz + j ∧ i2 * sz + j < i * sz + c + v.cells.length ∧ i2 * sz + j < xs.size) := by
                                rintro ⟨r1, r2, _⟩
                                rcases Nat.lt_or_gt_of_ne e2 with hlt | hlt
                                · have : (i + 1) * sz ≤ i2 * sz := Nat.mul_le_mul_right sz hlt
                                  rw [Nat.succ_mul] at this
                                  omega
                                · have : (i2 + 1) * sz ≤ i * sz := Nat.mul_le_mul_right sz hlt
                                  rw [Nat.succ_mul] at this
                                  omega
                              rw [if_neg hout] at hj
                              exact tr _ _ (hr i2 y j u k hy hk hj))
                      rwa [upd_id hb] at S
                · simp at h
              · simp at h
            · simp at h
          · simp at h
        · simp at h
      · simp at h
    · simp at h
  · simp at h
end Go.Vm
namespace Go.Vm

def bAt (s : ByteArray) (i : Nat) : Int := ((s.data[i]?).getD 0).toNat

/-! ### The address of an element -/
def vIndexAddr (P : Program) (H : Heap) (t : TypeId) (x i : V) : Option V :=
  match intOf? i with
  | some (_, n) => if 0 ≤ n then
      match P.underlying t with
      | some (.slice et) => match szT P et with
        | some (s + 1) => match x with
          | .hdr a off len cap => match hget H a with
            | some (.arr _ sz es) => if sz = s + 1 ∧ off + cap = es.length ∧ n.toNat < len then some (.elt a (off + n.toNat) 0 es.length) else none
            | _ => none
          | .t (.sl es) => match es[n.toNat]? with
            | some e => if e.cells.length = s + 1 then some (.t (.ptr e 0)) else none
            | none => none
          | _ => none
        | _ => none
      | some (.array len et) => match szT P et with
        | some (s + 1) => if n.toNat < len then match x with
            | .ref a c => some (.ref a (c + n.toNat * (s + 1)))
            | .t (.ptr e c) => some (.t (.ptr e (c + n.toNat * (s + 1))))
            | _ => none
          else none
        | _ => none
      | _ => none
    else none
  | none => none

theorem intOf_rep {F : Nat → Prop} {w : World} {β : Nat → Option Nat} {H : Heap} {v : Value} {u : V} {k : IntKind} {n : Int} (h : RepV F w β H v u) (hi : intOf? u = some (k, n)) : v = .int k n := by
  unfold intOf? at hi
  split at hi
  · rename_i hc
    simp only [Option.some.injEq, Prod.mk.injEq] at hi
    obtain ⟨rfl, rfl⟩ := hi
    exact rep_c h hc
  · simp at hi
theorem strOf_rep {F : Nat → Prop} {w : World} {β : Nat → Option Nat} {H : Heap} {v : Value} {u : V} {s : ByteArray} (h : RepV F w β H v u) (hi : strOf u = some s) : v = .string s := by
  unfold strOf at hi
  split at hi
  · rename_i hc
    simp only [Option.some.injEq] at hi
    subst hi
    exact rep_c h hc
  · simp at hi
theorem boolOf_rep {F : Nat → Prop} {w : World} {β : Nat → Option Nat} {H : Heap} {v : Value} {u : V} {s : Bool} (h : RepV F w β H v u) (hi : boolOf u = some s) : v = .bool s := by
  unfold boolOf at hi
  split at hi
  · rename_i hc
    simp only [Option.some.injEq] at hi
    subst hi
    exact rep_c h hc
  · simp at hi

theorem vIndexAddr_good {P : Program} {x : Cx} {w : World} {β : Nat → Option Nat} {H : Heap} (hH : HRel x w β H) {t : TypeId} {cx ci : Value} {vx vi u : V} (hx : Rep x w β H cx vx) (hi : Rep x w β H ci vi)
    (h : vIndexAddr P H t vx vi = some u) : Good P x w β H (do pure (.value (← Instr.indexAt t cx ci))) u H := by
  unfold vIndexAddr at h
  split at h
  · rename_i k n hn
    obtain rfl := intOf_rep hi hn
    split at h
    · rename_i h0
      split at h
      · rename_i et hu
        split at h
        · rename_i s hs
          have run : ∀ b o len cap, n < (len : Nat) → (Instr.indexAt t (.slice (some ⟨b, o, none⟩) len cap) (.int k n)).run P w = .ok (.pointer (some ⟨b, o + n.toNat * (s + 1), none⟩)) w := by
            intro b o len cap hlt
            simp [Instr.indexAt, asIntOf, r_underlying hu, r_sizeOf hs, h0, hlt, addr_add]
          split at h
          · rename_i a off len cap
            split at h
            · rename_i sz es hHe
              split at h
              · rename_i hc
                obtain ⟨rfl, hcur, hlt⟩ := hc
                simp only [Option.some.injEq] at h
                subst h
                cases hx with
                | hdr _ _ _ _ _ tyb sz0 es0 hHe0 hle ho hv =>
                  rw [hHe] at hHe0
                  simp only [Option.some.injEq, Blk.arr.injEq] at hHe0
                  obtain ⟨rfl, rfl, rfl⟩ := hHe0
                  obtain ⟨h1, A, C, rfl, h3, h4, h5⟩ := hv hcur
                  cases hb : β a with
                  | none => have := h4 hb; omega
                  | some cb =>
                    obtain ⟨g1, _⟩ := h5 cb hb
                    obtain rfl := g1 (by omega)
                    refine .same hH (run _ _ _ _ (by omega)) (.elt _ a _ 0 _ _ _ _ hHe (Nat.le_refl _) rfl fun _ => ⟨cb, hb, ?_⟩)
                    simp [Nat.add_mul]
              · simp at h
            · simp at h
          · rename_i es
            split at h
            · rename_i e he
              split at h
              · rename_i hl
                simp only [Option.some.injEq] at h
                subst h
                cases hx with
                | t _ _ hx =>
                  cases hx with
                  | sl A len cap sz _ g hl' hc' hz hm ho hr =>
                    have hlt : n.toNat < es.length := (List.getElem?_eq_some_iff.1 he).1
                    have hsz := hz e (List.mem_of_getElem? he)
                    have e0 : e.cells[0]? = some (e.cells[0]'(by omega)) := List.getElem?_eq_getElem (by omega)
                    obtain ⟨b, o, rfl, hF, hcell⟩ := hm _ e 0 _ he e0
                    refine .same hH (run _ _ _ _ (by omega)) (.t _ _ ?_)
                    have hsz' : s + 1 = sz := by omega
                    rw [hsz']
                    refine .ptr b (o + n.toNat * sz) e 0 (g n.toNat) (fun j t hj => ?_) (fun j t hj => ho _ e j t he hj) (fun j t hj => hr _ e j t he hj)
                    obtain ⟨b', o', h1, h2, h3⟩ := hm _ e j t he hj
                    simp only [Option.some.injEq, Addr.mk.injEq, and_true] at h1
                    obtain ⟨rfl, rfl⟩ := h1
                    exact ⟨h2, h3⟩
              · simp at h
            · simp at h
          · simp at h
        · simp at h
      · rename_i len et hu
        split at h
        · rename_i s hs
          split at h
          · rename_i hlt
            have run : ∀ b o, (Instr.indexAt t (.pointer (some ⟨b, o, none⟩)) (.int k n)).run P w = .ok (.pointer (some ⟨b, o + n.toNat * (s + 1), none⟩)) w := by
              intro b o
              have : n < (len : Int) := by omega
              simp [Instr.indexAt, asIntOf, r_underlying hu, r_sizeOf hs, h0, this, addr_add, Instr.sureAddr]
            split at h
            · simp only [Option.some.injEq] at h
              subst h
              cases hx with
              | ref _ _ cb e tyb h1 h2 => exact .same hH (run cb _) (.ref _ _ cb e _ h1 h2)
            · simp only [Option.some.injEq] at h
              subst h
              cases hx with
              | t _ _ hx =>
                cases hx with
                | ptr b o _ _ g hm ho hr => exact .same hH (run b _) (.t _ _ (by rw [Nat.add_assoc]; exact .ptr b o _ _ g hm ho hr))
            · simp at h
          · simp at h
        · simp at h
      · simp at h
    · simp at h
  · simp at h

/-! ### An element of a string or an array -/
def partV (ag : Bool) (n off : Nat) (cs : List V) : Option V :=
  if ag then (if off + n ≤ cs.length then some (mkAgg ((cs.drop off).take n)) else none) else cs[off]?

theorem partV_run {P : Program} {F : Nat → Prop} {w : World} {β : Nat → Option Nat} {H : Heap} {ag : Bool} {n off : Nat} {t : TypeId} {vs : Array Value} {cs : List V} {u : V} (ha : aggT P t = some ag) (hn : szT P t = some n)
    (hl : vs.size = cs.length) (ho : ∀ (j : Nat) (v : Value), vs[j]? = some v → one v = true) (hr : ∀ (j : Nat) (v : Value) (c : V), vs[j]? = some v → cs[j]? = some c → RepV F w β H v c)
    (h : partV ag n off cs = some u) : ∃ v, (part t vs off).run P w = .ok v w ∧ RepV F w β H v u := by
  cases ag with
  | true =>
    simp only [partV, if_true] at h
    split at h
    · rename_i hle
      simp only [Option.some.injEq] at h
      subst h
      refine ⟨.agg (vs.extract off (off + n)), r_part ha hn _ _ _ (by simp; omega), rep_mkAgg (by simp; omega) (fun j v hj => ?_) fun j v c hj hc => ?_⟩
      · rw [Array.getElem?_extract] at hj
        split at hj
        · exact ho _ v hj
        · simp at hj
      · rw [Array.getElem?_extract] at hj
        rw [List.getElem?_take] at hc
        split at hj
        · split at hc
          · exact hr _ v c hj (by simpa using hc)
          · simp at hc
        · simp at hj
    · simp at h
  | false =>
    simp only [partV, Bool.false_eq_true, if_false] at h
    have hlt : off < cs.length := (List.getElem?_eq_some_iff.1 h).1
    have hv : vs[off]? = some (vs[off]'(by omega)) := Array.getElem?_eq_getElem (by omega)
    exact ⟨_, r_part ha hn _ _ _ (by simp), hr _ _ _ hv h⟩

def vIndex (P : Program) (t : TypeId) (x i : V) : Option V :=
  match intOf? i with
  | some (_, n) => if 0 ≤ n then
      match P.underlying t with
      | some .string => match strOf x with
        | some s => if n.toNat < s.size then some (vc (.int .u8 (bAt s n.toNat))) else none
        | none => none
      | some (.array len et) => match aggOf x, aggT P et, szT P et with
        | some cs, some ag, some sz => if n.toNat < len then partV ag sz (n.toNat * sz) cs else none
        | _, _, _ => none
      | _ => none
    else none
  | none => none

theorem vIndex_good {P : Program} {x : Cx} {w : World} {β : Nat → Option Nat} {H : Heap} (hH : HRel x w β H) {t : TypeId} {cx ci : Value} {vx vi u : V} (hx : Rep x w β H cx vx) (hi : Rep x w β H ci vi)
    (h : vIndex P t vx vi = some u) : Good P x w β H (do pure (.value (← Instr.index t cx ci))) u H := by
  unfold vIndex at h
  split at h
  · rename_i k n hn
    obtain rfl := intOf_rep hi hn
    split at h
    · rename_i h0
      split at h
      · rename_i hu
        split at h
        · rename_i s hs
          obtain rfl := strOf_rep hx hs
          split at h
          · rename_i hlt
            simp only [Option.some.injEq] at h
            subst h
            refine .same hH (v := .int .u8 (bAt s n.toNat)) ?_ (.t _ _ (.c _ rfl))
            have hg : s[n.toNat]? = some s[n.toNat] := by simp [hlt]
            have hb : bAt s n.toNat = s[n.toNat].toNat := by
              have : s.data[n.toNat]? = some s.data[n.toNat] := Array.getElem?_eq_getElem hlt
              simp [bAt, this]
              rfl
            simp [Instr.index, asIntOf, r_underlying hu, h0, hg, hb]
          · simp at h
        · simp at h
      · rename_i len et hu
        split at h
        · rename_i cs ag sz hcs ha hs
          split at h
          · rename_i hlt
            obtain ⟨vs, rfl, h1, h2, h3⟩ := rep_agg hx hcs
            obtain ⟨v, hv, hr⟩ := partV_run ha hs h1 h2 h3 h
            refine .same hH ?_ hr
            have : n < (len : Int) := by omega
            simp [Instr.index, asIntOf, r_underlying hu, h0, this, r_sizeOf hs, hv]
          · simp at h
        · simp at h
      · simp at h
    · simp at h
  · simp at h

def vFieldOf (P : Program) (t : TypeId) (x : V) (f : Nat) : Option V :=
  match fldT P t f, aggOf x with
  | some (off, ft), some cs => match aggT P ft, szT P ft with
    | some ag, some n => partV ag n off cs
    | _, _ => none
  | _, _ => none
theorem vFieldOf_good {P : Program} {x : Cx} {w : World} {β : Nat → Option Nat} {H : Heap} (hH : HRel x w β H) {t : TypeId} {f : Nat} {cx : Value} {vx u : V} (hx : Rep x w β H cx vx)
    (h : vFieldOf P t vx f = some u) : Good P x w β H (do pure (.value (← Instr.field t cx f))) u H := by
  unfold vFieldOf at h
  split at h
  · rename_i off ft cs hf hcs
    split at h
    · rename_i ag n ha hn
      obtain ⟨vs, rfl, h1, h2, h3⟩ := rep_agg hx hcs
      obtain ⟨v, hv, hr⟩ := partV_run ha hn h1 h2 h3 h
      unfold fldT at hf
      split at hf
      · rename_i fs hu
        obtain ⟨fd, hfd, hof⟩ := Option.map_eq_some_iff.1 hf
        simp only [Prod.mk.injEq] at hof
        obtain ⟨rfl, rfl⟩ := hof
        exact .same hH (by simp [Instr.field, r_underlying hu, hfd, asAgg, hv]) hr
      · simp at hf
    · simp at h
  · simp at h

/-! ### Slicing -/
def optNat (o : Option V) (dflt : Nat) : Option Nat :=
  match o with
  | none => some dflt
  | some v => match intOf? v with | some (_, n) => if 0 ≤ n then some n.toNat else none | none => none

def vSlice (P : Program) (H : Heap) (t : TypeId) (x : V) (lo hi mx : Option V) : Option V :=
  match P.underlying t with
  | some .string => match strOf x, mx with
    | some s, none => match optNat lo 0, optNat hi s.size with
      | some l, some h => if l ≤ h ∧ h ≤ s.size then some (vc (.string (s.extract l h))) else none
      | _, _ => none
    | _, _ => none
  | some (.slice et) => match szT P et with
    | some sz => match x with
      | .nils => match optNat lo 0, optNat hi 0, optNat mx 0 with
        | some 0, some 0, some 0 => if mx.isSome && hi.isNone then none else some .nils
        | _, _, _ => none
      | .t (.sl es) => match mx with
        | none => match optNat lo 0, optNat hi es.length with
          | some l, some h => if l ≤ h ∧ h ≤ es.length ∧ es.all (fun e => e.cells.length = sz) then some (.t (.sl ((es.drop l).take (h - l)))) else none
          | _, _ => none
        | some m => match optNat lo 0, optNat hi es.length, optNat (some m) 0 with
          | some l, some h, some m => if hi.isSome ∧ l = h ∧ h = m ∧ m ≤ es.length then some .nils else none
          | _, _, _ => none
      | .hdr a off len cap => match hget H a with
        | some (.arr _ sz' es) => if sz' = sz ∧ off + cap = es.length then match mx with
            | none => match optNat lo 0, optNat hi len with
              | some l, some h => if l ≤ h ∧ h ≤ cap then some (.hdr a (off + l) (h - l) (cap - l)) else none
              | _, _ => none
            | some m => match optNat lo 0, optNat hi len, optNat (some m) 0 with
              | some l, some h, some m => if hi.isSome ∧ l = h ∧ h = m ∧ m ≤ cap then some .nils else none
              | _, _, _ => none
          else none
        | _ => none
      | _ => none
    | none => none
  | _ => none

section
variable {P : Program} {F : Nat → Prop} {w : World} {β : Nat → Option Nat} {H : Heap}
/-- Optional bounds, as they stand. -/
inductive RepO (F : Nat → Prop) (w : World) (β : Nat → Option Nat) (H : Heap) : Option Value → Option V → Prop
  | none : RepO F w β H none none
  | some (v : Value) (u : V) (h : RepV F w β H v u) : RepO F w β H (some v) (some u)

theorem bound_run {o : Option Value} {p : Option V} (ho : RepO F w β H o p) {dflt n y : Nat} (hn : optNat p dflt = some n) (hle : n ≤ y) (code : BoundsCode) :
    (match o with | some v => Instr.sliceBound v y code | none => pure dflt : Sem Nat).run P w = .ok n w := by
  cases ho with
  | none =>
    simp only [optNat, Option.some.injEq] at hn
    subst hn
    rfl
  | some v u h =>
    simp only [optNat] at hn
    split at hn
    · rename_i k i hi
      obtain rfl := intOf_rep h hi
      split at hn
      · rename_i h0
        simp only [Option.some.injEq] at hn
        subst hn
        have : i ≤ (y : Int) := by omega
        simp [Instr.sliceBound, asIntOf, h0, this]
      · simp at hn
    · simp at hn

theorem bounds_run {lo hi : Option Value} {vlo vhi : Option V} (h1 : RepO F w β H lo vlo) (h2 : RepO F w β H hi vhi) {isS : Bool} {len cap l h : Nat}
    (hl : optNat vlo 0 = some l) (hh : optNat vhi len = some h) (c1 : l ≤ h) (c2 : h ≤ cap) : (Instr.sliceBounds isS len cap lo hi none).run P w = .ok (l, h, cap) w := by
  have e1 := bound_run (P := P) h2 hh c2 (if isS = true then .sliceAcap else .sliceAlen)
  have e2 := bound_run (P := P) h1 hl c1 (if (none : Option Value).isSome = true then .slice3C else .sliceB)
  simp only [Instr.sliceBounds, Sem.run_bind, Sem.run_pure, Result.andThen_ok]
  cases h2 <;> cases h1 <;> simp only [Sem.run_pure, Result.ok.injEq, and_true] at e1 e2 <;> simp only [Sem.run_bind, Sem.run_pure, Result.andThen_ok, e1, e2]

theorem bounds3_run {lo : Option Value} {hi mx : Value} {vlo : Option V} {vhi vmx : V} (h1 : RepO F w β H lo vlo) (h2 : RepV F w β H hi vhi) (h3 : RepV F w β H mx vmx) {isS : Bool} {len cap l h m : Nat}
    (hl : optNat vlo 0 = some l) (hh : optNat (some vhi) len = some h) (hm : optNat (some vmx) 0 = some m) (c1 : l ≤ h) (c2 : h ≤ m) (c3 : m ≤ cap) :
    (Instr.sliceBounds isS len cap lo (some hi) (some mx)).run P w = .ok (l, h, m) w := by
  have e1 := bound_run (P := P) (RepO.some mx vmx h3) hm c3 (if isS = true then .slice3Acap else .slice3Alen)
  have e2 := bound_run (P := P) (RepO.some hi vhi h2) hh c2 .slice3B
  have e3 := bound_run (P := P) h1 hl c1 (if (some mx : Option Value).isSome = true then .slice3C else .sliceB)
  simp only at e1 e2
  simp only [Instr.sliceBounds, Sem.run_bind, e1, e2, Result.andThen_ok]
  cases h1 <;> simp only [Sem.run_pure, Result.ok.injEq, and_true] at e3 <;> simp only [Sem.run_bind, Sem.run_pure, Result.andThen_ok, e3]
end

theorem vSlice_good {P : Program} {x : Cx} {w : World} {β : Nat → Option Nat} {H : Heap} (hH : HRel x w β H) {t : TypeId} {cx : Value} {vx u : V} (hx : Rep x w β H cx vx) {clo chi cmx : Option Value} {lo hi mx : Option V}
    (h1 : RepO (imm x w β H) w β H clo lo) (h2 : RepO (imm x w β H) w β H chi hi) (h3 : RepO (imm x w β H) w β H cmx mx)
    (h : vSlice P H t vx lo hi mx = some u) : Good P x w β H (do pure (.value (← Instr.sliceAt t cx clo chi cmx))) u H := by
  unfold vSlice at h
  split at h
  · rename_i hu
    split at h
    · rename_i s hs
      obtain rfl := strOf_rep hx hs
      split at h
      · rename_i l hh hl hhh
        split at h
        · rename_i hc
          simp only [Option.some.injEq] at h
          subst h
          cases h3 with
          | none =>
            refine .same hH (v := .string (s.extract l hh)) ?_ (.t _ _ (.c _ rfl))
            simp [Instr.sliceAt, Instr.slice, r_underlying hu, bounds_run (P := P) (isS := false) h1 h2 hl hhh hc.1 hc.2]
        · simp at h
      · simp at h
    · simp at h
  · rename_i et hu
    split at h
    · rename_i sz hsz
      have run : ∀ (A : Option Addr) (len cap l hh m : Nat), (Instr.sliceBounds true len cap clo chi cmx).run P w = .ok (l, hh, m) w →
          (Instr.sliceAt t (.slice A len cap) clo chi cmx).run P w = .ok (.slice (if m = l then A else A.map (·.add (l * sz))) (hh - l) (m - l)) w := by
        intro A len cap l hh m hb
        simp [Instr.sliceAt, Instr.slice, r_underlying hu, hb, r_sizeOf hsz]
      split at h
      · split at h
        · rename_i e1 e2 e3
          split at h
          · simp at h
          · rename_i hmx
            simp only [Option.some.injEq] at h
            subst h
            cases hx with
            | nils A =>
              cases h3 with
              | none => exact .same hH (run _ _ _ _ _ _ (bounds_run h1 h2 e1 e2 (Nat.le_refl _) (Nat.le_refl _))) (.nils _)
              | some m vm q3 =>
                cases h2 with
                | none => simp at hmx
                | some y vy q2 => exact .same hH (run _ _ _ _ _ _ (bounds3_run h1 q2 q3 e1 e2 e3 (Nat.le_refl _) (Nat.le_refl _) (Nat.le_refl _))) (.nils _)
        · simp at h
      · rename_i es
        cases hx with
        | t _ _ hx =>
          cases hx with
          | sl A len cap sz' _ g hl' hc' hz hm ho hr =>
            split at h
            · split at h
              · rename_i l hh hl hhh
                split at h
                · rename_i hc
                  obtain ⟨c1, c2, c3⟩ := hc
                  simp only [Option.some.injEq] at h
                  subst h
                  cases h3 with
                  | none =>
                    rw [hl'] at hhh
                    refine .same hH (run _ _ _ _ _ _ (bounds_run h1 h2 hl hhh c1 (by omega))) (.t _ _ ?_)
                    have hwid : ∀ e, e ∈ es → e.cells.length = sz := fun e he => by simpa using (List.all_eq_true.1 c3) e he
                    have getE : ∀ i e, ((es.drop l).take (hh - l))[i]? = some e → es[l + i]? = some e ∧ l + i < hh := by
                      intro i e he
                      rw [List.getElem?_take] at he
                      split at he
                      · rw [List.getElem?_drop] at he
                        exact ⟨he, by omega⟩
                      · simp at he
                    refine .sl _ _ _ sz _ (fun i j => g (l + i) j) (by simp; omega) (by omega) (fun e he => hwid e (List.mem_of_mem_drop (List.mem_of_mem_take he))) (fun i e j t hi hj => ?_)
                      (fun i e j t hi hj => ho _ e j t (getE i e hi).1 hj) (fun i e j t hi hj => hr _ e j t (getE i e hi).1 hj)
                    obtain ⟨he, hlt⟩ := getE i e hi
                    obtain ⟨b, o, rfl, hF, hcell⟩ := hm _ e j t he hj
                    have hs' : sz' = sz := (hz e (List.mem_of_getElem? he)).symm.trans (hwid e (List.mem_of_getElem? he))
                    subst hs'
                    refine ⟨b, o + l * sz', ?_, hF, ?_⟩
                    · rw [if_neg (by omega)]
                      simp [addr_add]
                    · rw [Nat.add_mul, ← Nat.add_assoc] at hcell
                      exact hcell
                · simp at h
              · simp at h
            · rename_i m
              split at h
              · rename_i l hh m' hl hhh hmm
                split at h
                · rename_i hc
                  obtain ⟨c0, rfl, rfl, c3⟩ := hc
                  simp only [Option.some.injEq] at h
                  subst h
                  cases h3 with
                  | some cm _ q3 =>
                    cases h2 with
                    | none => simp at c0
                    | some y vy q2 =>
                      rw [hl'] at hhh
                      have := run A len cap _ _ _ (bounds3_run h1 q2 q3 hl hhh hmm (Nat.le_refl _) (Nat.le_refl _) (by omega))
                      rw [Nat.sub_self] at this
                      exact .same hH this (.nils _)
                · simp at h
              · simp at h
      · rename_i a off len cap
        split at h
        · rename_i sz' es hHe
          split at h
          · rename_i hc
            obtain ⟨rfl, hcur⟩ := hc
            cases hx with
            | hdr _ _ _ _ _ tyb sz0 es0 hHe0 hle ho hv =>
              rw [hHe] at hHe0
              simp only [Option.some.injEq, Blk.arr.injEq] at hHe0
              obtain ⟨rfl, rfl, rfl⟩ := hHe0
              obtain ⟨g1, A, C, rfl, g3, g4, g5⟩ := hv hcur
              split at h
              · split at h
                · rename_i l hh hl hhh
                  split at h
                  · rename_i hc
                    simp only [Option.some.injEq] at h
                    subst h
                    cases h3 with
                    | none =>
                      refine .same hH (run _ _ _ _ _ _ (bounds_run h1 h2 hl hhh hc.1 (by omega))) (.hdr _ a _ _ _ _ _ _ hHe (by omega) rfl fun _ => ⟨by omega, _, _, rfl, by omega, fun e => by have := g4 e; omega, fun cb e => ?_⟩)
                      obtain ⟨k1, cs, ty, fr, k2, k3⟩ := g5 cb e
                      refine ⟨fun hpos => ?_, cs, ty, fr, k2, ?_⟩
                      · rw [if_neg (by omega), k1 (by omega)]
                        simp [addr_add, Nat.add_mul]
                      · rwa [show off + l + (C - l) = off + C by omega]
                  · simp at h
                · simp at h
              · split at h
                · rename_i l hh m' hl hhh hmm
                  split at h
                  · rename_i hc
                    obtain ⟨c0, rfl, rfl, c3⟩ := hc
                    simp only [Option.some.injEq] at h
                    subst h
                    cases h3 with
                    | some cm _ q3 =>
                      cases h2 with
                      | none => simp at c0
                      | some y vy q2 =>
                        have := run A len C _ _ _ (bounds3_run h1 q2 q3 hl hhh hmm (Nat.le_refl _) (Nat.le_refl _) (by omega))
                        rw [Nat.sub_self] at this
                        exact .same hH this (.nils _)
                  · simp at h
                · simp at h
          · simp at h
        · simp at h
      · simp at h
    · simp at h
  · simp at h
end Go.Vm
namespace Go.Vm

/-- A row of cells that tells elements. -/
structure Row (F : Nat → Prop) (w : World) (β : Nat → Option Nat) (H : Heap) (sz : Nat) (xs : Array Value) (es : List V) : Prop where
  size : es.length * sz ≤ xs.size
  ones : ∀ (j : Nat) (v : Value), xs[j]? = some v → one v = true
  wide : ∀ e, e ∈ es → e.cells.length = sz
  rep : ∀ (i : Nat) (e : V) (j : Nat) (v : Value) (c : V), es[i]? = some e → e.cells[j]? = some c → xs[i * sz + j]? = some v → RepV F w β H v c

theorem row_lt {n i j sz : Nat} (hi : i < n) (hj : j < sz) : i * sz + j < n * sz := by
  have : (i + 1) * sz ≤ n * sz := Nat.mul_le_mul_right sz hi
  rw [Nat.succ_mul] at this
  omega

theorem Row.repB {w : World} {β : Nat → Option Nat} {H : Heap} {F F' : Nat → Prop} {w' : World} {β' : Nat → Option Nat} {H' : Heap} {sz : Nat} {xs : Array Value} {es : List V} (h : Row F w β H sz xs es) (hz : 0 < sz)
    (tr : ∀ v u, RepV F w β H v u → RepV F' w' β' H' v u) {a cb : Nat} {ty : TypeId} {fr : Nat × Nat} (hb : β' a = some cb) (hw : w'.heap[cb]? = some (.cells xs ty fr)) (hf : Unfz es fr xs.size) :
    RepB F' w' β' H' a (.arr ty sz es) :=
  .arr ty sz es cb xs fr hz hb hw hf h.wide h.size h.ones fun i e j v c h1 h2 h3 => tr _ _ (h.rep i e j v c h1 h2 h3)

theorem Row.put {F : Nat → Prop} {w : World} {β : Nat → Option Nat} {H : Heap} {sz : Nat} {xs : Array Value} {es : List V} (h : Row F w β H sz xs es) {i : Nat} (hi : i < es.length) {v : Value} {u : V} (hv : RepV F w β H v u)
    (hu : plainV u = true) (hz : u.cells.length = sz) : Row F w β H sz (putAt xs (i * sz) v.cells.toList) (es.set i u) := by
  obtain ⟨p1, p2⟩ := plainV_spec hu
  obtain ⟨c1, c2, c3⟩ := rep_cells hv p1 p2
  refine ⟨by rw [putAt_size]; simpa using h.size, fun j y hj => ?_, fun e he => ?_, fun i2 e j y c he hc hy => ?_⟩
  · rw [putAt_get] at hj
    split at hj
    · exact c2 _ _ (by simpa using hj)
    · exact h.ones j y hj
  · rcases List.mem_or_eq_of_mem_set he with he | rfl
    · exact h.wide e he
    · exact hz
  · rw [putAt_get] at hy
    simp only [Array.length_toList] at hy
    rw [List.getElem?_set] at he
    by_cases e2 : i = i2
    · subst e2
      rw [if_pos rfl, if_pos hi] at he
      obtain rfl : u = e := by simpa using he
      have hj : j < sz := by rw [← hz]; exact (List.getElem?_eq_some_iff.1 hc).1
      have := row_lt hi hj
      have hsz := h.size
      rw [if_pos ⟨by omega, by omega, by omega⟩] at hy
      exact c3 j y c (by rw [show i * sz + j - i * sz = j by omega] at hy; simpa using hy) hc
    · rw [if_neg e2] at he
      have hj : j < sz := by rw [← h.wide e (List.mem_of_getElem? he)]; exact (List.getElem?_eq_some_iff.1 hc).1
      have hout : ¬ (i * sz ≤ i2 * sz + j ∧ i2 * sz + j < i * sz + v.cells.size ∧ i2 * sz + j < xs.size) := by
        rintro ⟨r1, r2, _⟩
        rcases Nat.lt_or_gt_of_ne e2 with hlt | hlt
        · have : (i + 1) * sz ≤ i2 * sz := Nat.mul_le_mul_right sz hlt
          rw [Nat.succ_mul] at this
          omega
        · have : (i2 + 1) * sz ≤ i * sz := Nat.mul_le_mul_right sz hlt
          rw [Nat.succ_mul] at this
          omega
      rw [if_neg hout] at hy
      exact h.rep i2 e j y c he hc hy

theorem map_range0 (f : Nat → Value) : (Array.range 0).map f = #[] := by
  apply Array.eq_empty_of_size_eq_zero
  simp

theorem foldl_put (xs : Array Value) (off : Nat) (l : List Value) (k : Nat) :
    (l.zipIdx k).foldl (fun cs (p : Value × Nat) => cs.setIfInBounds (off + p.2) p.1) xs = putAt xs (off + k) l := by
  induction l generalizing xs k with
  | nil => rfl
  | cons v r ih =>
    simp only [List.zipIdx_cons, List.foldl_cons, putAt]
    rw [ih]
    rfl

def vParts (sz : Nat) : List (Nat × V) → List V → Option (List V)
  | [], es => some es
  | (i, v) :: r, es => if i < es.length ∧ plainV v ∧ v.cells.length = sz then vParts sz r (es.set i v) else none

/-- Operands of a literal, as they stand. -/
inductive RepL (F : Nat → Prop) (w : World) (β : Nat → Option Nat) (H : Heap) : List (Nat × Value) → List (Nat × V) → Prop
  | nil : RepL F w β H [] []
  | cons (i : Nat) (v : Value) (u : V) (l : List (Nat × Value)) (m : List (Nat × V)) (h : RepV F w β H v u) (r : RepL F w β H l m) : RepL F w β H ((i, v) :: l) ((i, u) :: m)

theorem fill_row {F : Nat → Prop} {w : World} {β : Nat → Option Nat} {H : Heap} {sz : Nat} {l : List (Nat × Value)} {m : List (Nat × V)} (hl : RepL F w β H l m) :
    ∀ {xs : Array Value} {es es' : List V}, Row F w β H sz xs es → vParts sz m es = some es' →
      ∃ ys, Instr.fill (fun i => some (i * sz, sz)) xs l = some ys ∧ ys.size = xs.size ∧ Row F w β H sz ys es' ∧ es'.length = es.length := by
  induction hl with
  | nil =>
    intro xs es es' h hp
    simp only [vParts, Option.some.injEq] at hp
    subst hp
    exact ⟨xs, rfl, rfl, h, rfl⟩
  | cons i v u l m hv _ ih =>
    intro xs es es' h hp
    simp only [vParts] at hp
    split at hp
    · rename_i hc
      obtain ⟨c1, c2, c3⟩ := hc
      obtain ⟨p1, p2⟩ := plainV_spec c2
      obtain ⟨q1, _, _⟩ := rep_cells hv p1 p2
      have hsz : v.cells.size = sz := by omega
      have hle : i * sz + sz ≤ xs.size := by
        have : (i + 1) * sz ≤ es.length * sz := Nat.mul_le_mul_right sz c1
        rw [Nat.succ_mul] at this
        have := h.size
        omega
      obtain ⟨ys, g1, g2, g3, g4⟩ := ih (h.put c1 hv c2 c3) hp
      refine ⟨ys, ?_, by rw [g2, putAt_size], g3, by simpa using g4⟩
      simp only [Instr.fill, hsz, ne_eq, not_true, decide_false, Bool.false_or, decide_eq_true_eq, gt_iff_lt]
      rw [if_neg (by omega)]
      rw [show v.cells.zipIdx.foldl (fun cs (x : Value × Nat) => match x with | (c, j) => cs.setIfInBounds (i * sz + j) c) xs = putAt xs (i * sz) v.cells.toList from ?_]
      · exact g1
      · rw [← Array.foldl_toList, Array.toList_zipIdx]
        exact foldl_put xs (i * sz) v.cells.toList 0
    · simp at hp

theorem zero_row {F : Nat → Prop} {w : World} {β : Nat → Option Nat} {H : Heap} {z : Value} {sz n m : Nat} (hz : z.cells.size = sz) (h1 : z.cells.all (·.oneCell') = true) (h2 : okAgg z = true) (hp : plainV (ofV z) = true)
    (hs : 0 < sz) (hm : n ≤ m) : Row F w β H sz ((Array.range (m * sz)).map (z.cells[· % sz]!)) (List.replicate n (ofV z)) := by
  obtain ⟨p1, p2⟩ := plainV_spec hp
  obtain ⟨c1, c2, c3⟩ := rep_cells (rep_ofV (F := F) (w := w) (β := β) (H := H) z h2) p1 p2
  refine ⟨?_, fun j v hj => ?_, fun e he => ?_, fun i e j v c he hc hv => ?_⟩
  · simp
    exact Nat.mul_le_mul_right sz hm
  · simp only [Array.getElem?_map, Option.map_eq_some_iff] at hj
    obtain ⟨k, hk, rfl⟩ := hj
    have hlt : k % sz < z.cells.size := by rw [hz]; exact Nat.mod_lt _ hs
    rw [getElem!_pos z.cells (k % sz) hlt]
    exact (Array.all_eq_true_iff_forall_mem.1 h1) _ (Array.getElem_mem hlt)
  · obtain ⟨_, rfl⟩ := List.mem_replicate.1 he
    omega
  · obtain ⟨hi, rfl⟩ : i < n ∧ ofV z = e := by
      rw [List.getElem?_replicate] at he
      split at he
      · exact ⟨by assumption, by simpa using he⟩
      · simp at he
    have hj : j < sz := by rw [← hz, c1]; exact (List.getElem?_eq_some_iff.1 hc).1
    have hlt : i * sz + j < m * sz := row_lt (by omega) hj
    rw [Array.getElem?_map, Array.getElem?_range, if_pos hlt] at hv
    simp only [Option.map_some, Option.some.injEq] at hv
    subst hv
    have hmod : (i * sz + j) % sz = j := by rw [Nat.mul_comm, Nat.mul_add_mod]; exact Nat.mod_eq_of_lt hj
    rw [hmod, getElem!_pos z.cells j (by omega)]
    exact c3 j _ c (Array.getElem?_eq_getElem (by omega)) hc

def vBuildSlice (P : Program) (d : Nat) (H : Heap) (t : TypeId) (len : Nat) (parts : List (Nat × V)) : Option (V × Heap) :=
  match elemT P t, hget H d with
  | some et, none => match szT P et, (P.info? et).bind (·.zero) with
    | some (s + 1), some z =>
      if len = 0 then (if parts.isEmpty then some (.nils, H) else none)
      else if len * (s + 1) ≤ 2 ^ 24 ∧ z.cells.size = s + 1 ∧ z.cells.all (·.oneCell') ∧ okAgg z ∧ plainV (ofV z) then
        (vParts (s + 1) parts (List.replicate len (ofV z))).map fun es => (.hdr d 0 len len, (d, .arr et (s + 1) es) :: H)
      else none
    | _, _ => none
  | _, _ => none

theorem elemT_spec {P : Program} {t et : TypeId} (h : elemT P t = some et) : P.underlying t = some (.slice et) := by
  unfold elemT at h
  split at h
  · rename_i e hu
    simp only [Option.some.injEq] at h
    subst h
    exact hu
  · simp at h

theorem Good.arr {P : Program} {x : Cx} {w w' : World} {β : Nat → Option Nat} {H : Heap} (hH : HRel x w β H) {d : Nat} (hd : hget H d = none) {sz : Nat} (hz : 0 < sz) {xs : Array Value} {es : List V} {et : TypeId} {n C : Nat}
    (hr : Row (imm x w β H) w β H sz xs es) (hn : n = es.length) (hC : n ≤ C) (hCs : C * sz ≤ xs.size) (he : w' = w.alloc (.cells xs et) ∨ w' = (w.drew).alloc (.cells xs et)) {s : Sem Next}
    (hs : s.run P w = .ok (.value (.slice (some ⟨w.heap.size, 0, none⟩) n C)) w') : Good P x w β H s (.hdr d 0 n n) ((d, .arr et sz es) :: H) := by
  have key : ∀ w1 : World, w1.heap = w.heap → w1.os = w.os → w1.tape = w.tape → w1.output = w.output → w' = w1.alloc (.cells xs et) → Step x w β H w' (upd β d (some w.heap.size)) ((d, .arr et sz es) :: H) := by
    intro w1 e1 e2 e3 e4 e5
    have h1 : HRel x w1 β H := by
      obtain ⟨a1, a2, a3, a4, a5⟩ := hH
      have hi : imm x w1 β H = imm x w β H := by unfold imm; rw [e1]
      refine ⟨a1, by rw [e1]; exact a2, a3, by rw [e1]; exact a4, fun a B hB => ?_⟩
      rw [hi]
      refine (a5 a B hB).move ⟨fun b hb => ⟨hb, by rw [e1]⟩, fun a B B' q q' => ?_⟩ rfl (fun cb _ => by rw [e1]) (fun _ q => q)
      rw [q] at q'
      obtain rfl := by simpa using q'
      exact ⟨B.onto_refl, fun _ => ⟨rfl, fun cb _ => .of_eq (by rw [e1])⟩⟩
    have S := Step.alloc h1 d hd (.arr et sz es) (.cells xs et) fun tr => by
      refine hr.repB hz (fun v u hv => tr v u ?_) (upd_same _ _ _) (alloc_new _ _) (.free (Nat.le_refl _))
      have hi : imm x w1 β H = imm x w β H := by unfold imm; rw [e1]
      unfold Rep
      rw [hi]
      refine hv.move ⟨fun b hb => ⟨hb, by rw [e1]⟩, fun a B B' q q' => ?_⟩ hv.within
      rw [q] at q'
      obtain rfl := by simpa using q'
      exact ⟨B.onto_refl, fun _ => ⟨rfl, fun cb _ => .of_eq (by rw [e1])⟩⟩
    rw [e5]
    rw [e1] at S
    obtain ⟨m1, m2, m3, m4⟩ := S
    have hi : imm x w1 β H = imm x w β H := by unfold imm; rw [e1]
    rw [hi] at m1
    refine ⟨⟨fun b hb => ⟨(m1.imm b hb).1, ?_⟩, fun a B B' q q' => ⟨(m1.blk a B B' q q').1, fun st => ⟨((m1.blk a B B' q q').2 st).1, fun cb e => ?_⟩⟩⟩, m2, m3, ⟨m4.os.trans e2, m4.tape.trans e3, m4.output.trans e4, by rw [← e1]; exact m4.size, fun b hb ho => (m4.block b hb ho).trans (by rw [e1])⟩⟩
    · exact (m1.imm b hb).2.trans (by rw [e1])
    · have := ((m1.blk a B B' q q').2 st).2 cb e
      unfold keepsSize at this ⊢
      rw [e1] at this
      exact this
  have S : Step x w β H w' (upd β d (some w.heap.size)) ((d, .arr et sz es) :: H) := by
    rcases he with he | he
    · exact key w rfl rfl rfl rfl he
    · exact key w.drew rfl rfl rfl rfl he
  have hnew : w'.heap[w.heap.size]? = some (.cells xs et) := by
    rcases he with he | he
    · rw [he]; exact alloc_new _ _
    · rw [he]; exact alloc_new w.drew _
  refine ⟨w', _, _, .inl hs, S, .hdr _ d 0 n n et sz es hget_new (by omega) rfl fun _ => ⟨Nat.le_refl _, _, C, rfl, hC, fun e => by rw [upd_same] at e; simp at e, fun cb e => ?_⟩⟩
  rw [upd_same] at e
  obtain rfl := by simpa using e
  exact ⟨fun _ => by simp, xs, et, (0, 0), hnew, by simpa using hCs⟩

theorem vBuildSlice_good {P : Program} {x : Cx} {w : World} {β : Nat → Option Nat} {H H' : Heap} (hH : HRel x w β H) {d : Nat} {t : TypeId} {len : Nat} {l : Array (Nat × Value)} {m : List (Nat × V)} {u : V}
    (hl : RepL (imm x w β H) w β H l.toList m) (h : vBuildSlice P d H t len m = some (u, H')) : Good P x w β H (do pure (.value (← Instr.buildSlice t len l))) u H' := by
  unfold vBuildSlice at h
  split at h
  · rename_i et het hd
    have hu := elemT_spec het
    split at h
    · rename_i s z hs hz
      have hs : szT P et = some (s + 1) := hs
      obtain ⟨i, hi, hiz⟩ := Option.bind_eq_some_iff.1 hz
      split at h
      · rename_i hlen
        subst hlen
        split at h
        · rename_i hm
          simp only [Option.some.injEq, Prod.mk.injEq] at h
          obtain ⟨rfl, rfl⟩ := h
          have hm0 : m = [] := by simpa using hm
          subst hm0
          have hl0 : l = #[] := by
            have : l.toList = [] := by
              generalize l.toList = q at hl
              cases hl
              rfl
            simpa using this
          subst hl0
          have hrun : (Instr.buildSlice t 0 #[]).run P w = .ok (.slice (some ⟨w.heap.size, 0, none⟩) 0 0) (w.alloc (.cells #[] et)) := by
            simp [Instr.buildSlice, r_underlying hu, r_sizeOf hs, Instr.fill, newRow, map_range0]
          have hst : Step x w β H (w.alloc (.cells #[] et)) β H := by
            have hdom : ∀ b, b < w.heap.size → (w.alloc (.cells #[] et)).heap[b]? = w.heap[b]? := fun b hb => alloc_old w _ hb
            have M : Moves (imm x w β H) (imm x (w.alloc (.cells #[] et)) β H) w (w.alloc (.cells #[] et)) β β H H := by
              refine ⟨fun b hb => ⟨?_, hdom b (hH.imm_lt hb)⟩, fun a B B' q q' => ?_⟩
              · rcases hb with hb | ⟨h1, h2, h3⟩
                · exact .inl hb
                · exact .inr ⟨h1, by simp; omega, h3⟩
              · rw [q] at q'
                obtain rfl := by simpa using q'
                exact ⟨B.onto_refl, fun _ => ⟨rfl, fun cb e => .of_eq (hdom cb (hH.own a cb (by simp [q]) e).1)⟩⟩
            refine ⟨M, fun _ q => q, ⟨hH.inj, fun a b ha e => ?_, hH.f0, ?_, fun a B hB => (hH.blk a B hB).move M rfl (fun cb e => hdom cb (hH.own a cb (by simp [hB]) e).1) fun _ q => q⟩, ⟨rfl, rfl, rfl, by simp, fun b hb _ => hdom b (Nat.lt_of_lt_of_le hb hH.bs)⟩⟩
            · obtain ⟨k1, k2, k3⟩ := hH.own a b ha e
              exact ⟨by simp; omega, k2, k3⟩
            · have := hH.bs
              simp
              omega
          exact ⟨_, β, _, .inl (by simp only [Sem.run_bind, hrun, Result.andThen_ok, Sem.run_pure]), hst, .nils (some ⟨w.heap.size, 0, none⟩)⟩
        · simp at h
      · rename_i hlen
        split at h
        · rename_i hc
          obtain ⟨c1, c2, c3, c4, c5⟩ := hc
          obtain ⟨es, hes, heq⟩ := Option.map_eq_some_iff.1 h
          simp only [Prod.mk.injEq] at heq
          obtain ⟨rfl, rfl⟩ := heq
          have hrow := zero_row (F := imm x w β H) (w := w) (β := β) (H := H) (n := len) (m := len) c2 c3 c4 c5 (Nat.succ_pos s) (Nat.le_refl _)
          obtain ⟨ys, g1, g2, g3, g4⟩ := fill_row hl hrow hes
          have hpos : len * (s + 1) ≠ 0 := by
            have := Nat.mul_pos (Nat.pos_of_ne_zero hlen) (show 0 < s + 1 by omega)
            omega
          have hrun : (Instr.buildSlice t len l).run P w = .ok (.slice (some ⟨w.heap.size, 0, none⟩) len len) (w.alloc (.cells ys et)) := by
            simp only [Instr.buildSlice, Sem.run_bind, r_underlying hu, r_sizeOf hs, Result.andThen_ok]
            rw [if_neg (by omega), if_neg hpos]
            simp only [zeroValue, Sem.run_bind, r_typeInfo hi, hiz, Result.andThen_ok, Sem.run_pure, c2, g1]
            simp [newRow]
          exact Good.arr hH hd (Nat.succ_pos s) (et := et) (n := len) (C := len) g3 (by simp at g4; omega) (Nat.le_refl _) (by rw [g2]; simp) (.inl rfl) (by simp only [Sem.run_bind, hrun, Result.andThen_ok, Sem.run_pure])
        · simp at h
    · simp at h
  · simp at h

/-! ### make -/
def vMake (P : Program) (d : Nat) (H : Heap) (t : TypeId) (l c : V) : Option (V × Heap) :=
  match elemT P t, hget H d, intOf? l, intOf? c with
  | some et, none, some (_, n), some (_, m) => match szT P et, (P.info? et).bind (·.zero), bytesT P et with
    | some (s + 1), some z, some b =>
      if 0 ≤ n ∧ n ≤ m ∧ m < 2 ^ 62 ∧ b * m ≤ 2 ^ 47 ∧ z.cells.size = s + 1 ∧ z.cells.all (·.oneCell') ∧ okAgg z ∧ plainV (ofV z) then
        some (.hdr d 0 n.toNat n.toNat, (d, .arr et (s + 1) (List.replicate n.toNat (ofV z))) :: H)
      else none
    | _, _, _ => none
  | _, _, _, _ => none

theorem vMake_good {P : Program} {x : Cx} {w : World} {β : Nat → Option Nat} {H H' : Heap} (hH : HRel x w β H) {d : Nat} {t : TypeId} {cl cc : Value} {l c u : V} (hl : Rep x w β H cl l) (hc : Rep x w β H cc c)
    (h : vMake P d H t l c = some (u, H')) : Good P x w β H (do pure (.value (← Instr.makeSlice t cl cc))) u H' := by
  unfold vMake at h
  split at h
  · rename_i et k n k' m het hd hn hm
    have hu := elemT_spec het
    obtain rfl := intOf_rep hl hn
    obtain rfl := intOf_rep hc hm
    split at h
    · rename_i s z b hs hz hb
      have hs : szT P et = some (s + 1) := hs
      obtain ⟨i, hi, hiz⟩ := Option.bind_eq_some_iff.1 hz
      obtain ⟨i', hi', hib⟩ := Option.map_eq_some_iff.1 hb
      rw [hi] at hi'
      obtain rfl := by simpa using hi'
      split at h
      · rename_i hc
        obtain ⟨c1, c2, c3, c4, c5, c6, c7, c8⟩ := hc
        simp only [Option.some.injEq, Prod.mk.injEq] at h
        obtain ⟨rfl, rfl⟩ := h
        have wn : IntKind.i64.wrap n = n := by simp [IntKind.wrap, IntKind.signed, IntKind.bits]; omega
        have wm : IntKind.i64.wrap m = m := by simp [IntKind.wrap, IntKind.signed, IntKind.bits]; omega
        have hrun : (Instr.makeSlice t (.int k n) (.int k' m)).run P w = .ok (.slice (some ⟨w.heap.size, 0, none⟩) n.toNat m.toNat) (w.alloc (.cells ((Array.range (m.toNat * (s + 1))).map (z.cells[· % (s + 1)]!)) et)) := by
          simp only [Instr.makeSlice, Sem.run_bind, r_underlying hu, asInt, asIntOf, Sem.run_pure, Result.andThen_ok, r_typeInfo hi, wn, wm, hib]
          have t1 : (m < 0 || decide (((b : Nat) : Int) * m > 2 ^ 48)) = false := by
            simp only [Bool.or_eq_false_iff, decide_eq_false_iff_not]
            exact ⟨by omega, by omega⟩
          simp only [t1, Bool.false_or, Bool.or_eq_true, decide_eq_true_eq, if_neg (show ¬ (n < 0 ∨ n > m) by omega), Sem.run_bind, run_askRoom, Result.andThen_ok, r_sizeOf hs]
          by_cases h0 : m.toNat * (s + 1) = 0
          · simp only [h0, if_true, Sem.run_pure, Result.andThen_ok, newRow, Sem.run_bind, run_newObj, map_range0]
            rfl
          · simp [h0, zeroValue, r_typeInfo hi, hiz, newRow, c5]
        exact Good.arr hH hd (Nat.succ_pos s) (et := et) (n := n.toNat) (C := m.toNat) (zero_row (m := m.toNat) c5 c6 c7 c8 (Nat.succ_pos s) (by omega)) (by simp) (by omega) (by simp) (.inl rfl) (by simp only [Sem.run_bind, hrun, Result.andThen_ok, Sem.run_pure])
      · simp at h
    · simp at h
  · simp at h
end Go.Vm
namespace Go.Vm

/-- What is appended, element by element. -/
def srcOf (H : Heap) (y : V) : Option (List V) :=
  match y with
  | .nils => some []
  | .t (.sl ts) => some (ts.map V.t)
  | .hdr a off len cap => match hget H a with
    | some (.arr _ _ es) => if off + cap = es.length then some ((es.drop off).take len) else none
    | _ => none
  | .t (.c (.string s)) => some (s.data.toList.map fun b => vc (.int .u8 b.toNat))
  | _ => none

/-- Just these cells tell just these elements. -/
structure Cells (F : Nat → Prop) (w : World) (β : Nat → Option Nat) (H : Heap) (sz : Nat) (xs : Array Value) (es : List V) : Prop where
  size : xs.size = es.length * sz
  row : Row F w β H sz xs es

theorem loadCells_run {P : Program} {w : World} {b o n : Nat} (h : ∀ j, j < n → ∃ v, w.cell? ⟨b, o + j, none⟩ = some v) :
    ∃ xs : Array Value, (loadCells ⟨b, o, none⟩ n).run P w = .ok xs w ∧ xs.size = n ∧ ∀ (j : Nat) (v : Value), xs[j]? = some v → j < n ∧ w.cell? ⟨b, o + j, none⟩ = some v := by
  let f : Nat → Value := fun j => (w.cell? ⟨b, o + j, none⟩).getD undef
  refine ⟨((List.range n).map f).toArray, run_loadCells w _ n f fun j hj => ?_, by simp, fun j v hj => ?_⟩
  · obtain ⟨v, hv⟩ := h j hj
    rw [addr_add]
    simp [f, hv]
  · have hjk : j < n := by
      have := (Array.getElem?_eq_some_iff.1 hj).1
      simpa using this
    simp only [List.getElem?_toArray, List.getElem?_map, List.getElem?_range hjk, Option.map_some, Option.some.injEq] at hj
    subst hj
    obtain ⟨v, hv⟩ := h j hjk
    exact ⟨hjk, by simp [f, hv]⟩

theorem div_split {sz j n : Nat} (hz : 0 < sz) (hj : j < n * sz) : ∃ i k, j = i * sz + k ∧ k < sz ∧ i < n :=
  ⟨j / sz, j % sz, by rw [Nat.mul_comm]; exact (Nat.div_add_mod j sz).symm, Nat.mod_lt _ hz, Nat.div_lt_of_lt_mul (by rwa [Nat.mul_comm])⟩

theorem mul_inj {sz i j k l : Nat} (hj : j < sz) (hl : l < sz) (h : i * sz + j = k * sz + l) : i = k ∧ j = l := by
  rcases Nat.lt_trichotomy i k with hlt | rfl | hlt
  · have : (i + 1) * sz ≤ k * sz := Nat.mul_le_mul_right sz hlt
    rw [Nat.succ_mul] at this
    omega
  · exact ⟨rfl, by omega⟩
  · have : (k + 1) * sz ≤ i * sz := Nat.mul_le_mul_right sz hlt
    rw [Nat.succ_mul] at this
    omega

theorem src_run {P : Program} {x : Cx} {w : World} {β : Nat → Option Nat} {H : Heap} (hH : HRel x w β H) {cy : Value} {y : V} {ys : List V} (hy : Rep x w β H cy y) (h : srcOf H y = some ys) {sz : Nat} (hz : 0 < sz)
    (hw : ∀ e, e ∈ ys → e.cells.length = sz) :
    (Builtin.lenOf cy).run P w = .ok ys.length w ∧ ∃ xs, (Builtin.firstCells sz ys.length cy).run P w = .ok xs w ∧ Cells (imm x w β H) w β H sz xs ys := by
  have empty : ∀ ys : List V, ys = [] → Cells (imm x w β H) w β H sz #[] ys := by
    rintro _ rfl
    exact ⟨by simp, by simp, by simp, by simp, by simp⟩
  unfold srcOf at h
  split at h
  · simp only [Option.some.injEq] at h
    subst h
    cases hy with
    | nils A =>
      refine ⟨by simp [Builtin.lenOf], #[], ?_, empty _ rfl⟩
      cases A with
      | none => simp [Builtin.firstCells]
      | some a => simp [Builtin.firstCells, loadCells, loadCellsFrom]
  · rename_i ts
    simp only [Option.some.injEq] at h
    subst h
    cases hy with
    | t _ _ hy =>
      cases hy with
      | sl A len cap sz' _ g hl hc hzz hm ho hr =>
        refine ⟨by simp [Builtin.lenOf, hl], ?_⟩
        have hsz : ∀ e, e ∈ ts → e.cells.length = sz := fun e he => by
          have := hw (.t e) (List.mem_map_of_mem he)
          simpa [V.cells] using this
        by_cases h0 : ts = []
        · subst h0
          refine ⟨#[], ?_, empty _ rfl⟩
          cases A with
          | none => simp [Builtin.firstCells]
          | some a => simp [Builtin.firstCells, loadCells, loadCellsFrom]
        · have hpos : 0 < ts.length := List.length_pos_iff.2 h0
          have e0 : ts[0]? = some ts[0] := List.getElem?_eq_getElem hpos
          have hs0 := hsz _ (List.mem_of_getElem? e0)
          obtain rfl : sz' = sz := (hzz _ (List.mem_of_getElem? e0)).symm.trans hs0
          have c0 : ts[0].cells[0]? = some (ts[0].cells[0]'(by omega)) := List.getElem?_eq_getElem (by omega)
          obtain ⟨b, o, rfl, _⟩ := hm 0 _ 0 _ e0 c0
          have cell : ∀ i e j t, ts[i]? = some e → e.cells[j]? = some t → w.cell? ⟨b, o + (i * sz' + j), none⟩ = some (g i j) := by
            intro i e j t h1 h2
            obtain ⟨b', o', h3, _, h4⟩ := hm i e j t h1 h2
            simp only [Option.some.injEq, Addr.mk.injEq, and_true] at h3
            obtain ⟨rfl, rfl⟩ := h3
            rw [← Nat.add_assoc]
            exact h4
          have all : ∀ j, j < (ts.map V.t).length * sz' → ∃ i k e t, j = i * sz' + k ∧ ts[i]? = some e ∧ e.cells[k]? = some t := by
            intro j hj
            obtain ⟨i, k, rfl, hk, hi⟩ := div_split hz hj
            rw [List.length_map] at hi
            have he : ts[i]? = some ts[i] := List.getElem?_eq_getElem hi
            have := hsz _ (List.mem_of_getElem? he)
            exact ⟨i, k, ts[i], ts[i].cells[k]'(by omega), rfl, he, List.getElem?_eq_getElem (by omega)⟩
          obtain ⟨xs, h1, h2, h3⟩ := loadCells_run (P := P) (w := w) (b := b) (o := o) (n := (ts.map V.t).length * sz') fun j hj => by
            obtain ⟨i, k, e, t, rfl, he, ht⟩ := all j hj
            exact ⟨_, cell i e k t he ht⟩
          refine ⟨xs, by simpa [Builtin.firstCells] using h1, h2, by omega, fun j v hv => ?_, hw, fun i e j v c he hc hv => ?_⟩
          · obtain ⟨hj, hcell⟩ := h3 j v hv
            obtain ⟨i, k, e, t, rfl, he, ht⟩ := all j hj
            rw [cell i e k t he ht] at hcell
            simp only [Option.some.injEq] at hcell
            subst hcell
            exact ho i e k t he ht
          · simp only [List.getElem?_map, Option.map_eq_some_iff] at he
            obtain ⟨e, he, rfl⟩ := he
            simp only [V.cells, List.getElem?_map, Option.map_eq_some_iff] at hc
            obtain ⟨t, ht, rfl⟩ := hc
            obtain ⟨_, hcell⟩ := h3 _ v hv
            rw [cell i e j t he ht] at hcell
            simp only [Option.some.injEq] at hcell
            subst hcell
            exact .t _ _ (hr i e j t he ht)
  · rename_i a off len cap
    split at h
    · rename_i tya sz0 es hHe
      split at h
      · rename_i hcur
        simp only [Option.some.injEq] at h
        cases hy with
        | hdr _ _ _ _ _ tyb sz1 es1 hHe1 hle hon hv =>
          rw [hHe] at hHe1
          simp only [Option.some.injEq, Blk.arr.injEq] at hHe1
          obtain ⟨rfl, rfl, rfl⟩ := hHe1
          obtain ⟨g1, A, C, rfl, g3, g4, g5⟩ := hv hcur
          have hlen : ys.length = len := by rw [← h]; simp; omega
          refine ⟨by simp [Builtin.lenOf, hlen], ?_⟩
          by_cases h0 : len = 0
          · have : ys = [] := List.eq_nil_of_length_eq_zero (by omega)
            subst this
            refine ⟨#[], ?_, empty _ rfl⟩
            cases A with
            | none => simp [Builtin.firstCells]
            | some a => simp [Builtin.firstCells, loadCells, loadCellsFrom]
          · have hB := hH.blk a _ hHe
            cases hB with
            | arr0 => simp at hcur; omega
            | arr ty _ _ cb xs0 fr hz0 hb hwh hf hs hl ho hr =>
              obtain ⟨k1, _⟩ := g5 cb hb
              obtain rfl := k1 (by omega)
              have getE : ∀ i e, ys[i]? = some e → es[off + i]? = some e ∧ i < len := by
                intro i e he
                rw [← h, List.getElem?_take] at he
                split at he
                · rw [List.getElem?_drop] at he
                  exact ⟨he, by assumption⟩
                · simp at he
              obtain rfl : sz0 = sz := by
                have e0 : ys[0]? = some (ys[0]'(by omega)) := List.getElem?_eq_getElem (by omega)
                exact (hs _ (List.mem_of_getElem? (getE 0 _ e0).1)).symm.trans (hw _ (List.mem_of_getElem? e0))
              have inx : ∀ j, j < ys.length * sz0 → off * sz0 + j < xs0.size := by
                intro j hj
                have : (off + len) * sz0 ≤ es.length * sz0 := Nat.mul_le_mul_right sz0 (by omega)
                rw [Nat.add_mul] at this
                rw [hlen] at hj
                omega
              obtain ⟨xs, h1, h2, h3⟩ := loadCells_run (P := P) (w := w) (b := cb) (o := off * sz0) (n := ys.length * sz0) fun j hj => by
                exact ⟨_, by rw [heap_cell hwh]; exact Array.getElem?_eq_getElem (inx j hj)⟩
              refine ⟨xs, by simpa [Builtin.firstCells] using h1, h2, by omega, fun j v hv => ?_, hw, fun i e j v c he hc hv => ?_⟩
              · obtain ⟨hj, hcell⟩ := h3 j v hv
                rw [heap_cell hwh] at hcell
                exact ho _ _ hcell
              · obtain ⟨hj, hcell⟩ := h3 _ v hv
                rw [heap_cell hwh] at hcell
                refine hr (off + i) e j v c (getE i e he).1 hc ?_
                rwa [Nat.add_mul, Nat.add_assoc]
      · simp at h
    · simp at h
  · rename_i s
    simp only [Option.some.injEq] at h
    obtain rfl := rep_c hy rfl
    have hlen : ys.length = s.size := by rw [← h]; simp
    refine ⟨by simp [Builtin.lenOf, hlen], ?_⟩
    have hx : s.extract 0 ys.length = s := by rw [hlen]; simp
    refine ⟨s.data.map fun b => .int .u8 b.toNat, by simp [Builtin.firstCells, hx], ?_⟩
    have hsz : ∀ e, e ∈ ys → sz = 1 := by
      intro e he
      have h1 := hw e he
      rw [← h] at he
      obtain ⟨b, _, rfl⟩ := List.mem_map.1 he
      simpa [V.cells, T.cells] using h1.symm
    have hs1 : (s.data.map fun b => Value.int .u8 b.toNat).size = ys.length * sz := by
      by_cases h0 : ys = []
      · subst h0
        have : s.data.size = 0 := by simpa using hlen.symm
        simp [this]
      · obtain ⟨e, he⟩ := List.exists_mem_of_ne_nil _ h0
        rw [hsz e he, Nat.mul_one, hlen]
        simp
    refine ⟨hs1, by omega, fun j v hv => ?_, hw, fun i e j v c he hc hv => ?_⟩
    · simp only [Array.getElem?_map, Option.map_eq_some_iff] at hv
      obtain ⟨b, _, rfl⟩ := hv
      rfl
    · have h1 := hsz e (List.mem_of_getElem? he)
      subst h1
      rw [← h, List.getElem?_map, Option.map_eq_some_iff] at he
      obtain ⟨b, hb, rfl⟩ := he
      simp only [V.cells, T.cells, List.map_cons, List.map_nil] at hc
      cases j with
      | zero =>
        simp only [List.getElem?_cons_zero, Option.some.injEq] at hc
        subst hc
        simp only [Nat.mul_one, Nat.add_zero, Array.getElem?_map, Option.map_eq_some_iff] at hv
        obtain ⟨b', hb', rfl⟩ := hv
        rw [Array.getElem?_toList, hb'] at hb
        obtain rfl := by simpa using hb
        exact .t _ _ (.c _ rfl)
      | succ j => simp at hc
  · simp at h

/-! ### How large a new array is asked for -/
theorem growBy_le (n : Nat) : ∀ r c, Builtin.growBy n r c ≤ max c (n + (n + 768) / 4)
  | 0, c => by simp [Builtin.growBy]; omega
  | r + 1, c => by
    simp only [Builtin.growBy]
    split
    · omega
    · have := growBy_le n r (c + (c + 768) / 4)
      omega
theorem nextslicecap_le (n c : Nat) (h : c < n) : Builtin.nextslicecap n c ≤ 2 * n + 192 := by
  unfold Builtin.nextslicecap
  split
  · omega
  · split
    · omega
    · have := growBy_le n 4 c
      omega

theorem lenMul {n b : Nat} (hn : n ≤ 68719476736) (hb : b ≤ 512) : (2 * n + 192) * b ≤ 2 ^ 48 := by
  have : (2 * n + 192) * b ≤ (2 * 68719476736 + 192) * 512 := Nat.mul_le_mul (by omega) hb
  omega

section
variable {P : Program} {w : World} {st xt et : TypeId} {sz b : Nat} {i : TypeInfo} {z : Value} {dx : TypeDesc}

theorem append_room (hu : P.underlying st = some (.slice et)) (hx : P.underlying xt = some dx) (hxi : ∀ k, dx ≠ .int k) (hs : szT P et = some sz) {A : Option Addr} {len C n : Nat} {cy : Value} {ys : Array Value}
    (hl : (Builtin.lenOf cy).run P w = .ok n w) (hf : (Builtin.firstCells sz n cy).run P w = .ok ys w) (hC : len + n ≤ C) (w' : World)
    (hst : (match A with | some a => storeCells (a.add (len * sz)) ys.toList | none => pure () : Sem Unit).run P w = .ok () w') (ty : TypeId) :
    (Builtin.append_ #[st, xt] ty #[.slice A len C, cy]).run P w = .ok (.slice A (len + n) C) w' := by
  have hz : (∀ x, (match dx with | .int _ => true | _ => x) = x) := by
    intro x
    cases dx <;> first | rfl | exact absurd rfl (hxi _)
  have e0 : (#[st, xt] : Array TypeId)[1]? = some xt := rfl
  have e1 : (#[st, xt] : Array TypeId)[0]? = some st := rfl
  have e2 : (#[.slice A len C, cy] : Array Value)[0]? = some (.slice A len C) := rfl
  have e3 : (#[.slice A len C, cy] : Array Value)[1]? = some cy := rfl
  simp only [Builtin.append_, e0, e1, e2, e3, Sem.run_bind, r_underlying hu, r_underlying hx, r_sizeOf hs, Result.andThen_ok, Sem.run_pure, Bool.false_eq_true, if_false, hl, Bool.not_false, if_true, if_pos hC, hf]
  cases A with
  | none => simp only [Sem.run_pure, Result.ok.injEq, true_and] at hst; simp [hst]
  | some a => simp only at hst; simp [hst]

theorem append_grow (hu : P.underlying st = some (.slice et)) (hx : P.underlying xt = some dx) (hxi : ∀ k, dx ≠ .int k) (hs : szT P et = some sz) (hi : P.info? et = some i) (hiz : i.zero = some z)
    (hb : i.bytes ≤ 512) {A : Option Addr} {len C n : Nat} {cy : Value} {ys os : Array Value} (hl : (Builtin.lenOf cy).run P w = .ok n w) (hf2 : (Builtin.firstCells sz n cy).run P w.drew = .ok ys w.drew)
    (ho : (Builtin.firstCells sz len (.slice A len C)).run P w.drew = .ok os w.drew) (hC : C < len + n) (hn : len + n ≤ 68719476736) (ty : TypeId) :
    ∃ c, len + n ≤ c ∧ (Builtin.append_ #[st, xt] ty #[.slice A len C, cy]).run P w =
      .ok (.slice (some ⟨w.heap.size, 0, none⟩) (len + n) c) (w.drew.alloc (.cells (os ++ ys ++ Builtin.zeroCells z.cells (c - (len + n))) et)) := by
  have hz : (∀ x, (match dx with | .int _ => true | _ => x) = x) := by
    intro x
    cases dx <;> first | rfl | exact absurd rfl (hxi _)
  have e0 : (#[st, xt] : Array TypeId)[1]? = some xt := rfl
  have e1 : (#[st, xt] : Array TypeId)[0]? = some st := rfl
  have e2 : (#[.slice A len C, cy] : Array Value)[0]? = some (.slice A len C) := rfl
  have e3 : (#[.slice A len C, cy] : Array Value)[1]? = some cy := rfl
  have hcap : ¬ Builtin.nextslicecap (len + n) C * i.bytes > 2 ^ 48 := by
    have h1 := nextslicecap_le (len + n) C hC
    have h2 := lenMul hn hb
    have h3 : Builtin.nextslicecap (len + n) C * i.bytes ≤ (2 * (len + n) + 192) * i.bytes := Nat.mul_le_mul_right _ h1
    omega
  have hmax : ¬ (((len + n : Nat) : Int) > IntKind.i64.max ∧ (false = true ∨ i.bytes = 0)) := by
    simp [IntKind.max, IntKind.signed, IntKind.bits]
    omega
  have hforced : Question.forced (.appendCap (len + n) C et) = false := rfl
  have ti : ∀ w1 : World, (typeInfo et).run P w1 = .ok i w1 := fun w1 => r_typeInfo hi
  have zi : ∀ w1 : World, (zeroValue et).run P w1 = .ok z w1 := fun w1 => by simp [zeroValue, ti, hiz]
  refine ⟨(Question.appendCap (len + n) C et).cut (w.tape w.drawn (.appendCap (len + n) C et)), by simp [Question.cut], ?_⟩
  have dr : ({ w with drawn := w.drawn + 1 } : World) = w.drew := rfl
  have hm2 : ¬ (((len + n : Nat) : Int) > IntKind.i64.max ∧ (False ∨ i.bytes = 0)) := by simpa using hmax
  simp only [Builtin.append_, e0, e1, e2, e3, Sem.run_bind, r_underlying hu, r_underlying hx, r_sizeOf hs, Result.andThen_ok, Sem.run_pure, Bool.false_eq_true, if_false, hl, Bool.not_false, if_true,
    if_neg (show ¬ len + n ≤ C by omega), ti, hm2, hcap, run_choose, hforced, run_askRoom, dr, ho, hf2, zi, newRow, run_newObj]
  rfl
end

theorem src_drew {P : Program} {sz n : Nat} {cy : Value} {ys : Array Value} {w : World} (h : (Builtin.firstCells sz n cy).run P w = .ok ys w) : (Builtin.firstCells sz n cy).run P w.drew = .ok ys w.drew := by
  have loads : ∀ (k i : Nat) (a : Addr) (acc ys : Array Value), (loadCellsFrom a i k acc).run P w = .ok ys w → (loadCellsFrom a i k acc).run P w.drew = .ok ys w.drew := by
    intro k
    induction k with
    | zero => intro i a acc ys h; simp [loadCellsFrom] at h ⊢; exact h
    | succ k ih =>
      intro i a acc ys h
      simp only [loadCellsFrom, Sem.run_bind, run_load, World.cell?_drew] at h ⊢
      cases hc : w.cell? (a.add i) with
      | some v => simp only [hc, Result.andThen_ok] at h ⊢; exact ih _ _ _ _ h
      | none =>
        simp only [hc] at h ⊢
        have far : World.farLoad P w.drew (a.add i) (Mode.plain == .atomic) = World.farLoad P w (a.add i) (Mode.plain == .atomic) := rfl
        rw [far]
        cases hf : World.farLoad P w (a.add i) (Mode.plain == .atomic) with
        | error e => simp [hf] at h
        | ok r => simp only [hf, Result.andThen_ok] at h ⊢; exact ih _ _ _ _ h
  cases cy with
  | slice a l c =>
    cases a with
    | none => simp [Builtin.firstCells] at h ⊢; exact h
    | some a => simp only [Builtin.firstCells, loadCells] at h ⊢; exact loads _ _ _ _ _ h
  | string s => simp [Builtin.firstCells] at h ⊢; exact h
  | _ => simp [Builtin.firstCells] at h

/-- Elements laid over a row from an element on. -/
theorem Row.splice {F : Nat → Prop} {w : World} {β : Nat → Option Nat} {H : Heap} {sz : Nat} {xs zs : Array Value} {es ys : List V} (h : Row F w β H sz xs es) (g : Cells F w β H sz zs ys) {k : Nat} (hk : k ≤ es.length)
    (hle : (k + ys.length) * sz ≤ xs.size) : Row F w β H sz (putAt xs (k * sz) zs.toList) (es.take k ++ ys ++ es.drop (k + ys.length)) := by
  have hkl : (es.take k).length = k := by simp; omega
  refine ⟨?_, fun j v hj => ?_, fun e he => ?_, fun i e j v c he hc hv => ?_⟩
  · rw [putAt_size]
    by_cases hb : k + ys.length ≤ es.length
    · have : (es.take k ++ ys ++ es.drop (k + ys.length)).length = es.length := by simp; omega
      rw [this]
      exact h.size
    · have : (es.take k ++ ys ++ es.drop (k + ys.length)).length = k + ys.length := by simp; omega
      rw [this]
      exact hle
  · rw [putAt_get] at hj
    split at hj
    · exact g.row.ones _ v (by simpa using hj)
    · exact h.ones j v hj
  · simp only [List.mem_append] at he
    rcases he with (he | he) | he
    · exact h.wide e (List.mem_of_mem_take he)
    · exact g.row.wide e he
    · exact h.wide e (List.mem_of_mem_drop he)
  · rw [putAt_get] at hv
    simp only [Array.length_toList, g.size] at hv
    have hj : j < sz := by
      have : e.cells.length = sz := by
        have hmem := List.mem_of_getElem? he
        simp only [List.mem_append] at hmem
        rcases hmem with (hm | hm) | hm
        · exact h.wide e (List.mem_of_mem_take hm)
        · exact g.row.wide e hm
        · exact h.wide e (List.mem_of_mem_drop hm)
      rw [← this]
      exact (List.getElem?_eq_some_iff.1 hc).1
    by_cases h1 : i < k
    · rw [List.append_assoc, List.getElem?_append_left (by omega), List.getElem?_take, if_pos h1] at he
      have hlt := row_lt h1 hj
      rw [if_neg (by omega)] at hv
      exact h.rep i e j v c he hc hv
    · have hge : k * sz ≤ i * sz := Nat.mul_le_mul_right sz (by omega)
      by_cases h2 : i < k + ys.length
      · rw [List.append_assoc, List.getElem?_append_right (by omega), hkl, List.getElem?_append_left (by omega)] at he
        have hlt : (i - k) * sz + j < ys.length * sz := row_lt (by omega) hj
        have hsub : (i - k) * sz = i * sz - k * sz := by rw [Nat.sub_mul]
        rw [Nat.add_mul] at hle
        rw [if_pos ⟨by omega, by omega, by omega⟩] at hv
        refine g.row.rep (i - k) e j v c he hc ?_
        rw [show i * sz + j - k * sz = (i - k) * sz + j by omega] at hv
        simpa using hv
      · rw [List.getElem?_append_right (by simp; omega)] at he
        simp only [List.length_append, hkl, List.getElem?_drop] at he
        have hle2 : (k + ys.length) * sz ≤ i * sz := Nat.mul_le_mul_right sz (by omega)
        rw [Nat.add_mul] at hle2
        rw [if_neg (by omega)] at hv
        exact h.rep i e j v c (by rw [show k + ys.length + (i - (k + ys.length)) = i by omega] at he; exact he) hc hv

/-- Two rows, one behind the other. -/
theorem Row.append {F : Nat → Prop} {w : World} {β : Nat → Option Nat} {H : Heap} {sz : Nat} {xs zs rs : Array Value} {es ys : List V} (h : Cells F w β H sz xs es) (g : Cells F w β H sz zs ys)
    (ho : ∀ (j : Nat) (v : Value), rs[j]? = some v → one v = true) : Row F w β H sz (xs ++ zs ++ rs) (es ++ ys) := by
  have hs : (xs ++ zs).size = (es ++ ys).length * sz := by simp [h.size, g.size, Nat.add_mul]
  refine ⟨by rw [Array.size_append, hs]; omega, fun j v hj => ?_, fun e he => ?_, fun i e j v c he hc hv => ?_⟩
  · rw [Array.getElem?_append] at hj
    split at hj
    · rw [Array.getElem?_append] at hj
      split at hj
      · exact h.row.ones _ v hj
      · exact g.row.ones _ v hj
    · exact ho _ v hj
  · rcases List.mem_append.1 he with he | he
    · exact h.row.wide e he
    · exact g.row.wide e he
  · have hj : j < sz := by
      have : e.cells.length = sz := by
        rcases List.mem_append.1 (List.mem_of_getElem? he) with hm | hm
        · exact h.row.wide e hm
        · exact g.row.wide e hm
      rw [← this]
      exact (List.getElem?_eq_some_iff.1 hc).1
    have hi : i < (es ++ ys).length := (List.getElem?_eq_some_iff.1 he).1
    have hlt := row_lt hi hj
    rw [Array.getElem?_append, if_pos (by omega), Array.getElem?_append] at hv
    by_cases h1 : i < es.length
    · have := row_lt h1 hj
      rw [if_pos (by rw [h.size]; exact this)] at hv
      rw [List.getElem?_append_left h1] at he
      exact h.row.rep i e j v c he hc hv
    · have hge : es.length * sz ≤ i * sz := Nat.mul_le_mul_right sz (by omega)
      rw [if_neg (by rw [h.size]; omega), h.size] at hv
      rw [List.getElem?_append_right (by omega)] at he
      refine g.row.rep (i - es.length) e j v c he hc ?_
      rw [Nat.sub_mul, ← Nat.sub_add_comm hge]
      exact hv

def notInt : TypeDesc → Bool
  | .int _ => false
  | _ => true

def vAppend (P : Program) (d : Nat) (H : Heap) (st xt : TypeId) (x y : V) : Option (V × Heap) :=
  match elemT P st, P.underlying xt, srcOf H y with
  | some et, some dx, some ys => match szT P et, P.info? et with
    | some (s + 1), some i => match i.zero with
      | some z =>
        if notInt dx ∧ z.cells.size = s + 1 ∧ z.cells.all (·.oneCell') ∧ i.bytes ≤ 512 ∧ ys.all (fun e => e.cells.length = s + 1) then
          match x with
          | .nils => if ys.length ≤ 68719476736 ∧ hget H d = none then some (.hdr d 0 ys.length ys.length, (d, .arr et (s + 1) ys) :: H) else none
          | .hdr a off len cap => match hget H a with
            | some (.arr tya sz es) =>
              if sz = s + 1 ∧ off + cap = es.length ∧ len ≤ cap ∧ headU es = false then
                if len + ys.length ≤ cap then some (.hdr a off (len + ys.length) cap, hset H a (.arr tya sz (es.take (off + len) ++ ys ++ es.drop (off + len + ys.length))))
                else if off = 0 ∧ len + ys.length ≤ 68719476736 ∧ tya = et then some (.hdr a 0 (len + ys.length) (len + ys.length), hset H a (.arr tya sz (es.take len ++ ys)))
                else none
              else none
            | _ => none
          | _ => none
        else none
      | none => none
    | _, _ => none
  | _, _, _ => none

/-- A new name for a slice that has no memory yet. -/
theorem Step.name {x : Cx} {w : World} {β : Nat → Option Nat} {H : Heap} (h : HRel x w β H) (d : Nat) (hd : hget H d = none) (ty : TypeId) (sz : Nat) (hz : 0 < sz) : Step x w β H w (upd β d none) ((d, .arr ty sz []) :: H) := by
  have hne : ∀ a, hget H a ≠ none → a ≠ d := fun a ha e => ha (e ▸ hd)
  have hdom : ∀ a, hget H a ≠ none → hget ((d, .arr ty sz []) :: H) a ≠ none := fun a ha => by rw [hget_old (hne a ha)]; exact ha
  have old : ∀ a b, upd β d none a = some b → a ≠ d ∧ β a = some b := fun a b e => by
    by_cases n : a = d
    · rw [n, upd_same] at e; simp at e
    · rw [upd_other _ n] at e; exact ⟨n, e⟩
  have dom' : ∀ a, a ≠ d → hget ((d, .arr ty sz []) :: H) a ≠ none → hget H a ≠ none := fun a n ha => by rwa [hget_old n] at ha
  have M : Moves (imm x w β H) (imm x w (upd β d none) ((d, .arr ty sz []) :: H)) w w β (upd β d none) H ((d, .arr ty sz []) :: H) := by
    refine ⟨fun b hb => ⟨?_, rfl⟩, fun a C C' hC hC' => ?_⟩
    · rcases hb with hb | ⟨h1, h2, h3⟩
      · exact .inl hb
      · refine .inr ⟨h1, h2, fun a ha e => ?_⟩
        obtain ⟨n, e⟩ := old a b e
        exact h3 a (dom' a n ha) e
    · have hn := hne a (by simp [hC])
      rw [hget_old hn, hC] at hC'
      obtain rfl : C = C' := by simpa using hC'
      exact ⟨C.onto_refl, fun _ => ⟨upd_other _ hn, fun cb _ => .of_eq rfl⟩⟩
  refine ⟨M, hdom, ⟨fun a a' b ha ha' e e' => ?_, fun a b ha e => ?_, h.f0, h.bs, fun a C hC => ?_⟩, .refl _ _⟩
  · obtain ⟨n, e⟩ := old a b e
    obtain ⟨n', e'⟩ := old a' b e'
    exact h.inj a a' b (dom' a n ha) (dom' a' n' ha') e e'
  · obtain ⟨n, e⟩ := old a b e
    exact h.own a b (dom' a n ha) e
  · by_cases n : a = d
    · subst n
      rw [hget_new] at hC
      obtain rfl := by simpa using hC
      exact .arr0 ty sz hz (upd_same _ _ _)
    · rw [hget_old n] at hC
      exact (h.blk a C hC).move M (upd_other _ n) (fun _ _ => rfl) hdom

theorem zeroCells_spec {z : Value} {sz n : Nat} (hz : z.cells.size = sz) (h1 : z.cells.all (·.oneCell') = true) (hs : 0 < sz) :
    (Builtin.zeroCells z.cells n).size = n * sz ∧ ∀ (j : Nat) (v : Value), (Builtin.zeroCells z.cells n)[j]? = some v → one v = true := by
  unfold Builtin.zeroCells
  refine ⟨by simp [hz], fun j v hj => ?_⟩
  simp only [Array.getElem?_map, Option.map_eq_some_iff] at hj
  obtain ⟨k, _, rfl⟩ := hj
  have hlt : k % z.cells.size < z.cells.size := Nat.mod_lt _ (by omega)
  rw [getElem!_pos z.cells _ hlt]
  exact (Array.all_eq_true_iff_forall_mem.1 h1) _ (Array.getElem_mem hlt)

theorem vAppend_good {P : Program} {x : Cx} {w : World} {β : Nat → Option Nat} {H H' : Heap} (hH : HRel x w β H) {d : Nat} {st xt ty : TypeId} {cx cy : Value} {vx vy u : V} (hx : Rep x w β H cx vx) (hy : Rep x w β H cy vy)
    (h : vAppend P d H st xt vx vy = some (u, H')) : Good P x w β H (do pure (.value (← Builtin.append_ #[st, xt] ty #[cx, cy]))) u H' := by
  unfold vAppend at h
  split at h
  · rename_i et dx ys het hdx hsrc
    have hu := elemT_spec het
    split at h
    · rename_i s i hs hi
      have hs : szT P et = some (s + 1) := hs
      split at h
      · rename_i z hiz
        split at h
        · rename_i hc
          obtain ⟨c1, c2, c3, c4, c5⟩ := hc
          have hxi : ∀ k, dx ≠ .int k := by
            rintro k rfl
            simp [notInt] at c1
          have hwid : ∀ e, e ∈ ys → e.cells.length = s + 1 := fun e he => by simpa using (List.all_eq_true.1 c5) e he
          obtain ⟨hlen, arr, hfc, hcells⟩ := src_run hH (P := P) hy hsrc (Nat.succ_pos s) hwid
          have fin : ∀ {s0 : Sem Value} {v : Value} {w1 : World}, s0.run P w = .ok v w1 → (do pure (.value (← s0)) : Sem Next).run P w = .ok (.value v) w1 := by
            intro s0 v w1 h
            simp only [Sem.run_bind, h, Result.andThen_ok, Sem.run_pure]
          split at h
          · split at h
            · rename_i hc2
              obtain ⟨hbig, hd⟩ := hc2
              simp only [Option.some.injEq, Prod.mk.injEq] at h
              obtain ⟨rfl, rfl⟩ := h
              cases hx with
              | nils A =>
                by_cases h0 : ys = []
                · subst h0
                  have hrun := append_room (P := P) (w := w) hu hdx hxi hs (A := A) (len := 0) (C := 0) hlen hfc (Nat.le_refl _) w (by
                    have : arr.toList = [] := by
                      have := hcells.size
                      simp at this
                      simp [this]
                    cases A <;> simp [this, storeCells]) ty
                  exact ⟨w, _, _, .inl (fin hrun), Step.name hH d hd _ (s + 1) (Nat.succ_pos s),
                    .hdr _ d 0 0 0 _ (s + 1) [] hget_new (by simp) rfl fun _ => ⟨by simp, A, 0, rfl, by simp, fun _ => rfl, fun cb e => by rw [upd_same] at e; simp at e⟩⟩
                · have hpos : 0 < ys.length := List.length_pos_iff.2 h0
                  have ho : (Builtin.firstCells (s + 1) 0 (.slice A 0 0)).run P w.drew = .ok #[] w.drew := by
                    cases A with
                    | none => simp [Builtin.firstCells]
                    | some a => simp [Builtin.firstCells, loadCells, loadCellsFrom]
                  obtain ⟨c, hcge, hrun⟩ := append_grow (P := P) (w := w) hu hdx hxi hs hi hiz c4 (A := A) (len := 0) (C := 0) hlen (src_drew hfc) ho (by omega) (by omega) ty
                  rw [Nat.zero_add] at hrun hcge
                  obtain ⟨z1, z2⟩ := zeroCells_spec (n := c - ys.length) c2 c3 (Nat.succ_pos s)
                  have e0 : Cells (imm x w β H) w β H (s + 1) #[] [] := ⟨by simp, by simp, by simp, by simp, by simp⟩
                  exact Good.arr hH hd (Nat.succ_pos s) (n := ys.length) (C := c) (Row.append e0 hcells z2) (by simp) hcge (by
                    have hcc : (ys.length + (c - ys.length)) * (s + 1) = c * (s + 1) := by congr 1; omega
                    rw [Nat.add_mul] at hcc
                    have hsz := hcells.size
                    simp only [Array.size_append, z1, hsz, List.size_toArray, List.length_nil]
                    show c * (s + 1) ≤ 0 + ys.length * (s + 1) + (c - ys.length) * (s + 1)
                    omega) (.inr rfl) (fin hrun)
            · simp at h
          · rename_i a off len cap
            split at h
            · rename_i tya sz es hHe
              split at h
              · rename_i hc2
                obtain ⟨rfl, hcur, hlc, hun⟩ := hc2
                cases hx with
                | hdr _ _ _ _ _ tyb sz0 es0 hHe0 hle hon hv =>
                  rw [hHe] at hHe0
                  simp only [Option.some.injEq, Blk.arr.injEq] at hHe0
                  obtain ⟨rfl, rfl, rfl⟩ := hHe0
                  obtain ⟨_, A, C, rfl, g3, g4, g5⟩ := hv hcur
                  have hB := hH.blk a _ hHe
                  -- in its place
                  have place : ∀ (cap' : Nat), 0 < ys.length → len + ys.length ≤ C → (off + len + ys.length ≤ es.length → cap' = cap) → (es.length < off + len + ys.length → off = 0 ∧ cap' = len + ys.length) → cap' ≤ C →
                      Good P x w β H (do pure (.value (← Builtin.append_ #[st, xt] ty #[.slice A len C, cy]))) (.hdr a off (len + ys.length) cap') (hset H a (.arr tya (s + 1) (es.take (off + len) ++ ys ++ es.drop (off + len + ys.length)))) := by
                    intro cap' hpos hroom k1 k2 k3
                    cases hB with
                    | arr0 _ _ hz hb => have := g4 hb; omega
                    | arr tt _ _ cb xs fr hz hb hwh hf hss hll ho hr =>
                      obtain ⟨q1, cs, ty2, fr2, q2, q3⟩ := g5 cb hb
                      obtain rfl := q1 (by omega)
                      rw [hwh] at q2
                      simp only [Option.some.injEq, Obj.cells.injEq] at q2
                      obtain ⟨rfl, rfl, rfl⟩ := q2
                      have hfit : (off + len + ys.length) * (s + 1) ≤ xs.size := Nat.le_trans (Nat.mul_le_mul_right _ (by omega)) q3
                      have hstore : (storeCells ((⟨cb, off * (s + 1), none⟩ : Addr).add (len * (s + 1))) arr.toList).run P w = .ok () (w.setRow cb (putAt xs ((off + len) * (s + 1)) arr.toList)) := by
                        rw [addr_add]
                        have := storeCells_run (P := P) (g := cb) (o := off * (s + 1) + len * (s + 1)) arr.toList 0 xs w (hf hun) hwh (by
                          simp only [Array.length_toList, hcells.size, Nat.add_zero]
                          rw [← Nat.add_mul, ← Nat.add_mul]
                          exact hfit) (fun v hv => by
                            obtain ⟨j, hj⟩ := List.mem_iff_getElem?.1 hv
                            exact hcells.row.ones j v (by simpa using hj))
                        rw [Nat.add_zero, ← Nat.add_mul] at this
                        rw [← Nat.add_mul]
                        exact this
                      have hrun := append_room (P := P) (w := w) hu hdx hxi hs (A := some ⟨cb, off * (s + 1), none⟩) (len := len) (C := C) hlen hfc hroom _ hstore ty
                      have hown := hH.own a cb (by simp [hHe]) hb
                      have hrow : Row (imm x w β H) w β H (s + 1) xs es := ⟨hll, ho, hss, hr⟩
                      have hspl := hrow.splice hcells (k := off + len) (by omega) hfit
                      have hlen' : (es.take (off + len) ++ ys ++ es.drop (off + len + ys.length)).length = off + cap' := by
                        by_cases hb : off + len + ys.length ≤ es.length
                        · have := k1 hb; simp; omega
                        · have := k2 (by omega); simp; omega
                      have S := Step.turn hH a (.arr tya (s + 1) es) (.arr tya (s + 1) (es.take (off + len) ++ ys ++ es.drop (off + len + ys.length))) hHe (some cb) (w' := w.setRow cb (putAt xs ((off + len) * (s + 1)) arr.toList))
                        ⟨rfl, by rw [hlen']; by_cases hb : off + len + ys.length ≤ es.length
                                 · have := k1 hb; omega
                                 · have := k2 (by omega); omega⟩
                        (fun _ => ⟨hb.symm, fun cb2 _ => setRow_keepsSize hwh (putAt_size _ _ _)⟩) (.inl hb.symm) (fun k hk => by simp only [Option.some.injEq] at hk; subst hk; simpa using hown.1)
                        (setRow_kept (hown.2.2.imp id fun q => ⟨_, q⟩)) (fun k hk hne => setRow_other w cb k _ (by rintro rfl; exact hne hb)) (fun tr => hspl.repB hz tr (upd_same _ _ _) (setRow_heap w cb xs _ _ fr hwh) (fun _ => by rw [putAt_size]; exact hf hun))
                      refine ⟨_, _, _, .inl (fin hrun), S, .hdr _ a off (len + ys.length) cap' tya (s + 1) _ (hget_hset_same (by simp [hHe])) (by omega) rfl fun _ => ⟨?_, _, C, rfl, k3, fun e => by rw [upd_same] at e; simp at e, fun cb2 e => ?_⟩⟩
                      · by_cases hb : off + len + ys.length ≤ es.length
                        · have := k1 hb; omega
                        · have := k2 (by omega); omega
                      · rw [upd_same] at e
                        obtain rfl := by simpa using e
                        exact ⟨fun _ => rfl, _, _, fr, setRow_heap w cb xs _ _ fr hwh, by rw [putAt_size]; exact q3⟩
                  split at h
                  · rename_i hroom
                    simp only [Option.some.injEq, Prod.mk.injEq] at h
                    obtain ⟨rfl, rfl⟩ := h
                    by_cases h0 : ys = []
                    · subst h0
                      have harr : arr.toList = [] := by
                        have := hcells.size
                        simp at this
                        simp [this]
                      have hrun := append_room (P := P) (w := w) hu hdx hxi hs (A := A) (len := len) (C := C) hlen hfc (by simp; omega) w (by cases A <;> simp [harr, storeCells]) ty
                      have hes : es.take (off + len) ++ [] ++ es.drop (off + len + ([] : List V).length) = es := by simp
                      rw [hes]
                      have S := Step.turn hH a (.arr tya (s + 1) es) (.arr tya (s + 1) es) hHe (β a) (w' := w) (Blk.onto_refl _) (fun _ => ⟨rfl, fun cb _ => .of_eq rfl⟩) (.inl rfl)
                        (fun k hk => (hH.own a k (by simp [hHe]) hk).1) (.refl _ _) (fun _ _ _ => rfl) (fun tr => by
                          cases hB with
                          | arr0 _ _ hz hb => exact .arr0 _ _ hz (by rw [upd_same]; exact hb)
                          | arr tt _ _ cb xs fr hz hb hwh hf hss hll ho hr => exact .arr _ _ _ cb xs fr hz (by rw [upd_same]; exact hb) hwh hf hss hll ho fun i e j v c e1 e2 e3 => tr _ _ (hr i e j v c e1 e2 e3))
                      refine ⟨_, _, _, .inl (fin hrun), S, .hdr _ a off _ cap tya (s + 1) es (hget_hset_same (by simp [hHe])) hle rfl fun _ => ⟨by simpa using hroom, A, C, by simp, g3, fun e => by rw [upd_same] at e; exact g4 e, fun cb e => ?_⟩⟩
                      rw [upd_same] at e
                      exact g5 cb e
                    · exact place cap (List.length_pos_iff.2 h0) (by omega) (fun _ => rfl) (fun _ => by omega) g3
                  · rename_i hroom
                    split at h
                    · rename_i hc3
                      obtain ⟨rfl, hbig, rfl⟩ := hc3
                      simp only [Option.some.injEq, Prod.mk.injEq] at h
                      obtain ⟨rfl, rfl⟩ := h
                      have hpos : 0 < ys.length := by omega
                      by_cases hfit : len + ys.length ≤ C
                      · have := place (len + ys.length) hpos hfit (fun _ => by omega) (fun _ => ⟨rfl, rfl⟩) hfit
                        simp only [Nat.zero_add] at this
                        rw [show es.drop (len + ys.length) = [] from List.drop_eq_nil_of_le (by omega), List.append_nil] at this
                        exact this
                      · obtain ⟨os, ho1, ho2⟩ : ∃ os, (Builtin.firstCells (s + 1) len (.slice A len C)).run P w = .ok os w ∧ Cells (imm x w β H) w β H (s + 1) os (es.take len) := by
                          have hself : Rep x w β H (.slice A len C) (.hdr a 0 len cap) := .hdr _ a 0 len cap _ (s + 1) es hHe hle rfl fun _ => ⟨hlc, A, C, rfl, g3, g4, g5⟩
                          have hsrc' : srcOf H (.hdr a 0 len cap) = some (es.take len) := by simp [srcOf, hHe]; omega
                          have hwid' : ∀ e, e ∈ es.take len → e.cells.length = s + 1 := fun e he => by
                            cases hB with
                            | arr0 => simp at he
                            | arr tt _ _ cb xs fr hz hb hwh hf hss hll ho hr => exact hss e (List.mem_of_mem_take he)
                          obtain ⟨_, os, ho1, ho2⟩ := src_run hH (P := P) hself hsrc' (Nat.succ_pos s) hwid'
                          refine ⟨os, ?_, ho2⟩
                          rwa [show (es.take len).length = len by simp; omega] at ho1
                        obtain ⟨c, hcge, hrun⟩ := append_grow (P := P) (w := w) hu hdx hxi hs hi hiz c4 (A := A) (len := len) (C := C) hlen (src_drew hfc) (src_drew ho1) (by omega) hbig ty
                        obtain ⟨z1, z2⟩ := zeroCells_spec (n := c - (len + ys.length)) c2 c3 (Nat.succ_pos s)
                        have hrow := Row.append ho2 hcells z2
                        have hnew : (w.drew.alloc (.cells (os ++ arr ++ Builtin.zeroCells z.cells (c - (len + ys.length))) tya)).heap[w.heap.size]? = some (.cells (os ++ arr ++ Builtin.zeroCells z.cells (c - (len + ys.length))) tya) := alloc_new w.drew _
                        have hsize : c * (s + 1) ≤ (os ++ arr ++ Builtin.zeroCells z.cells (c - (len + ys.length))).size := by
                          simp only [Array.size_append, ho2.size, hcells.size, z1]
                          rw [← Nat.add_mul, ← Nat.add_mul]
                          exact Nat.mul_le_mul_right _ (by simp; omega)
                        have hlen2 : (es.take len ++ ys).length = len + ys.length := by simp; omega
                        have S := Step.turn hH a (.arr _ (s + 1) es) (.arr _ (s + 1) (es.take len ++ ys)) hHe (some w.heap.size) (w' := w.drew.alloc (.cells (os ++ arr ++ Builtin.zeroCells z.cells (c - (len + ys.length))) tya))
                          ⟨rfl, by omega⟩ (fun hst => by simp only [Blk.stays] at hst; omega) (.inr rfl) (fun k hk => by simp only [Option.some.injEq] at hk; subst hk; simp)
                          ⟨rfl, rfl, rfl, by simp, fun b hb _ => alloc_old w.drew _ (Nat.lt_of_lt_of_le hb hH.bs)⟩ (fun k hk _ => alloc_old w.drew _ hk) (fun tr => hrow.repB (Nat.succ_pos s) tr (upd_same _ _ _) hnew (.free (Nat.le_refl _)))
                        refine ⟨_, _, _, .inl (fin hrun), S, .hdr _ a 0 _ _ _ (s + 1) _ (hget_hset_same (by simp [hHe])) (by omega) rfl fun _ => ⟨Nat.le_refl _, _, c, rfl, hcge, fun e => by rw [upd_same] at e; simp at e, fun cb e => ?_⟩⟩
                        rw [upd_same] at e
                        obtain rfl := by simpa using e
                        exact ⟨fun _ => by simp, _, tya, (0, 0), hnew, by simpa using hsize⟩
                    · simp at h
              · simp at h
            · simp at h
          · simp at h
        · simp at h
      · simp at h
    · simp at h
  · simp at h
end Go.Vm
namespace Go.Vm

def evV (E : List (Nat × V)) : Operand → V
  | .tmp t => eget E t
  | .const v => if okAgg v then ofV v else .undef
  | .global g => vc (.pointer (some ⟨g, 0, none⟩))
  | .func f => .t (.fn (.func f) [] [])

theorem ev_rep {F : Nat → Prop} {w : World} {β : Nat → Option Nat} {H : Heap} {E : List (Nat × V)} {a : Act} (h : ∀ t, RepV F w β H (a.tmps.getD t undef) (eget E t)) (y : Operand) : RepV F w β H (a.eval y) (evV E y) := by
  cases y with
  | tmp t => exact h t
  | const v =>
    simp only [evV, Act.eval]
    split
    · rename_i hv
      exact rep_ofV v hv
    · exact .undef v
  | global g => exact .t _ _ (.c _ rfl)
  | func f => exact .t _ _ (.fn (.func f) #[] #[] [] [] rfl rfl (by simp) (by simp))

/-! ### Operations that leave the heap alone -/
def pickV (c : Bool) (a b : V) : V := if c then a else b

def uConv (P : Program) (src dst : TypeId) (x : V) : Option V :=
  match P.underlying src, P.underlying dst, cOf x with
  | some _, some (.int k), some (.int _ n) => some (vc (.int k (k.wrap n)))
  | some _, some .string, some (.string s) => some (vc (.string s))
  | _, _, _ => none

def uUn (op : UnOp) (x : V) : Option V :=
  match op, cOf x with
  | .neg, some (.int k n) => some (vc (.int k (k.wrap (0 - n))))
  | .not, some (.bool b) => some (vb (!b))
  | .xor, some (.int k n) => (intBin .xor k (if k.signed then -1 else k.max) k n).map vc
  | _, _ => none

def setCells (l : List V) (k : Nat) (vs : List V) : List V := l.take k ++ vs ++ l.drop (k + vs.length)
/-- A struct's literal: its parts laid over the zero. -/
def vFill (P : Program) (fs : List Field) : List (Nat × V) → List V → Option (List V)
  | [], cs => some cs
  | (i, v) :: r, cs => match fs[i]? with
    | some f => match szT P f.type with
      | some n => if plainV v ∧ v.cells.length = n ∧ f.offset + n ≤ cs.length then vFill P fs r (setCells cs f.offset v.cells) else none
      | none => none
    | none => none
def vBuild (P : Program) (t : TypeId) (parts : List (Nat × V)) : Option V :=
  match (P.info? t).bind (·.zero), P.underlying t with
  | some z, some (.struct fs) => if okAgg z ∧ (aggOf (ofV z)).isSome ∧ (fs.all fun f => (szT P f.type).isSome) then (vFill P fs.toList parts (ofV z).cells).map mkAgg else none
  | some z, some (.array _ e) => match szT P e with
    | some n => if okAgg z ∧ (aggOf (ofV z)).isSome then (vFill P ((List.range ((ofV z).cells.length + 1)).map fun i => { (default : Field) with type := e, offset := i * n }) parts (ofV z).cells).map mkAgg else none
    | none => none
  | _, _ => none

def vLen (P : Program) (H : Heap) (t : TypeId) (x : V) : Option V :=
  match P.underlying t with
  | some .string => (strOf x).map fun s => vi s.size
  | some (.slice _) => match x with
    | .nils => some (vi 0)
    | .t (.sl es) => some (vi es.length)
    | .hdr a off len cap => match hget H a with
      | some (.arr _ _ es) => if off + cap = es.length then some (vi len) else none
      | _ => none
    | _ => none
  | some (.map _ _) => match x with
    | .ob 0 a => match hget H a with | some (.obj 0 _ _ vs _) => some (vi vs.length) | _ => none
    | .t (.map ks _) => some (vi ks.length)
    | .t (.c (.map none)) => some (vi 0)
    | _ => none
  | _ => none

def vMinMax (isMax : Bool) : List V → Option V
  | [x] => (cOf x).bind fun v => match v with | .int _ _ => some x | _ => none
  | [x, y] => match cOf x, cOf y with
    | some (.int k a), some (.int _ b) => some (vc (.int k (if isMax then (if b > a then b else a) else (if b < a then b else a))))
    | _, _ => none
  | [x, y, z] => match cOf x, cOf y, cOf z with
    | some (.int k a), some (.int _ b), some (.int _ c) =>
      let m := if isMax then (if b > a then b else a) else (if b < a then b else a)
      some (vc (.int k (if isMax then (if c > m then c else m) else (if c < m then c else m))))
    | _, _, _ => none
  | _ => none

def isFn : V → Bool
  | .fn (.func _) _ _ | .t (.fn (.func _) _ _) => true
  | _ => false

def mkFn (f : Fn) (as bs : List V) : V := match allT as, allT bs with | some ts, some us => .t (.fn f ts us) | _, _ => .fn f as bs
def mkIface (t : TypeId) (x : V) : V := match x with | .t y => .t (.iface t y) | x => .iface t x

def fieldOk (H : Heap) (v : V) : Bool := match v with | .elt a i c m => (placeV H (.elt a i c m)).isSome | _ => true
theorem fieldOk_spec {H : Heap} {v : V} (h : fieldOk H v = true) (hv : ∃ a i c m, v = .elt a i c m) : (placeV H v).isSome = true := by
  obtain ⟨a, i, c, m, rfl⟩ := hv
  exact h

def vopN (P : Program) (E : List (Nat × V)) (H : Heap) (op : Op) : Option V :=
  match op with
  | .move x | .assign x => some (evV E x)
  | .pick c a b => (boolOf (evV E c)).map fun t => pickV t (evV E a) (evV E b)
  | .load t p => vLoad P H t (evV E p)
  | .nilCheck x => if isAddr (evV E x) || isFn (evV E x) then some (evV E x) else none
  | .binOp op t x y _ => vBin P op t (evV E x) (evV E y)
  | .unOp op _ x => uUn op (evV E x)
  | .convert src dst x => uConv P src dst (evV E x)
  | .makeInterface t x => match P.underlying t with
    | some (.interface _) => none
    | some _ => some (mkIface t (evV E x))
    | none => none
  | .makeFunc fn first cap => some (mkFn fn (first.toList.map (evV E)) (cap.toList.map (evV E)))
  | .slice t x lo hi mx => vSlice P H t (evV E x) (lo.map (evV E)) (hi.map (evV E)) (mx.map (evV E))
  | .fieldAddr s x f => if fieldOk H (evV E x) then vField P s (evV E x) f else none
  | .field t x f => vFieldOf P t (evV E x) f
  | .indexAddr t x i => vIndexAddr P H t (evV E x) (evV E i)
  | .index t x i => vIndex P t (evV E x) (evV E i)
  | .extract t i => (tupOf (evV E t)).bind fun cs => cs[i]?
  | .build t parts => vBuild P t (parts.toList.map fun p => (p.1, evV E p.2))
  | .call { callee := .builtin .len, args, argTypes } => match args.toList, argTypes.toList with
    | [x], [t] => vLen P H t (evV E x)
    | _, _ => none
  | .call { callee := .builtin .min, args, .. } => vMinMax false (args.toList.map (evV E))
  | .call { callee := .builtin .max, args, .. } => vMinMax true (args.toList.map (evV E))
  | _ => none

section
variable {P : Program} {F : Nat → Prop} {w : World} {β : Nat → Option Nat} {H : Heap}

theorem rep_mkFn {f : Fn} {as bs : Array Value} {ts us : List V} (ha : as.size = ts.length) (hb : bs.size = us.length)
    (hr : ∀ (j : Nat) (v : Value) (t : V), as[j]? = some v → ts[j]? = some t → RepV F w β H v t)
    (hs : ∀ (j : Nat) (v : Value) (t : V), bs[j]? = some v → us[j]? = some t → RepV F w β H v t) : RepV F w β H (.func f as bs) (mkFn f ts us) := by
  unfold mkFn
  split
  · rename_i x y hx hy
    obtain rfl := allT_rep hx
    obtain rfl := allT_rep hy
    refine .t _ _ (.fn f as bs x y (by simpa using ha) (by simpa using hb) (fun j v t h1 h2 => rep_t (hr j v (.t t) h1 (by simp [h2]))) fun j v t h1 h2 => rep_t (hs j v (.t t) h1 (by simp [h2])))
  · exact .fn f as bs ts us ha hb hr hs

theorem rep_mkIface {t : TypeId} {v : Value} {u : V} (h : RepV F w β H v u) : RepV F w β H (.iface t v) (mkIface t u) := by
  unfold mkIface
  split
  · exact .t _ _ (.iface t v _ (rep_t h))
  · exact .iface t v u h

theorem fill_cells {pl : Nat → Option (Nat × Nat)} {fs : List Field} (hpl : ∀ i f n, fs[i]? = some f → szT P f.type = some n → pl i = some (f.offset, n)) {l : List (Nat × Value)} {m : List (Nat × V)} (hl : RepL F w β H l m) :
    ∀ {xs : Array Value} {cs cs' : List V}, xs.size = cs.length → (∀ (j : Nat) (v : Value), xs[j]? = some v → one v = true) → (∀ (j : Nat) (v : Value) (c : V), xs[j]? = some v → cs[j]? = some c → RepV F w β H v c) →
      vFill P fs m cs = some cs' → ∃ ys, Instr.fill pl xs l = some ys ∧ ys.size = cs'.length ∧ (∀ (j : Nat) (v : Value), ys[j]? = some v → one v = true) ∧
        ∀ (j : Nat) (v : Value) (c : V), ys[j]? = some v → cs'[j]? = some c → RepV F w β H v c := by
  induction hl with
  | nil =>
    intro xs cs cs' h1 h2 h3 h
    simp only [vFill, Option.some.injEq] at h
    subst h
    exact ⟨xs, rfl, h1, h2, h3⟩
  | cons i v u l m hv _ ih =>
    intro xs cs cs' h1 h2 h3 h
    simp only [vFill] at h
    split at h
    · rename_i f hf
      split at h
      · rename_i n hn
        split at h
        · rename_i hc
          obtain ⟨c1, c2, c3⟩ := hc
          obtain ⟨p1, p2⟩ := plainV_spec c1
          obtain ⟨q1, q2, q3⟩ := rep_cells hv p1 p2
          have hsz : v.cells.size = n := by omega
          have hlen : (setCells cs f.offset u.cells).length = cs.length := by simp [setCells]; omega
          have hget : ∀ j, (setCells cs f.offset u.cells)[j]? = if f.offset ≤ j ∧ j < f.offset + n then u.cells[j - f.offset]? else cs[j]? := by
            intro j
            have htl : (cs.take f.offset).length = f.offset := by simp; omega
            unfold setCells
            by_cases g1 : j < f.offset
            · rw [if_neg (by omega), List.append_assoc, List.getElem?_append_left (by omega), List.getElem?_take, if_pos g1]
            · by_cases g2 : j < f.offset + n
              · rw [if_pos ⟨by omega, g2⟩, List.append_assoc, List.getElem?_append_right (by omega), htl, List.getElem?_append_left (by omega)]
              · rw [if_neg (by omega), List.getElem?_append_right (by simp; omega)]
                simp only [List.length_append, htl, List.getElem?_drop]
                congr 1
                omega
          obtain ⟨ys, g1, g2⟩ := ih (xs := putAt xs f.offset v.cells.toList) (cs := setCells cs f.offset u.cells) (cs' := cs') (by rw [putAt_size, hlen, h1]) (fun j y hj => by
              rw [putAt_get] at hj
              split at hj
              · exact q2 _ y (by simpa using hj)
              · exact h2 j y hj) (fun j y c hj hc => by
              rw [putAt_get] at hj
              simp only [Array.length_toList, hsz] at hj
              rw [hget] at hc
              by_cases hin : f.offset ≤ j ∧ j < f.offset + n
              · rw [if_pos hin] at hc
                rw [if_pos ⟨hin.1, hin.2, by omega⟩] at hj
                exact q3 _ y c (by simpa using hj) hc
              · rw [if_neg hin] at hc
                rw [if_neg (fun q => hin ⟨q.1, q.2.1⟩)] at hj
                exact h3 j y c hj hc) h
          refine ⟨ys, ?_, g2⟩
          simp only [Instr.fill, hpl i f n hf hn, hsz, ne_eq, not_true, decide_false, Bool.false_or, decide_eq_true_eq, gt_iff_lt]
          rw [if_neg (by omega)]
          rw [show v.cells.zipIdx.foldl (fun cs (x : Value × Nat) => match x with | (c, j) => cs.setIfInBounds (f.offset + j) c) xs = putAt xs f.offset v.cells.toList from ?_]
          · exact g1
          · rw [← Array.foldl_toList, Array.toList_zipIdx]
            exact foldl_put xs f.offset v.cells.toList 0
        · simp at h
      · simp at h
    · simp at h

theorem mapM_places (fs : List Field) (h : fs.all (fun f => (szT P f.type).isSome) = true) :
    (fs.mapM fun f => (do pure (f.offset, ← sizeOf f.type) : Sem (Nat × Nat))).run P w = .ok (fs.map fun f => (f.offset, (szT P f.type).getD 0)) w := by
  induction fs with
  | nil => rfl
  | cons f fs ih =>
    simp only [List.all_cons, Bool.and_eq_true] at h
    obtain ⟨n, hn⟩ := Option.isSome_iff_exists.1 h.1
    simp only [List.mapM_cons, Sem.run_bind, r_sizeOf hn, Result.andThen_ok, Sem.run_pure, ih h.2, List.map_cons, hn, Option.getD_some]

theorem ofV_agg {z : Value} (h : (aggOf (ofV z)).isSome = true) : ∃ cs, z = .agg cs := by
  cases z with
  | agg cs => exact ⟨cs, rfl⟩
  | slice a n c => cases n <;> cases c <;> simp [ofV, ofC, aggOf] at h
  | _ => simp [ofV, ofC, aggOf] at h

theorem vBuild_run {t : TypeId} {l : Array (Nat × Value)} {m : List (Nat × V)} {u : V} (hl : RepL F w β H l.toList m) (h : vBuild P t m = some u) : ∃ v, (Instr.build t l).run P w = .ok v w ∧ RepV F w β H v u := by
  unfold vBuild at h
  split at h
  · rename_i z fs hz hu
    obtain ⟨i, hi, hiz⟩ := Option.bind_eq_some_iff.1 hz
    split at h
    · rename_i hc
      obtain ⟨c1, c2, c3⟩ := hc
      obtain ⟨cs', hcs', rfl⟩ := Option.map_eq_some_iff.1 h
      obtain ⟨zs, rfl⟩ := ofV_agg c2
      obtain ⟨za, hza⟩ := Option.isSome_iff_exists.1 c2
      obtain ⟨vs, hv, h1, h2, h3⟩ := rep_agg (rep_ofV (F := F) (w := w) (β := β) (H := H) (.agg zs) c1) hza
      obtain rfl : zs = vs := by simpa using hv
      rw [aggOf_cells hza] at hcs'
      obtain ⟨ys, g1, g2, g3, g4⟩ := fill_cells (pl := ((fs.toList.map fun f => (f.offset, (szT P f.type).getD 0)).toArray[·]?)) (fs := fs.toList) (fun i f n hf hn => by
        simp only [List.getElem?_toArray, List.getElem?_map, hf, Option.map_some, hn, Option.getD_some]) hl h1 h2 h3 hcs'
      refine ⟨.agg ys, ?_, rep_mkAgg g2 g3 g4⟩
      simp only [Instr.build, Sem.run_bind, zeroValue, r_typeInfo hi, hiz, Result.andThen_ok, Sem.run_pure, r_underlying hu, Value.cells]
      rw [Array.mapM_eq_mapM_toList]
      simp only [Sem.run_map, mapM_places (P := P) (w := w) fs.toList (by simpa using c3), Result.andThen_ok, g1, Sem.run_pure]
    · simp at h
  · rename_i z len e hz hu
    obtain ⟨i, hi, hiz⟩ := Option.bind_eq_some_iff.1 hz
    split at h
    · rename_i n hn
      split at h
      · rename_i hc
        obtain ⟨c1, c2⟩ := hc
        obtain ⟨cs', hcs', rfl⟩ := Option.map_eq_some_iff.1 h
        obtain ⟨zs, rfl⟩ := ofV_agg c2
        obtain ⟨za, hza⟩ := Option.isSome_iff_exists.1 c2
        obtain ⟨vs, hv, h1, h2, h3⟩ := rep_agg (rep_ofV (F := F) (w := w) (β := β) (H := H) (.agg zs) c1) hza
        obtain rfl : zs = vs := by simpa using hv
        obtain ⟨ys, g1, g2, g3, g4⟩ := fill_cells (pl := fun i => some (i * n, n)) (fun i f m hf hm => by
          simp only [List.getElem?_map, Option.map_eq_some_iff] at hf
          obtain ⟨k, hk, rfl⟩ := hf
          have hk' : k = i := by
            have := (List.getElem?_eq_some_iff.1 hk)
            obtain ⟨hlt, heq⟩ := this
            simpa using heq.symm
          subst hk'
          simp only at hm
          rw [hn] at hm
          simp only [Option.some.injEq] at hm
          subst hm
          rfl) hl (by rw [aggOf_cells hza]; exact h1) h2 (by rw [aggOf_cells hza]; exact h3) hcs'
        refine ⟨.agg ys, ?_, rep_mkAgg g2 g3 g4⟩
        simp only [Instr.build, Sem.run_bind, zeroValue, r_typeInfo hi, hiz, Result.andThen_ok, Sem.run_pure, r_underlying hu, Value.cells, r_sizeOf hn, g1]
      · simp at h
    · simp at h
  · simp at h

theorem vLen_run {x : Cx} {t ty : TypeId} {cx : Value} {vx u : V} (hH : HRel x w β H) (hx : Rep x w β H cx vx) (h : vLen P H t vx = some u) : ∃ v, (Builtin.len_ #[t] ty #[cx]).run P w = .ok v w ∧ Rep x w β H v u := by
  have ci : ∀ n : Nat, Rep x w β H (goInt n) (vi n) := fun n => .t _ _ (.c _ rfl)
  have e0 : (#[t] : Array TypeId)[0]? = some t := rfl
  have e1 : (#[cx] : Array Value)[0]? = some cx := rfl
  unfold vLen at h
  split at h
  · rename_i hu
    obtain ⟨s, hs, rfl⟩ := Option.map_eq_some_iff.1 h
    obtain rfl := strOf_rep hx hs
    exact ⟨_, by simp [Builtin.len_, r_underlying hu], ci s.size⟩
  · rename_i e hu
    split at h
    · simp only [Option.some.injEq] at h
      subst h
      cases hx with
      | nils A => exact ⟨_, by simp [Builtin.len_, r_underlying hu], ci 0⟩
    · simp only [Option.some.injEq] at h
      subst h
      cases hx with
      | t _ _ hx =>
        cases hx with
        | sl A len cap sz es g hl hc hz hm ho hr => exact ⟨_, by simp [Builtin.len_, r_underlying hu, hl], ci _⟩
    · split at h
      · rename_i hHe
        split at h
        · rename_i hcur
          simp only [Option.some.injEq] at h
          subst h
          cases hx with
          | hdr _ _ _ _ _ tyb sz es hHe0 hle ho hv =>
            rw [hHe] at hHe0
            simp only [Option.some.injEq, Blk.arr.injEq] at hHe0
            obtain ⟨rfl, rfl, rfl⟩ := hHe0
            obtain ⟨_, A, C, rfl, _⟩ := hv hcur
            exact ⟨_, by simp [Builtin.len_, r_underlying hu], ci _⟩
        · simp at h
      · simp at h
    · simp at h
  · rename_i kt et hu
    split at h
    · split at h
      · rename_i ns ks vs cs hHe
        simp only [Option.some.injEq] at h
        subst h
        cases hx with
        | ob v _ a r _ _ _ _ hHe0 hb hvv =>
          have hvv' : cx = Value.map (some r) := hvv
          subst hvv'
          have hB := hH.blk _ _ hHe
          cases hB with
          | obj _ _ _ _ _ r' xs o hb' hw ho hl hr =>
            rw [hb] at hb'
            obtain rfl := by simpa using hb'
            refine ⟨_, ?_, ci vs.length⟩
            obtain ⟨clk, bs, hes, rfl⟩ := objOf_map ho
            simp only [Builtin.len_, e0, e1, Sem.run_bind, r_underlying hu, Result.andThen_ok]
            rw [← hl, ← hes]
            simp [getObj, Sem.run, hw]
      · simp at h
    · simp only [Option.some.injEq] at h
      subst h
      cases hx with
      | t _ _ hx =>
        cases hx with
        | map r es clock ks vs hF hw hk hv he hr =>
          refine ⟨_, ?_, ci _⟩
          simp only [Builtin.len_, e0, e1, Sem.run_bind, r_underlying hu, Result.andThen_ok]
          rw [← hk]
          simp [getObj, Sem.run, hw]
    · simp only [Option.some.injEq] at h
      subst h
      obtain rfl := rep_c hx rfl
      exact ⟨_, by simp [Builtin.len_, r_underlying hu], ci 0⟩
    · simp at h
  · simp at h

theorem vMinMax_run {m : Bool} {ts : Array TypeId} {ty : TypeId} {vs : Array Value} {us : List V} {u : V} (hl : vs.size = us.length) (hr : ∀ (j : Nat) (v : Value) (c : V), vs[j]? = some v → us[j]? = some c → RepV F w β H v c)
    (h : vMinMax m us = some u) : ∃ v, (if m then Builtin.max_ ts ty vs else Builtin.min_ ts ty vs).run P w = .ok v w ∧ RepV F w β H v u := by
  unfold vMinMax at h
  split at h
  · rename_i x
    obtain ⟨c, hc, h⟩ := Option.bind_eq_some_iff.1 h
    split at h
    · rename_i k n
      simp only [Option.some.injEq] at h
      subst h
      obtain ⟨v, rfl⟩ : ∃ v, vs = #[v] := ⟨vs[0]'(by simp at hl; omega), by apply Array.ext <;> simp_all⟩
      have hv := hr 0 v x rfl rfl
      obtain rfl := rep_c hv hc
      exact ⟨_, by cases m <;> simp [Builtin.max_, Builtin.min_], hv⟩
    · simp at h
  · rename_i x y
    split at h
    · rename_i k a k' b ha hb
      simp only [Option.some.injEq] at h
      subst h
      obtain ⟨v, v', rfl⟩ : ∃ v v', vs = #[v, v'] := by
        have h2 : vs.size = 2 := by simpa using hl
        refine ⟨vs[0]'(by omega), vs[1]'(by omega), ?_⟩
        apply Array.ext
        · simp [h2]
        · intro i h1 h3
          rcases i with _ | _ | i
          · rfl
          · rfl
          · omega
      obtain rfl := rep_c (hr 0 v x rfl rfl) ha
      obtain rfl := rep_c (hr 1 v' y rfl rfl) hb
      refine ⟨_, ?_, .t _ _ (.c _ rfl)⟩
      cases m <;> simp [Builtin.max_, Builtin.min_, Builtin.max2, Builtin.min2]
    · simp at h
  · rename_i x y z
    split at h
    · rename_i k a k' b k'' c ha hb hcc
      simp only [Option.some.injEq] at h
      subst h
      obtain ⟨v, v', v'', rfl⟩ : ∃ v v' v'', vs = #[v, v', v''] := by
        have h2 : vs.size = 3 := by simpa using hl
        refine ⟨vs[0]'(by omega), vs[1]'(by omega), vs[2]'(by omega), ?_⟩
        apply Array.ext
        · simp [h2]
        · intro i h1 h3
          rcases i with _ | _ | _ | i
          · rfl
          · rfl
          · rfl
          · omega
      obtain rfl := rep_c (hr 0 v x rfl rfl) ha
      obtain rfl := rep_c (hr 1 v' y rfl rfl) hb
      obtain rfl := rep_c (hr 2 v'' z rfl rfl) hcc
      refine ⟨_, ?_, .t _ _ (.c _ rfl)⟩
      cases m <;> simp [Builtin.max_, Builtin.min_, Builtin.max2, Builtin.min2]
    · simp at h
  · simp at h
end

theorem map_rep {F : Nat → Prop} {w : World} {β : Nat → Option Nat} {H : Heap} {a : Act} {E : List (Nat × V)} (hE : ∀ y, RepV F w β H (a.eval y) (evV E y)) (xs : Array Operand) :
    (xs.map a.eval).size = (xs.toList.map (evV E)).length ∧ ∀ (j : Nat) (v : Value) (c : V), (xs.map a.eval)[j]? = some v → (xs.toList.map (evV E))[j]? = some c → RepV F w β H v c := by
  refine ⟨by simp, fun j v c h1 h2 => ?_⟩
  simp only [Array.getElem?_map, Option.map_eq_some_iff] at h1
  obtain ⟨y, hy, rfl⟩ := h1
  simp only [List.getElem?_map, Array.getElem?_toList, hy, Option.map_some, Option.some.injEq] at h2
  subst h2
  exact hE y
theorem parts_rep {F : Nat → Prop} {w : World} {β : Nat → Option Nat} {H : Heap} {a : Act} {E : List (Nat × V)} (hE : ∀ y, RepV F w β H (a.eval y) (evV E y)) :
    ∀ xs : List (Nat × Operand), RepL F w β H (xs.map fun p => (p.1, a.eval p.2)) (xs.map fun p => (p.1, evV E p.2))
  | [] => .nil
  | p :: r => .cons p.1 _ _ _ _ (hE p.2) (parts_rep hE r)
theorem opt_rep {F : Nat → Prop} {w : World} {β : Nat → Option Nat} {H : Heap} {a : Act} {E : List (Nat × V)} (hE : ∀ y, RepV F w β H (a.eval y) (evV E y)) (o : Option Operand) : RepO F w β H (o.map a.eval) (o.map (evV E)) := by
  cases o with
  | none => exact .none
  | some y => exact .some _ _ (hE y)

/-- What an operation that leaves the heap alone comes to. -/
theorem vopN_run {P : Program} {x : Cx} {w : World} {β : Nat → Option Nat} {H : Heap} {a : Act} {E : List (Nat × V)} (hH : HRel x w β H) (hE : ∀ y, Rep x w β H (a.eval y) (evV E y)) {o : Oper} {u : V}
    (h : vopN P E H o.op = some u) : Good P x w β H (execOp a.eval o) u H := by
  unfold vopN at h
  split at h
  all_goals rename_i hop
  · simp only [Option.some.injEq] at h
    subst h
    exact ⟨w, β, _, .inl (by simp [execOp, hop]), .refl hH, hE _⟩
  · simp only [Option.some.injEq] at h
    subst h
    exact ⟨w, β, _, .inl (by simp [execOp, hop]), .refl hH, hE _⟩
  · obtain ⟨t, ht, rfl⟩ := Option.map_eq_some_iff.1 h
    have hc := boolOf_rep (hE _) ht
    rename_i c1 a1 b1
    refine ⟨w, β, if t then a.eval a1 else a.eval b1, .inl (by simp [execOp, hop, hc, asBool]), .refl hH, ?_⟩
    cases t
    · exact hE _
    · exact hE _
  · simp only [execOp, hop]
    exact vLoad_good hH (hE _) h
  · split at h
    · rename_i hc
      simp only [Option.some.injEq] at h
      subst h
      rw [Bool.or_eq_true] at hc
      rcases hc with hc | hc
      · obtain ⟨p, hp⟩ := isAddr_rep (hE _) hc
        exact ⟨w, β, _, .inl (by simp only [execOp, hop, hp]; rfl), .refl hH, by rw [← hp]; exact hE _⟩
      · rename_i y
        obtain ⟨f, as, bs, hf⟩ : ∃ f as bs, a.eval y = .func (.func f) as bs := by
          have := hE y
          generalize evV E y = q at hc this
          generalize a.eval y = r at this
          cases this with
          | t v t h =>
            cases h with
            | fn f as bs ts us => cases f <;> first | exact ⟨_, _, _, rfl⟩ | simp [isFn] at hc
            | _ => simp [isFn] at hc
          | fn f as bs ts us => cases f <;> first | exact ⟨_, _, _, rfl⟩ | simp [isFn] at hc
          | _ => simp [isFn] at hc
        exact ⟨w, β, _, .inl (by simp only [execOp, hop, hf]; rfl), .refl hH, by rw [← hf]; exact hE _⟩
    · simp at h
  · rename_i x1 y1 yt
    obtain ⟨v, h1, h2⟩ := vBin_run (w := w) h x1 y1 (hE _) (hE _)
    refine ⟨w, β, v, .inl ?_, .refl hH, h2⟩
    simp only [execOp, hop, Sem.run_bind] at h1 ⊢
    simp [h1]
  · rename_i op ty y
    unfold uUn at h
    split at h
    all_goals first
      | (rename_i hc
         simp only [Option.some.injEq] at h
         subst h
         have hv := rep_c (hE _) hc
         exact ⟨w, β, _, .inl (by simp [execOp, hop, hv, Op.unary, Op.intArith]), .refl hH, .t _ _ (.c _ rfl)⟩)
      | (rename_i k n hc
         have hv := rep_c (hE _) hc
         simp only [intBin, if_true, Option.map_some, Option.some.injEq] at h
         subst h
         exact ⟨w, β, _, .inl (by simp [execOp, hop, hv, Op.unary, Op.intBits]), .refl hH, .t _ _ (.c _ rfl)⟩)
      | simp at h
  · unfold uConv at h
    split at h
    · rename_i d k k' n h1 h2 hc
      simp only [Option.some.injEq] at h
      subst h
      have hv := rep_c (hE _) hc
      refine ⟨w, β, _, .inl ?_, .refl hH, .t _ _ (.c (.int k (k.wrap n)) rfl)⟩
      simp only [execOp, hop, hv, convert, Sem.run_bind, r_underlying h1, r_underlying h2, Result.andThen_ok, Conv.intToInt]
      rfl
    · rename_i d s h1 h2 hc
      simp only [Option.some.injEq] at h
      subst h
      have hv := rep_c (hE _) hc
      refine ⟨w, β, _, .inl ?_, .refl hH, .t _ _ (.c (.string s) rfl)⟩
      simp only [execOp, hop, hv, convert, Sem.run_bind, r_underlying h1, r_underlying h2, Result.andThen_ok]
      cases d <;> rfl
    · simp at h
  · split at h
    · simp at h
    · rename_i d hni hd
      simp only [Option.some.injEq] at h
      subst h
      refine ⟨w, β, _, .inl ?_, .refl hH, rep_mkIface (hE _)⟩
      simp only [execOp, hop, Instr.makeInterface, Sem.run_bind, r_underlying hd, Result.andThen_ok]
      cases d <;> first | rfl | exact absurd hd (hni _)
    · simp at h
  · simp only [Option.some.injEq] at h
    subst h
    rename_i fn first cap
    obtain ⟨l1, r1⟩ := map_rep hE first
    obtain ⟨l2, r2⟩ := map_rep hE cap
    exact ⟨w, β, _, .inl (by simp only [execOp, hop, Instr.makeFunc]; rfl), .refl hH, rep_mkFn l1 l2 r1 r2⟩
  · simp only [execOp, hop]
    exact vSlice_good hH (hE _) (opt_rep hE _) (opt_rep hE _) (opt_rep hE _) h
  · split at h
    · rename_i hq
      simp only [execOp, hop]
      exact vField_good hH (hE _) h (fieldOk_spec hq)
    · simp at h
  · simp only [execOp, hop]
    exact vFieldOf_good hH (hE _) h
  · simp only [execOp, hop]
    exact vIndexAddr_good hH (hE _) (hE _) h
  · simp only [execOp, hop]
    exact vIndex_good hH (hE _) (hE _) h
  · obtain ⟨cs, hcs, hi⟩ := Option.bind_eq_some_iff.1 h
    obtain ⟨vs, hv, h1, h2⟩ := rep_tup (hE _) hcs
    rename_i y i
    have hlt : i < cs.length := (List.getElem?_eq_some_iff.1 hi).1
    have hvi : vs[i]? = some (vs[i]'(by omega)) := Array.getElem?_eq_getElem (by omega)
    exact ⟨w, β, _, .inl (by simp only [execOp, hop, hv, Instr.extract, hvi]; rfl), .refl hH, h2 i _ u hvi hi⟩
  · rename_i t parts
    obtain ⟨v, h1, h2⟩ := vBuild_run (w := w) (l := parts.map fun p => (p.1, a.eval p.2)) (by rw [Array.toList_map]; exact parts_rep hE parts.toList) h
    refine ⟨w, β, v, .inl ?_, .refl hH, h2⟩
    simp only [execOp, hop, Sem.run_bind]
    rw [h1]
    rfl
  · rename_i args argTypes
    split at h
    · rename_i y t hy ht
      obtain ⟨v, h1, h2⟩ := vLen_run (ty := o.type) hH (hE y) h
      have ea : args = #[y] := by apply Array.ext'; simpa using hy
      have et : argTypes = #[t] := by apply Array.ext'; simpa using ht
      subst ea et
      refine ⟨w, β, v, .inl ?_, .refl hH, h2⟩
      simp only [execOp, hop, resolve, Sem.run_bind, Sem.run_pure, Result.andThen_ok, invoke, builtin]
      simp only [List.map_toArray, List.map_cons, List.map_nil, h1, Result.andThen_ok]
    · simp at h
  · rename_i args argTypes
    obtain ⟨l1, r1⟩ := map_rep hE args
    obtain ⟨v, h1, h2⟩ := vMinMax_run (P := P) (w := w) (m := false) (ts := argTypes) (ty := o.type) l1 r1 h
    refine ⟨w, β, v, .inl ?_, .refl hH, h2⟩
    simp only [Bool.false_eq_true, if_false] at h1
    simp only [execOp, hop, resolve, Sem.run_bind, Sem.run_pure, Result.andThen_ok, invoke, builtin, h1]
  · rename_i args argTypes
    obtain ⟨l1, r1⟩ := map_rep hE args
    obtain ⟨v, h1, h2⟩ := vMinMax_run (P := P) (w := w) (m := true) (ts := argTypes) (ty := o.type) l1 r1 h
    refine ⟨w, β, v, .inl ?_, .refl hH, h2⟩
    simp only [if_true] at h1
    simp only [execOp, hop, resolve, Sem.run_bind, Sem.run_pure, Result.andThen_ok, invoke, builtin, h1]
  · simp at h

/-! ### Operations that turn the heap -/
def vopE (P : Program) (E : List (Nat × V)) (H : Heap) (d : Nat) (op : Op) : Option (V × Heap) :=
  match op with
  | .alloc t => vAlloc P d H t
  | .box t x => vBox d H t (evV E x)
  | .store t p x => (vStore P H t (evV E p) (evV E x)).map fun H' => (.undef, H')
  | .buildSlice t len parts => vBuildSlice P d H t len (parts.toList.map fun p => (p.1, evV E p.2))
  | .makeSlice t l c => vMake P d H t (evV E l) (evV E c)
  | .call { callee := .builtin .append, args, argTypes } => match args.toList, argTypes.toList with
    | [x, y], [st, xt] => vAppend P d H st xt (evV E x) (evV E y)
    | _, _ => none
  | _ => none

theorem vopE_run {P : Program} {x : Cx} {w : World} {β : Nat → Option Nat} {H H' : Heap} {a : Act} {E : List (Nat × V)} (hH : HRel x w β H) (hE : ∀ y, Rep x w β H (a.eval y) (evV E y)) {o : Oper} {d : Nat} {u : V}
    (h : vopE P E H d o.op = some (u, H')) : Good P x w β H (execOp a.eval o) u H' := by
  unfold vopE at h
  split at h
  all_goals rename_i hop
  · simp only [execOp, hop]
    exact vAlloc_good hH h
  · simp only [execOp, hop]
    exact vBox_good hH (hE _) h
  · obtain ⟨H1, h1, heq⟩ := Option.map_eq_some_iff.1 h
    simp only [Prod.mk.injEq] at heq
    obtain ⟨rfl, rfl⟩ := heq
    obtain ⟨w', hr, S⟩ := vStore_step hH (hE _) (hE _) h1
    exact ⟨w', β, undef, .inr ⟨by simp only [execOp, hop, Sem.run_bind, hr, Result.andThen_ok, Sem.run_pure], rfl⟩, S, .undef _⟩
  · rename_i t len parts
    simp only [execOp, hop]
    exact vBuildSlice_good hH (by rw [Array.toList_map]; exact parts_rep hE parts.toList) h
  · simp only [execOp, hop]
    exact vMake_good hH (hE _) (hE _) h
  · rename_i args argTypes
    split at h
    · rename_i y z st xt hy ht
      have ea : args = #[y, z] := by apply Array.ext'; simpa using hy
      have et : argTypes = #[st, xt] := by apply Array.ext'; simpa using ht
      subst ea et
      have := vAppend_good (ty := o.type) hH (hE y) (hE z) h
      obtain ⟨w', β', v, h1, h2, h3⟩ := this
      refine ⟨w', β', v, ?_, h2, h3⟩
      simpa [execOp, hop, resolve, invoke, builtin] using h1
    · simp at h
  · simp at h
end Go.Vm
namespace Go.Vm

def skipV : V := .t (.tup [])
def whenV (g : Bool) (u : V) : V := if g then u else skipV
theorem rep_skip {F : Nat → Prop} {w : World} {β : Nat → Option Nat} {H : Heap} : RepV F w β H undef skipV := .t _ _ (.tup #[] [] rfl (by simp))

def wantedV (want : Bool) : V → Option Bool
  | .t (.c (.bool b)) => some (b == want)
  | .t (.tup []) => some false
  | _ => none
def guardB (ops : Array Oper) (E : List (Nat × V)) (o : Oper) : Option Bool :=
  match o.guard with
  | none => some true
  | some (j, want) => match (ops[j]?).bind (·.dst) with
    | some d => wantedV want (eget E d)
    | none => none

theorem guard_run {F : Nat → Prop} {w : World} {β : Nat → Option Nat} {H : Heap} {a : Act} {E : List (Nat × V)} (hE : ∀ t, RepV F w β H (a.tmps.getD t undef) (eget E t)) {ops : Array Oper} {o : Oper} {g : Bool}
    (h : guardB ops E o = some g) : Region.wanted o (yielded ops a.tmps) = g := by
  unfold guardB at h
  unfold Region.wanted
  split at h
  · rename_i hg
    simp only [hg]
    simpa using h
  · rename_i j want hg
    simp only [hg]
    split at h
    · rename_i d hd
      have he := hE d
      simp only [yielded, hd, Option.bind_some]
      unfold wantedV at h
      split at h
      · rename_i b hb
        rw [hb] at he
        have hv := rep_c he rfl
        have hs : a.tmps[d]? = some (.bool b) := by
          rw [Array.getD_eq_getD_getElem?] at hv
          cases hq : a.tmps[d]? with
          | none => rw [hq] at hv; simp [undef] at hv
          | some v => rw [hq] at hv; simpa using hv
        simp only [hs]
        simpa using h
      · rename_i hb
        rw [hb] at he
        simp only [Option.some.injEq] at h
        subst h
        have hv : a.tmps.getD d undef = .tuple #[] := by
          generalize a.tmps.getD d undef = q at he
          cases he with
          | t _ _ he =>
            cases he with
            | tup vs ts hl hr =>
              have : vs = #[] := by simpa using hl
              rw [this]
        cases hq : a.tmps[d]? with
        | none => simp
        | some v =>
          rw [Array.getD_eq_getD_getElem?, hq] at hv
          simp only [Option.getD_some] at hv
          subst hv
          simp
      · simp at h
    · simp at h

def setD (σ : St) (dst : Option Nat) (u : V) : Option St :=
  match dst with
  | none => some σ
  | some d => if d < σ.n then some { σ with env := eset σ.env d u } else none

def fnOf : V → Option (FuncId × List V × List V)
  | .t (.fn (.func f) ts us) => some (f, ts.map V.t, us.map V.t)
  | .fn (.func f) as bs => some (f, as, bs)
  | _ => none

def callable (P : Program) (f : FuncId) : Bool :=
  match P.funcs[f]? with
  | some fn => fn.body.isSome && !(fn.name == "runtime.NumGoroutine")
  | none => false

/-- A call that comes back, from a state to a state. -/
def CallTo (P : Program) (σ : St) (f : FuncId) (vs : List V) (dst : Option Nat) (σ' : St) : Prop :=
  callable P f = true ∧ ∀ x w0 β a w (cargs : Array Value), Sim x w0 β σ a w → cargs.size = vs.length →
    (∀ (j : Nat) (v : Value) (u : V), cargs[j]? = some v → vs[j]? = some u → Rep x w β σ.hp v u) →
    Calls P f cargs w fun e w' => ∃ v β', e = .returned v ∧ Sim x w0 β' σ' (a.put dst v) w'

def callArgs (E : List (Nat × V)) (y : Operand) (args : Array Operand) : Option (FuncId × List V) :=
  match fnOf (evV E y) with
  | some (f, as, bs) => some (f, as ++ args.toList.map (evV E) ++ bs)
  | none => none

def skipTo (σ : St) (dst : Option Nat) (K : St → Prop) : Prop := match setD σ dst skipV with | some σ' => K σ' | none => False

def stepW (P : Program) (ops : Array Oper) (o : Oper) (σ : St) (K : St → Prop) : Prop :=
  match guardB ops σ.env o with
  | none => False
  | some g =>
    match o.op with
    | .call { callee := .value y, args, .. } => match callArgs σ.env y args with
      | some (f, vs) => (g = true → ∃ σ', CallTo P σ f vs o.dst σ' ∧ K σ') ∧ (g = false → skipTo σ o.dst K)
      | none => g = false ∧ skipTo σ o.dst K
    | op => match vopN P σ.env σ.hp op with
      | some u => match setD σ o.dst (whenV g u) with | some σ' => K σ' | none => False
      | none => match g with
        | false => skipTo σ o.dst K
        | true => match vopE P σ.env σ.hp (o.dst.getD 0) op with
          | some (u, H') => match setD { σ with hp := H' } o.dst u with | some σ' => K σ' | none => False
          | none => False

def wpO (P : Program) (ops : Array Oper) : List Oper → St → (St → Prop) → Prop
  | [], σ, K => K σ
  | o :: os, σ, K => stepW P ops o σ fun σ' => wpO P ops os σ' K

theorem Sim.ev {x : Cx} {w0 : Start} {w : World} {β : Nat → Option Nat} {σ : St} {a : Act} (h : Sim x w0 β σ a w) (y : Operand) : Rep x w β σ.hp (a.eval y) (evV σ.env y) := ev_rep h.env y

/-- A slot may be written, or none. -/
theorem Sim.setD {x : Cx} {w0 : Start} {w w' : World} {β β' : Nat → Option Nat} {σ σ' : St} {a : Act} (h : Sim x w0 β σ a w) {H' : Heap} (S : Step x w β σ.hp w' β' H') {dst : Option Nat} {v : Value} {u : V} (hv : Rep x w' β' H' v u)
    (hs : setD { σ with hp := H' } dst u = some σ') : Sim x w0 β' σ' (a.put dst v) w' := by
  unfold Vm.setD at hs
  split at hs
  · simp only [Option.some.injEq] at hs
    subst hs
    exact h.only S
  · rename_i d
    split at hs
    · rename_i hd
      simp only [Option.some.injEq] at hs
      subst hs
      exact h.put S d hd hv
    · simp at hs

theorem upon_good {P : Program} {x : Cx} {w0 : Start} {w : World} {β : Nat → Option Nat} {σ σ' : St} {a : Act} {o : Oper} {next : Act → World → Prop} {Q : Exit → Act → World → Prop} {u : V} {H' : Heap}
    (h : Sim x w0 β σ a w) (hg : Good P x w β σ.hp (execOp a.eval o) u H') (hs : setD { σ with hp := H' } o.dst u = some σ')
    (hn : ∀ a' w' β', Sim x w0 β' σ' a' w' → next a' w') : o.wp P a w next Q := by
  obtain ⟨w', β', v, hr, S, hv⟩ := hg
  unfold Oper.wp
  rcases hr with hr | ⟨hr, rfl⟩
  · rw [hr]
    exact hn _ _ _ (h.setD S hv hs)
  · rw [hr]
    exact hn _ _ _ (h.setD S hv hs)

theorem skip_sim {x : Cx} {w0 : Start} {w : World} {β : Nat → Option Nat} {σ : St} {a : Act} {dst : Option Nat} {K : St → Prop} (h : Sim x w0 β σ a w) (hs : skipTo σ dst K) : ∃ σ', K σ' ∧ Sim x w0 β σ' (a.put dst undef) w := by
  unfold skipTo at hs
  split at hs
  · rename_i σ' hσ
    exact ⟨σ', hs, h.setD (.refl h.heap) rep_skip hσ⟩
  · exact hs.elim

theorem fnOf_rep {F : Nat → Prop} {w : World} {β : Nat → Option Nat} {H : Heap} {v : Value} {u : V} {f : FuncId} {as bs : List V} (h : RepV F w β H v u) (hf : fnOf u = some (f, as, bs)) :
    ∃ xs ys, v = .func (.func f) xs ys ∧ xs.size = as.length ∧ ys.size = bs.length ∧ (∀ (j : Nat) (v : Value) (t : V), xs[j]? = some v → as[j]? = some t → RepV F w β H v t) ∧
      ∀ (j : Nat) (v : Value) (t : V), ys[j]? = some v → bs[j]? = some t → RepV F w β H v t := by
  unfold fnOf at hf
  split at hf
  · simp only [Option.some.injEq, Prod.mk.injEq] at hf
    obtain ⟨rfl, rfl, rfl⟩ := hf
    cases h with
    | t _ _ h =>
      cases h with
      | fn _ xs ys ts us ha hb hr hs =>
        refine ⟨xs, ys, rfl, by simpa using ha, by simpa using hb, fun j v t h1 h2 => ?_, fun j v t h1 h2 => ?_⟩
        · simp only [List.getElem?_map, Option.map_eq_some_iff] at h2
          obtain ⟨t', h2, rfl⟩ := h2
          exact .t _ _ (hr j v t' h1 h2)
        · simp only [List.getElem?_map, Option.map_eq_some_iff] at h2
          obtain ⟨t', h2, rfl⟩ := h2
          exact .t _ _ (hs j v t' h1 h2)
  · simp only [Option.some.injEq, Prod.mk.injEq] at hf
    obtain ⟨rfl, rfl, rfl⟩ := hf
    cases h with
    | fn _ xs ys ts us ha hb hr hs => exact ⟨xs, ys, rfl, ha, hb, hr, hs⟩
  · simp at hf

theorem append_rep {R : Value → V → Prop} {xs ys : Array Value} {as bs : List V} (ha : xs.size = as.length) (hb : ys.size = bs.length)
    (h1 : ∀ (j : Nat) (v : Value) (t : V), xs[j]? = some v → as[j]? = some t → R v t) (h2 : ∀ (j : Nat) (v : Value) (t : V), ys[j]? = some v → bs[j]? = some t → R v t) :
    (xs ++ ys).size = (as ++ bs).length ∧ ∀ (j : Nat) (v : Value) (t : V), (xs ++ ys)[j]? = some v → (as ++ bs)[j]? = some t → R v t := by
  refine ⟨by simp [ha, hb], fun j v t e1 e2 => ?_⟩
  rw [Array.getElem?_append] at e1
  split at e1
  · rw [List.getElem?_append_left (by omega)] at e2
    exact h1 j v t e1 e2
  · rw [List.getElem?_append_right (by omega)] at e2
    rw [ha] at e1
    exact h2 _ v t e1 e2

theorem exec_call {P : Program} {x : Cx} {w0 : Start} {w : World} {β : Nat → Option Nat} {σ : St} {a : Act} (h : Sim x w0 β σ a w) {o : Oper} {y : Operand} {args : Array Operand} {ts : Array TypeId} (ho : o.op = .call { callee := .value y, args, argTypes := ts })
    {f : FuncId} {vs : List V} (hc : callArgs σ.env y args = some (f, vs)) (hf : callable P f = true) :
    ∃ cargs : Array Value, (execOp a.eval o).run P w = .ok (.enter f cargs) w ∧ cargs.size = vs.length ∧ ∀ (j : Nat) (v : Value) (u : V), cargs[j]? = some v → vs[j]? = some u → Rep x w β σ.hp v u := by
  unfold callArgs at hc
  split at hc
  · rename_i f' as bs hfn
    simp only [Option.some.injEq, Prod.mk.injEq] at hc
    obtain ⟨rfl, rfl⟩ := hc
    obtain ⟨xs, ys, hv, ha, hb, hr, hs⟩ := fnOf_rep (h.ev y) hfn
    obtain ⟨l1, r1⟩ := map_rep (fun y => h.ev y) args
    obtain ⟨l2, r2⟩ := append_rep ha l1 hr r1
    obtain ⟨l3, r3⟩ := append_rep l2 hb r2 hs
    refine ⟨xs ++ args.map a.eval ++ ys, ?_, l3, r3⟩
    unfold callable at hf
    split at hf
    · rename_i fn hfun
      simp only [Bool.and_eq_true, Bool.not_eq_true'] at hf
      obtain ⟨hf1, hf2⟩ := hf
      have hf3 : fn.body.isNone = false := by cases hb : fn.body <;> simp_all
      simp only [execOp, ho, resolve, hv, Sem.run_bind, Deferred.ofValue, Sem.run_pure, Result.andThen_ok, invoke, callFunc, run_program, hfun, hf2, hf3, Bool.false_eq_true, if_false]
    · simp at hf
  · simp at hc

theorem step_sound {P : Program} {ops : Array Oper} {o : Oper} {σ : St} {K : St → Prop} {x : Cx} {w0 : Start} {w : World} {β : Nat → Option Nat} {a : Act} {i : Nat} {rest : List Nat} {Q : Exit → Act → World → Prop} (hi : ops[i]? = some o)
    (h : stepW P ops o σ K) (hs : Sim x w0 β σ a w) (hn : ∀ σ' β' a' w', K σ' → Sim x w0 β' σ' a' w' → wpOps P ops Q rest a' w') : wpOps P ops Q (i :: rest) a w := by
  unfold stepW at h
  split at h
  · exact h.elim
  · rename_i g hg
    have hw := guard_run hs.env hg
    simp only [wpOps, hi, hw]
    split at h
    · rename_i y args ts hop
      split at h
      · rename_i f vs hc
        obtain ⟨h1, h2⟩ := h
        cases g with
        | false =>
          simp only [Bool.false_eq_true, if_false]
          obtain ⟨σ', hK, hS⟩ := skip_sim hs (h2 rfl)
          exact hn _ _ _ _ hK hS
        | true =>
          obtain ⟨σ', ⟨hf, hcall⟩, hK⟩ := h1 rfl
          obtain ⟨cargs, hr, hl, hrep⟩ := exec_call hs hop hc hf
          simp only [if_true]
          left
          unfold Oper.wp
          rw [hr]
          refine (hcall x w0 β a w cargs hs hl hrep).mono fun e w' q => ?_
          obtain ⟨v, β', rfl, hS⟩ := q
          exact hn _ _ _ _ hK hS
      · obtain ⟨rfl, h2⟩ := h
        simp only [Bool.false_eq_true, if_false]
        obtain ⟨σ', hK, hS⟩ := skip_sim hs h2
        exact hn _ _ _ _ hK hS
    · split at h
      · rename_i op hne u hu
        split at h
        · rename_i σ' hσ
          cases g with
          | false =>
            simp only [Bool.false_eq_true, if_false]
            simp only [whenV, Bool.false_eq_true, if_false] at hσ
            exact hn _ _ _ _ h (hs.setD (.refl hs.heap) rep_skip hσ)
          | true =>
            simp only [if_true]
            left
            simp only [whenV, if_true] at hσ
            exact upon_good hs (vopN_run hs.heap (fun y => hs.ev y) hu) hσ fun a' w' β' hS => hn _ _ _ _ h hS
        · exact h.elim
      · split at h
        · simp only [Bool.false_eq_true, if_false]
          obtain ⟨σ', hK, hS⟩ := skip_sim hs h
          exact hn _ _ _ _ hK hS
        · simp only [if_true]
          left
          split at h
          · rename_i u H' hu
            split at h
            · rename_i σ' hσ
              exact upon_good hs (vopE_run hs.heap (fun y => hs.ev y) hu) hσ fun a' w' β' hS => hn _ _ _ _ h hS
            · exact h.elim
          · exact h.elim

inductive Out where
  | norm
  | exit (id : Nat)
  | ret
  deriving DecidableEq

def post (x : Cx) (w0 : Start) (K : Out → St → Prop) : Exit → Act → World → Prop
  | .normal, a, w => ∃ σ β, K .norm σ ∧ Sim x w0 β σ a w
  | .exit id, a, w => ∃ σ β, K (.exit id) σ ∧ Sim x w0 β σ a w
  | .ret, a, w => ∃ σ β, K .ret σ ∧ Sim x w0 β σ a w
  | _, _, _ => False

theorem wpO_sound {P : Program} {ops : Array Oper} {x : Cx} {w0 : Start} {K : Out → St → Prop} : ∀ (os : List Oper) (l : List Nat), l.map (ops[·]?) = os.map some → ∀ {σ : St} {β : Nat → Option Nat} {a : Act} {w : World},
    wpO P ops os σ (K .norm) → Sim x w0 β σ a w → wpOps P ops (post x w0 K) l a w
  | [], l, hl, σ, β, a, w, h, hs => by
    obtain rfl : l = [] := by simpa using hl
    exact ⟨σ, β, h, hs⟩
  | o :: os, l, hl, σ, β, a, w, h, hs => by
    cases l with
    | nil => simp at hl
    | cons i l =>
      simp only [List.map_cons, List.cons.injEq] at hl
      exact step_sound hl.1 h hs fun σ' β' a' w' hK hS => wpO_sound os l hl.2 hK hS

/-- One state tells no more than another. -/
def Wk (σ σ' : St) : Prop := ∀ x w0 β a w, Sim x w0 β σ a w → ∃ β', Sim x w0 β' σ' a w
theorem Wk.refl (σ : St) : Wk σ σ := fun _ _ β _ _ h => ⟨β, h⟩
theorem Wk.trans {a b c : St} (h : Wk a b) (k : Wk b c) : Wk a c := fun x w0 β s w q => let ⟨β1, q1⟩ := h x w0 β s w q; k x w0 β1 s w q1

def outThen (K : St → Prop) (K' : Out → St → Prop) : Out → St → Prop
  | .norm, σ => K σ
  | o, σ => K' o σ
def outBlock (id : Nat) (K : Out → St → Prop) : Out → St → Prop
  | .exit i, σ => if i = id then K .norm σ else K (.exit i) σ
  | o, σ => K o σ

/-- At most k rounds of a loop. -/
def rounds (T : St → (Out → St → Prop) → Prop) (K : Out → St → Prop) : Nat → St → Prop
  | 0, _ => False
  | k + 1, σ => ∃ σ', Wk σ σ' ∧ T σ' (outThen (rounds T K k) K)

/-- Regions whose order is open are told apart (see below). -/
def wpR (P : Program) (ops : Array Oper) (draw : Bool) (D : Array Oper → St → (St → Prop) → Prop) (σ : St) (K : St → Prop) : Prop :=
  if draw then D ops σ K else wpO P ops ops.toList σ K

def awp (P : Program) (D : Array Oper → St → (St → Prop) → Prop) : Code → St → (Out → St → Prop) → Prop
  | .skip, σ, K => K .norm σ
  | .region _ ops draw, σ, K => wpR P ops draw D σ (K .norm)
  | .seq p q, σ, K => awp P D p σ (outThen (fun σ' => awp P D q σ' K) K)
  | .cond c p q, σ, K => match boolOf (evV σ.env c) with
    | some t => (t = true → awp P D p σ K) ∧ (t = false → awp P D q σ K)
    | none => False
  | .block id p, σ, K => awp P D p σ (outBlock id K)
  | .loop p, σ, K => ∃ k, rounds (awp P D p) K k σ
  | .exit id, σ, K => K (.exit id) σ
  | .ret, σ, K => K .ret σ
  | _, _, _ => False

/-- What is asked of the rule for a region whose order is open. -/
def DrawOk (P : Program) (D : Array Oper → St → (St → Prop) → Prop) : Prop :=
  ∀ id ops σ (K : Out → St → Prop) x w0 β a w, D ops σ (K .norm) → Sim x w0 β σ a w → (Code.region id ops true).wp P (post x w0 K) a w

theorem awp_sound {P : Program} {D : Array Oper → St → (St → Prop) → Prop} (hD : DrawOk P D) (c : Code) : ∀ {σ : St} {K : Out → St → Prop} {x : Cx} {w0 : Start} {β : Nat → Option Nat} {a : Act} {w : World},
    awp P D c σ K → Sim x w0 β σ a w → c.wp P (post x w0 K) a w := by
  induction c with
  | skip => intro σ K x w0 β a w h hs; exact wp_skip ⟨σ, β, h, hs⟩
  | region id ops draw =>
    intro σ K x w0 β a w h hs
    cases draw with
    | true =>
      simp only [awp, wpR, if_true] at h
      exact hD id ops σ K x w0 β a w h hs
    | false =>
      simp only [awp, wpR, Bool.false_eq_true, if_false] at h
      refine wp_region (wpO_sound ops.toList _ ?_ h hs)
      apply List.ext_getElem?
      intro i
      simp only [List.getElem?_map]
      by_cases hi : i < ops.size
      · rw [List.getElem?_range hi]
        simp [hi]
      · rw [List.getElem?_eq_none (by simpa using hi), List.getElem?_eq_none (by simpa using hi)]
        rfl
  | seq p q ihp ihq =>
    intro σ K x w0 β a w h hs
    refine wp_seq (wp_mono (ihp h hs) fun e a' w' he => ?_)
    cases e with
    | normal => obtain ⟨σ', β', hK, hS⟩ := he; exact ihq hK hS
    | exit id => exact he
    | ret => exact he
    | _ => exact he.elim
  | cond c p q ihp ihq =>
    intro σ K x w0 β a w h hs
    simp only [awp] at h
    split at h
    · rename_i t ht
      have hv := boolOf_rep (hs.ev c) ht
      exact wp_cond_split hv (fun e => ihp (h.1 e) hs) (fun e => ihq (h.2 e) hs)
    · exact h.elim
  | block id p ih =>
    intro σ K x w0 β a w h hs
    refine wp_block (wp_mono (ih h hs) fun e a' w' he => ?_)
    cases e with
    | normal => exact he
    | exit i =>
      obtain ⟨σ', β', hK, hS⟩ := he
      simp only [outBlock] at hK
      simp only [Exit.inBlock]
      by_cases hi : i = id
      · rw [if_pos hi] at hK ⊢
        exact ⟨σ', β', hK, hS⟩
      · rw [if_neg hi] at hK ⊢
        exact ⟨σ', β', hK, hS⟩
    | ret => exact he
    | _ => exact he.elim
  | loop p ih =>
    intro σ K x w0 β a w h hs
    obtain ⟨k, hk⟩ := h
    refine wp_loop_rounds k ?_
    induction k generalizing σ β a w with
    | zero => exact hk.elim
    | succ k ihk =>
      obtain ⟨σ1, hwk, hT⟩ := hk
      obtain ⟨β1, hs1⟩ := hwk x w0 β a w hs
      rw [rounds_succ]
      refine wp_mono (ih hT hs1) fun e a' w' he => ?_
      cases e with
      | normal => obtain ⟨σ', β', hK, hS⟩ := he; exact ihk hS hK
      | exit i => exact he
      | ret => exact he
      | _ => exact he.elim
  | exit id => intro σ K x w0 β a w h hs; exact wp_exit ⟨σ, β, h, hs⟩
  | ret => intro σ K x w0 β a w h hs; exact wp_ret ⟨σ, β, h, hs⟩
  | _ => intro σ K x w0 β a w h hs; exact h.elim
end Go.Vm
namespace Go.Vm

/-- 'f', called with these, on blocks that are handed over with it, comes back with this. -/
def SCon (P : Program) (f : FuncId) (args : List V) (H : Heap) (r : V) (H' : Heap) : Prop :=
  callable P f = true ∧ ∀ (x : Cx) (β : Nat → Option Nat) (w : World) (cargs : Array Value), x.base = w.heap.size → (∀ n b, x.own0 b n → hget H n ≠ none) → HRel x w β H → cargs.size = args.length →
    (∀ (j : Nat) (v : Value) (u : V), cargs[j]? = some v → args[j]? = some u → Rep x w β H v u) →
    Calls P f cargs w fun e w' => ∃ v β', e = .returned v ∧ Step x w β H w' β' H' ∧ Rep x w' β' H' v r

def envOf : Nat → List V → List (Nat × V)
  | _, [] => []
  | k, v :: r => (k, v) :: envOf (k + 1) r
theorem eget_envOf (l : List V) (k t : Nat) : eget (envOf k l) t = if k ≤ t then (l[t - k]?).getD .undef else .undef := by
  induction l generalizing k with
  | nil => simp [envOf, eget]
  | cons v r ih =>
    simp only [envOf, eget, ih]
    by_cases h : t = k
    · subst h; simp
    · rw [if_neg h]
      by_cases h2 : k ≤ t
      · rw [if_pos (by omega), if_pos h2, show t - k = (t - (k + 1)) + 1 by omega, List.getElem?_cons_succ]
      · rw [if_neg (by omega), if_neg h2]

def initSt (n : Nat) (args : List V) (H : Heap) : St := { n := max args.length n, env := envOf 0 args, hp := H, pr := H.map (·.1) }

theorem hget_mem {H : Heap} {a : Nat} (h : hget H a ≠ none) : a ∈ H.map (·.1) := by
  induction H with
  | nil => exact absurd rfl h
  | cons p r ih =>
    obtain ⟨k, b⟩ := p
    by_cases e : a = k
    · simp [e]
    · simp only [hget, if_neg e] at h
      simp [ih h]

def resV (P : Program) (σ : St) : List ResultVar → Option (List V)
  | [] => some []
  | .tmp t :: r => (resV P σ r).map (eget σ.env t :: ·)
  | .cell a t :: r => match vLoad P σ.hp t (eget σ.env a), resV P σ r with
    | some u, some us => some (u :: us)
    | _, _ => none
def retV (P : Program) (fn : Func) (σ : St) : Option V :=
  match resV P σ fn.results.toList with
  | some [u] => some u
  | some us => some (mkTup us)
  | none => none

def resOne (tmps : Array Value) : ResultVar → Sem Value
  | .tmp t => pure (tmps.getD t undef)
  | .cell p t => do loadVar t (← asAddr (tmps.getD p undef))
theorem results_eq (fn : Func) (tmps : Array Value) : results fn tmps = (do let vs ← fn.results.mapM (resOne tmps); pure (if h : vs.size = 1 then vs[0] else .tuple vs)) := by
  have : resOne tmps = (fun | .tmp t => pure (tmps.getD t undef) | .cell a t => do loadVar t (← asAddr (tmps.getD a undef))) := by
    funext r
    cases r <;> rfl
  unfold results
  rw [this]
  rfl

theorem resV_run {P : Program} {x : Cx} {w0 : Start} {w : World} {β : Nat → Option Nat} {σ : St} {a : Act} (hs : Sim x w0 β σ a w) : ∀ {l : List ResultVar} {us : List V}, resV P σ l = some us →
    ∃ vs : List Value, (l.mapM (resOne a.tmps)).run P w = .ok vs w ∧ vs.length = us.length ∧
      ∀ (j : Nat) (v : Value) (u : V), vs[j]? = some v → us[j]? = some u → Rep x w β σ.hp v u
  | [], us, h => by
    simp only [resV, Option.some.injEq] at h
    subst h
    exact ⟨[], rfl, rfl, by simp⟩
  | .tmp t :: r, us, h => by
    obtain ⟨us', hr, rfl⟩ := Option.map_eq_some_iff.1 h
    obtain ⟨vs, h1, h2, h3⟩ := resV_run hs hr
    refine ⟨a.tmps.getD t undef :: vs, by simp only [List.mapM_cons, resOne, Sem.run_bind, Sem.run_pure, Result.andThen_ok, h1], by simp [h2], fun j v u e1 e2 => ?_⟩
    cases j with
    | zero =>
      simp only [List.getElem?_cons_zero, Option.some.injEq] at e1 e2
      subst e1 e2
      exact hs.env t
    | succ j => exact h3 j v u (by simpa using e1) (by simpa using e2)
  | .cell p t :: r, us, h => by
    simp only [resV] at h
    split at h
    · rename_i u us' hu hr
      simp only [Option.some.injEq] at h
      subst h
      obtain ⟨vs, h1, h2, h3⟩ := resV_run hs hr
      unfold vLoad at hu
      split at hu
      · rename_i e c ag n hp ha hn
        obtain ⟨b, o, hv, hm⟩ := place_rep hs.heap (hs.env p) hp
        obtain ⟨v', g1, g2⟩ := getP_run (P := P) hm hu ha hn
        refine ⟨v' :: vs, by simp only [List.mapM_cons, resOne, Sem.run_bind, hv, asAddr, Sem.run_pure, g1, Result.andThen_ok, h1], by simp [h2], fun j v u e1 e2 => ?_⟩
        cases j with
        | zero =>
          simp only [List.getElem?_cons_zero, Option.some.injEq] at e1 e2
          subst e1 e2
          exact g2
        | succ j => exact h3 j v u (by simpa using e1) (by simpa using e2)
      · simp at hu
    · simp at h

theorem retV_run {P : Program} {x : Cx} {w0 : Start} {w : World} {β : Nat → Option Nat} {σ : St} {a : Act} (hs : Sim x w0 β σ a w) {fn : Func} {u : V} (h : retV P fn σ = some u) :
    ∃ v, (results fn a.tmps).run P w = .ok v w ∧ Rep x w β σ.hp v u := by
  unfold retV at h
  have run : ∀ vs : List Value, (fn.results.toList.mapM (resOne a.tmps)).run P w = .ok vs w →
      (results fn a.tmps).run P w = .ok (if h : vs.toArray.size = 1 then vs.toArray[0] else .tuple vs.toArray) w := by
    intro vs hv
    rw [results_eq]
    simp only [Sem.run_bind]
    rw [Array.mapM_eq_mapM_toList]
    simp only [Sem.run_map, hv, Result.andThen_ok, Sem.run_pure]
  split at h
  · rename_i u' hu
    simp only [Option.some.injEq] at h
    subst h
    obtain ⟨vs, h1, h2, h3⟩ := resV_run hs hu
    obtain ⟨v, rfl⟩ : ∃ v, vs = [v] := by
      cases vs with
      | nil => simp at h2
      | cons v r => cases r with
        | nil => exact ⟨v, rfl⟩
        | cons _ _ => simp at h2
    exact ⟨v, run _ h1, h3 0 v u' rfl rfl⟩
  · rename_i us hne hu
    simp only [Option.some.injEq] at h
    subst h
    obtain ⟨vs, h1, h2, h3⟩ := resV_run hs hu
    refine ⟨.tuple vs.toArray, ?_, rep_mkTup (by simpa using h2) fun j v c e1 e2 => h3 j v c (by simpa using e1) e2⟩
    rw [run _ h1, dif_neg]
    intro hl
    cases us with
    | nil => simp at h2; simp [h2] at hl
    | cons u r => cases r with
      | nil => exact hne u rfl
      | cons _ _ => simp at h2 hl; omega
  · simp at h

/-- The state in which a call ends tells what it hands back, and what has become of its heap. -/
def RetTo (P : Program) (fn : Func) (r : V) (H' : Heap) (σ : St) : Prop :=
  ∃ σ', Wk σ σ' ∧ retV P fn σ' = some r ∧ σ'.hp = H'

theorem scon_intro {P : Program} {D : Array Oper → St → (St → Prop) → Prop} (hD : DrawOk P D) {f : FuncId} {fn : Func} {c : Code} {args : List V} {H : Heap} {r : V} {H' : Heap} (hf : P.funcs[f]? = some fn) (hb : fn.body = some c)
    (hc : callable P f = true) (h : awp P D c (initSt fn.ntmps args H) fun o σ => (o = .ret ∨ o = .norm) ∧ RetTo P fn r H' σ) : SCon P f args H r H' := by
  refine ⟨hc, fun x β w cargs hbase hnm hH hl hrep => ?_⟩
  refine calls_of_wp hf hb ?_
  have hs : Sim x ⟨w, β, H⟩ β (initSt fn.ntmps args H) { tmps := cargs ++ Array.replicate (fn.ntmps - cargs.size) undef, defers := [] } w := by
    refine ⟨.refl hH, fun t => ?_, by simp [initSt]; omega, rfl, fun n hn => hget_mem (hn.elim (fun ⟨b, q⟩ => hnm n b q) id)⟩
    simp only [initSt, eget_envOf, Nat.zero_le, if_true, Nat.sub_zero]
    by_cases ht : t < cargs.size
    · have e1 : cargs[t]? = some cargs[t] := Array.getElem?_eq_getElem ht
      have e2 : args[t]? = some (args[t]'(by omega)) := List.getElem?_eq_getElem (by omega)
      rw [e2, Option.getD_some]
      have : (cargs ++ Array.replicate (fn.ntmps - cargs.size) undef).getD t undef = cargs[t] := by
        rw [Array.getD_eq_getD_getElem?, Array.getElem?_append_left ht, e1]
        rfl
      rw [this]
      exact hrep t _ _ e1 e2
    · rw [List.getElem?_eq_none (by omega)]
      exact .undef _
  refine wp_mono (awp_sound hD c h hs) fun e a' w' he => ?_
  have fin : ∀ {σ : St} {β' : Nat → Option Nat}, RetTo P fn r H' σ → Sim x ⟨w, β, H⟩ β' σ a' w' → a'.defers = [] ∧ ∃ v, (results fn a'.tmps).run P w' = .ok v w' ∧ ∃ v' β', Ending.returned v = .returned v' ∧ Step x w β H w' β' H' ∧ Rep x w' β' H' v' r := by
    rintro σ β' ⟨σ', hwk, hr, rfl⟩ hS
    obtain ⟨β'', hS'⟩ := hwk _ _ _ _ _ hS
    obtain ⟨v, h1, h2⟩ := retV_run hS' hr
    exact ⟨hS'.defs, v, h1, v, β'', rfl, hS'.start, h2⟩
  cases e with
  | normal =>
    obtain ⟨σ, β', ⟨_, hr⟩, hS⟩ := he
    exact fin hr hS
  | ret =>
    obtain ⟨σ, β', ⟨_, hr⟩, hS⟩ := he
    exact fin hr hS
  | exit id =>
    obtain ⟨σ, β', ⟨ho, _⟩, hS⟩ := he
    simp at ho
  | _ => exact he.elim

/-! ### Calls whose arguments are trees -/
theorem kept_world {x y : Cx} {w w' : World} {β : Nat → Option Nat} {H : Heap} (hH : HRel y w β H) (hx : x.base = w.heap.size) (ho : ∀ b a, ¬ x.own0 b a) (hk : Kept x w w') : Step y w β H w' β H := by
  have same : ∀ b, b < w.heap.size → w'.heap[b]? = w.heap[b]? := fun b hb => hk.block b (by omega) (ho b)
  have M : Moves (imm y w β H) (imm y w' β H) w w' β β H H := by
    refine ⟨fun b hb => ⟨?_, same b (hH.imm_lt hb)⟩, fun a B B' h h' => ?_⟩
    · rcases hb with hb | ⟨h1, h2, h3⟩
      · exact .inl hb
      · exact .inr ⟨h1, Nat.lt_of_lt_of_le h2 hk.size, h3⟩
    · rw [h] at h'
      obtain rfl := by simpa using h'
      exact ⟨B.onto_refl, fun _ => ⟨rfl, fun cb e => .of_eq (same cb (hH.own a cb (by simp [h]) e).1)⟩⟩
  refine ⟨M, fun _ h => h, ⟨hH.inj, fun a b ha e => ?_, hH.f0, Nat.le_trans hH.bs hk.size, fun a B hB => (hH.blk a B hB).move M rfl (fun cb e => same cb (hH.own a cb (by simp [hB]) e).1) fun _ h => h⟩,
    ⟨hk.os, hk.tape, hk.output, hk.size, fun b hb _ => same b (Nat.lt_of_lt_of_le hb hH.bs)⟩⟩
  obtain ⟨h1, h2, h3⟩ := hH.own a b ha e
  exact ⟨Nat.lt_of_lt_of_le h1 hk.size, h2, h3⟩

/-- The context of a call that is handed trees. -/
def cxOf (F : Nat → Prop) (w : World) : Cx := { F0 := F, base := w.heap.size, own0 := fun _ _ => False }
theorem hrel_nil {F : Nat → Prop} {w : World} (hF : ∀ b, F b → b < w.heap.size) (β : Nat → Option Nat) : HRel (cxOf F w) w β [] :=
  ⟨fun _ _ _ h => absurd rfl h, fun _ _ h => absurd rfl h, hF, Nat.le_refl _, fun _ _ h => by simp [hget] at h⟩

theorem imm_cxOf {F : Nat → Prop} {w w' : World} {β : Nat → Option Nat} {b : Nat} (h : imm (cxOf F w) w' β [] b) : F b ∨ (w.heap.size ≤ b ∧ b < w'.heap.size) := by
  rcases h with h | h
  · exact .inl h
  · exact .inr ⟨h.1, h.2.1⟩

theorem callTo_tree {P : Program} {f : FuncId} {ts : List T} {t : T} {σ σ' : St} {vs : List V} {dst : Option Nat} (hc : SCon P f (ts.map V.t) [] (.t t) []) (hv : vs = ts.map V.t) (hs : setD σ dst (.t t) = some σ') :
    CallTo P σ f vs dst σ' := by
  obtain ⟨h1, h2⟩ := hc
  refine ⟨h1, fun x w0 β a w cargs hS hl hrep => ?_⟩
  subst hv
  refine (h2 (cxOf (imm x w β σ.hp) w) β w cargs rfl (fun _ _ h => h.elim) (hrel_nil (fun b hb => hS.heap.imm_lt hb) β) hl fun j v u e1 e2 => ?_).mono fun e w' q => ?_
  · have := hrep j v u e1 e2
    simp only [List.getElem?_map, Option.map_eq_some_iff] at e2
    obtain ⟨t, _, rfl⟩ := e2
    refine .t _ _ ((rep_t this).mono (fun b hb => .inl hb) fun _ _ => rfl)
  · obtain ⟨v, β', rfl, hst, hv⟩ := q
    have S := kept_world hS.heap rfl (fun _ _ h => h) hst.kept
    refine ⟨v, β, rfl, hS.setD S (.t _ _ ((rep_t hv).mono (fun b hb => ?_) fun _ _ => rfl)) hs⟩
    rcases imm_cxOf hb with hb | ⟨g1, g2⟩
    · exact (S.moves.imm b hb).1
    · refine .inr ⟨Nat.le_trans hS.heap.bs g1, g2, fun a ha e => ?_⟩
      have := (hS.heap.own a b ha e).1
      omega

/-! ### Lending: own blocks are shown, as trees, to a call that hands back nothing of them -/
mutual
/-- It leads nowhere: scalars alone. -/
def T.mf : T → Bool
  | .c _ => true
  | .agg cs => T.mfs cs
  | .tup cs => T.mfs cs
  | _ => false
def T.mfs : List T → Bool
  | [] => true
  | x :: r => T.mf x && T.mfs r
end
theorem T.mfs_all (cs : List T) : T.mfs cs = cs.all T.mf := by
  induction cs with
  | nil => simp [T.mfs]
  | cons x r ih => simp [T.mfs, ih]
theorem T.mf_agg (cs : List T) : (T.agg cs).mf = cs.all T.mf := by simp [T.mf, T.mfs_all]
theorem T.mf_tup (cs : List T) : (T.tup cs).mf = cs.all T.mf := by simp [T.mf, T.mfs_all]

theorem mf_any {F F' : Nat → Prop} {w w' : World} {v : Value} {t : T} (h : RepT F w v t) (hm : t.mf = true) : RepT F' w' v t := by
  induction h with
  | c v h => exact .c v h
  | agg vs cs hl ho _ ih =>
    rw [T.mf_agg] at hm
    exact .agg vs cs hl ho fun j v t h1 h2 => ih j v t h1 h2 ((List.all_eq_true.1 hm) t (List.mem_of_getElem? h2))
  | tup vs cs hl _ ih =>
    rw [T.mf_tup] at hm
    exact .tup vs cs hl fun j v t h1 h2 => ih j v t h1 h2 ((List.all_eq_true.1 hm) t (List.mem_of_getElem? h2))
  | _ => simp [T.mf] at hm

def toT : Nat → Heap → V → Option T
  | 0, _, _ => none
  | n + 1, H, u => match u with
    | .t t => some t
    | .nils => some (.sl [])
    | .ref a c => match hget H a with
      | some (.var _ e) => (toT n H e).map fun t => .ptr t c
      | _ => none
    | .hdr a off len cap => match hget H a with
      | some (.arr _ _ es) => if off + cap = es.length then (((es.drop off).take len).mapM (toT n H)).map .sl else none
      | _ => none
    | .agg cs => (cs.mapM (toT n H)).map .agg
    | .tup cs => (cs.mapM (toT n H)).map .tup
    | .fn f as bs => match as.mapM (toT n H), bs.mapM (toT n H) with
      | some ts, some us => some (.fn f ts us)
      | _, _ => none
    | .iface t v => (toT n H v).map (.iface t)
    | .ob 0 a => match hget H a with
      | some (.obj 0 _ ks vs _) => (vs.mapM (toT n H)).map (.map ks)
      | _ => none
    | _ => none
end Go.Vm
