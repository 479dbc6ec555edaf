/- Maps with keys of any kind: what is stored, and ranging over them. No program in sight. -/
import Derived.Test.YtjiojpoiocdnmaaGreatU2
import Derived.Maps.RangeRun
import Derived.MapKept
import Derived.RangeFuncOwn
import Derived.WideKeyEntry
set_option linter.unusedSimpArgs false
set_option linter.unusedVariables false
namespace Go.Proofs.YtjiojpoiocdnmaaGreat
open Go.RowKit Go.ChangeMaps
set_option linter.unusedSectionVars false
/-- What a kind of keys must keep. -/
structure KeyC (P : Program) (kt : TypeId) {κ : Type} (enc : κ → Value) (ok : World → κ → Prop) : Prop where
 chk : ∀ (e : Bool) (a : κ) (w : World), (Instr.checkKey e 10000 kt (enc a)).run P w = .ok () w
 find : ∀ (a : κ) (es : List MapEntry) (w : World), ok w a → (∀ e ∈ es, ∃ b, e.key = enc b ∧ ok w b) →
  ((Instr.findKey kt (enc a) es).run P w = .ok none w ∧ ∀ e ∈ es, e.key ≠ enc a) ∨ ∃ j e0, (Instr.findKey kt (enc a) es).run P w = .ok (some (j, e0.val)) w ∧ es[j]? = some e0 ∧ e0.key = enc a
 stays : ∀ (a : κ) (w : World), (Instr.keyThatStays (enc a) (enc a)).run P w = .ok (enc a) w
 inj : ∀ a b, enc a = enc b → a = b
/-- Keys that are found by asking for equality one after the other. -/
theorem find_asking {P : Program} {kt : TypeId} {κ : Type} {enc : κ → Value} {ok : World → κ → Prop} (heq : ∀ (a b : κ) (w : World), ok w a → ok w b → ∃ r : Bool, (Op.equal kt (enc a) (enc b)).run P w = .ok r w ∧ (r = true ↔ enc b = enc a)) (a : κ) (w : World) (ha : ok w a) :
  ∀ (es : List MapEntry) (i : Nat), (∀ e ∈ es, ∃ b, e.key = enc b ∧ ok w b) →
  ((Instr.findAsking kt (enc a) es i).run P w = .ok none w ∧ ∀ e ∈ es, e.key ≠ enc a) ∨ ∃ j e0, (Instr.findAsking kt (enc a) es i).run P w = .ok (some (i + j, e0.val)) w ∧ es[j]? = some e0 ∧ e0.key = enc a
 | [], i, _ => .inl ⟨rfl, by simp⟩
 | e :: es, i, h => by
  obtain ⟨b, hb, hbo⟩ := h e List.mem_cons_self
  obtain ⟨r, hr, hri⟩ := heq a b w ha hbo
  cases r with
  | true =>
   right
   refine ⟨0, e, ?_, rfl, by rw [hb]; exact hri.1 rfl⟩
   simp only [Instr.findAsking, hb, Sem.run_bind, hr, Result.andThen, if_true, Nat.add_zero]
   rfl
  | false =>
   have hne : e.key ≠ enc a := fun q => by rw [hb] at q; have := hri.2 q; cases this
   have hrun : (Instr.findAsking kt (enc a) (e :: es) i).run P w = (Instr.findAsking kt (enc a) es (i + 1)).run P w := by
    simp only [Instr.findAsking, hb, Sem.run_bind, hr, Result.andThen, Bool.false_eq_true, if_false]
   rw [hrun]
   rcases find_asking heq a w ha es (i + 1) (fun x hx => h x (List.mem_cons_of_mem _ hx)) with ⟨h1, h2⟩ | ⟨j, e0, h1, h2, h3⟩
   ·left
    refine ⟨h1, fun x hx => ?_⟩
    rcases List.mem_cons.1 hx with rfl | hx
    ·exact hne
    ·exact h2 x hx
   ·right
    exact ⟨j + 1, e0, by rw [h1]; congr 3; omega, by simpa using h2, h3⟩
/-- findNow says nothing of keys that are neither numbers nor strings nor Booleans. -/
theorem find_now_none {d : TypeDesc} {k : Value} (h : ∀ v, Instr.sameNow d k v = none) : ∀ (es : List MapEntry) (i : Nat), Instr.findNow d k es i = none ∨ es = []
 | [], _ => .inr rfl
 | e :: es, i => .inl (by simp only [Instr.findNow, h])
theorem key_asking {P : Program} {kt : TypeId} {d : TypeDesc} {κ : Type} {enc : κ → Value} {ok : World → κ → Prop} (hd : P.underlying kt = some d) (hs : ∀ a v, Instr.sameNow d (enc a) v = none) (heq : ∀ (a b : κ) (w : World), ok w a → ok w b → ∃ r : Bool, (Op.equal kt (enc a) (enc b)).run P w = .ok r w ∧ (r = true ↔ enc b = enc a))
  (a : κ) (es : List MapEntry) (w : World) (ha : ok w a) (h : ∀ e ∈ es, ∃ b, e.key = enc b ∧ ok w b) :
  ((Instr.findKey kt (enc a) es).run P w = .ok none w ∧ ∀ e ∈ es, e.key ≠ enc a) ∨ ∃ j e0, (Instr.findKey kt (enc a) es).run P w = .ok (some (j, e0.val)) w ∧ es[j]? = some e0 ∧ e0.key = enc a := by
 rcases find_now_none (d := d) (k := enc a) (hs a) es 0 with hn | rfl
 ·have hr : (Instr.findKey kt (enc a) es).run P w = (Instr.findAsking kt (enc a) es).run P w := by
   simp only [Instr.findKey, Sem.run_bind, run_underlying hd, Result.andThen, hn]
  rw [hr]
  rcases find_asking heq a w ha es 0 h with h1 | ⟨j, e0, h1, h2, h3⟩
  ·exact .inl h1
  ·exact .inr ⟨j, e0, by rw [h1, Nat.zero_add], h2, h3⟩
 ·left
  refine ⟨?_, by simp⟩
  simp only [Instr.findKey, Sem.run_bind, run_underlying hd, Result.andThen, Instr.findNow]
  rfl
section
variable {P : Program} {kt : TypeId} {κ : Type} [DecidableEq κ] {enc : κ → Value} {ok : World → κ → Prop}
theorem nodup_at {α : Type} : ∀ {l : List α}, l.Nodup → ∀ {i j : Nat} {a : α}, l[i]? = some a → l[j]? = some a → i = j
 | x :: r, h, i, j, a, hi, hj => by
  obtain ⟨h1, h2⟩ := List.nodup_cons.1 h
  cases i <;> cases j
  ·rfl
  ·simp at hi hj; subst hi; exact absurd (List.mem_of_getElem? hj) h1
  ·simp at hi hj; subst hj; exact absurd (List.mem_of_getElem? hi) h1
  ·simp at hi hj; rw [nodup_at h2 hi hj]
/-- What a map at block b holds: keys and values, in the order in which the keys were laid. -/
structure GEs (enc : κ → Value) (es : Array MapEntry) (clock : Nat) (l : List (κ × Value)) : Prop where
 kv : es.toList.map (fun e => (e.key, e.val)) = l.map (fun p => (enc p.1, p.2))
 nd : (l.map (·.1)).Nodup
 old : ∀ e ∈ es.toList, e.born < clock
 stamps : (es.toList.map (·.born)).Nodup
def GMap (enc : κ → Value) (w : World) (b : Nat) (l : List (κ × Value)) : Prop := ∃ es clock, w.heap[b]? = some (.map es clock) ∧ GEs enc es clock l
def asc (l : List (κ × Value)) (a : κ) : Option Value := (l.find? (fun p => decide (p.1 = a))).map (·.2)
def put (l : List (κ × Value)) (a : κ) (v : Value) : List (κ × Value) := if a ∈ l.map (·.1) then l.map (fun p => if p.1 = a then (a, v) else p) else l ++ [(a, v)]
theorem GEs.len {es : Array MapEntry} {clock : Nat} {l : List (κ × Value)} (h : GEs enc es clock l) : es.size = l.length := by
 have := congrArg List.length h.kv
 simpa using this
theorem GEs.get {es : Array MapEntry} {clock : Nat} {l : List (κ × Value)} (h : GEs enc es clock l) {j : Nat} {e : MapEntry} (he : es.toList[j]? = some e) : ∃ p, l[j]? = some p ∧ e.key = enc p.1 ∧ e.val = p.2 := by
 have := congrArg (fun z => z[j]?) h.kv
 simp only [List.getElem?_map, he, Option.map_some] at this
 cases hl : l[j]? with
 | none => rw [hl] at this; simp at this
 | some p => rw [hl] at this; simp at this; exact ⟨p, rfl, this.1, this.2⟩
theorem GEs.keys {es : Array MapEntry} {clock : Nat} {l : List (κ × Value)} (h : GEs enc es clock l) {w : World} (hl : ∀ p ∈ l, ok w p.1) : ∀ e ∈ es.toList, ∃ b, e.key = enc b ∧ ok w b := fun e he => by
 obtain ⟨j, hj⟩ := List.mem_iff_getElem?.1 he
 obtain ⟨p, hp, h1, _⟩ := h.get hj
 exact ⟨_, h1, hl p (List.mem_of_getElem? hp)⟩
theorem asc_none {l : List (κ × Value)} {a : κ} (h : a ∉ l.map (·.1)) : asc l a = none := by
 unfold asc
 rw [Option.map_eq_none_iff, List.find?_eq_none]
 intro p hp
 simp only [decide_eq_true_eq]
 intro e
 exact h (List.mem_map.2 ⟨p, hp, e⟩)
theorem asc_some {l : List (κ × Value)} (hn : (l.map (·.1)).Nodup) {p : κ × Value} (h : p ∈ l) : asc l p.1 = some p.2 := by
 induction l with
 | nil => cases h
 | cons q r ih =>
  simp only [List.map_cons, List.nodup_cons] at hn
  unfold asc
  rw [List.find?_cons]
  rcases List.mem_cons.1 h with rfl | h
  ·simp
  ·have : ¬ q.1 = p.1 := fun e => hn.1 (by rw [e]; exact List.mem_map.2 ⟨p, h, rfl⟩)
   simp only [this, decide_false]
   exact ih hn.2 h
theorem GMap.lt {w : World} {b : Nat} {l : List (κ × Value)} (h : GMap enc w b l) : b < w.heap.size := by
 obtain ⟨es, c, hb, _⟩ := h
 exact (Array.getElem?_eq_some_iff.1 hb).1
theorem GMap.of_block {w w' : World} {b : Nat} {l : List (κ × Value)} (h : GMap enc w b l) (hb : w'.heap[b]? = w.heap[b]?) : GMap enc w' b l := by
 obtain ⟨es, c, h1, h2⟩ := h
 exact ⟨es, c, hb.trans h1, h2⟩
theorem GMap.ext {w w' : World} {b : Nat} {l : List (κ × Value)} (h : GMap enc w b l) (hb : Below w.heap.size w w') : GMap enc w' b l := h.of_block (hb.block b h.lt)
theorem GMap.nd_ {w : World} {b : Nat} {l : List (κ × Value)} (h : GMap enc w b l) : (l.map (·.1)).Nodup := by
 obtain ⟨es, c, _, h2⟩ := h
 exact h2.nd
theorem GMap.made (w : World) : GMap enc (w.alloc (.map #[] 0)) w.heap.size ([] : List (κ × Value)) :=
 ⟨#[], 0, by rw [heap_alloc_new], ⟨rfl, List.nodup_nil, by simp, by simp⟩⟩
theorem GMap.find (K : KeyC P kt enc ok) {w : World} {es : Array MapEntry} {clock : Nat} {l : List (κ × Value)} (h : GEs enc es clock l) (a : κ) (ha : ok w a) (hl : ∀ p ∈ l, ok w p.1) :
  ((Instr.findKey kt (enc a) es.toList).run P w = .ok none w ∧ a ∉ l.map (·.1)) ∨ ∃ (j : Nat) (v : Value) (e0 : MapEntry), (Instr.findKey kt (enc a) es.toList).run P w = .ok (some (j, v)) w ∧ l[j]? = some (a, v) ∧ es.toList[j]? = some e0 ∧ e0.key = enc a := by
 rcases K.find a es.toList w ha (h.keys hl) with ⟨h1, h2⟩ | ⟨j, e0, h1, h2, h3⟩
 ·left
  refine ⟨h1, fun hm => ?_⟩
  obtain ⟨p, hp, rfl⟩ := List.mem_map.1 hm
  obtain ⟨j, hj⟩ := List.mem_iff_getElem?.1 hp
  have := congrArg (fun z => z[j]?) h.kv
  simp only [List.getElem?_map, hj, Option.map_some] at this
  cases he : es.toList[j]? with
  | none => rw [he] at this; simp at this
  | some e => rw [he] at this; simp at this; exact h2 e (List.mem_of_getElem? he) this.1
 ·right
  obtain ⟨p, hp, h4, h5⟩ := h.get h2
  have : p.1 = a := K.inj _ _ (h4.symm.trans h3)
  refine ⟨j, e0.val, e0, h1, ?_, h2, h3⟩
  rw [hp, h5, ← this]
/-- m[k]; with and without ok. -/
theorem GMap.look (K : KeyC P kt enc ok) {w : World} {b : Nat} {l : List (κ × Value)} (h : GMap enc w b l) {t e : TypeId} (ht : P.underlying t = some (.map kt e)) {z : Value} (hz : (zeroValue e).run P w = .ok z w) (a : κ) (cm : Bool) (ha : ok w a) (hl : ∀ p ∈ l, ok w p.1) :
  (Instr.lookup t (.map (some b)) (enc a) cm).run P w = .ok (if cm then .tuple #[(asc l a).getD z, .bool (asc l a).isSome] else (asc l a).getD z) w := by
 obtain ⟨es, c, hb, he⟩ := h
 rcases GMap.find K (w := w) he a ha hl with ⟨h1, h2⟩ | ⟨j, v, e0, h1, h2, _⟩
 ·rw [asc_none h2]
  cases cm <;> simp [Instr.lookup, run_underlying ht, MapKept.run_getObj_map hb, K.chk, h1, hz, Result.andThen]
 ·rw [asc_some (p := (a, v)) he.nd (List.mem_of_getElem? h2)]
  cases cm <;> simp [Instr.lookup, run_underlying ht, MapKept.run_getObj_map hb, K.chk, h1, Result.andThen]
theorem put_keys {l : List (κ × Value)} {a : κ} {v : Value} : (put l a v).map (·.1) = if a ∈ l.map (·.1) then l.map (·.1) else l.map (·.1) ++ [a] := by
 unfold put
 split
 ·rw [List.map_map]
  refine List.map_congr_left fun p _ => ?_
  simp only [Function.comp]
  split
  ·rename_i h; exact h.symm
  ·rfl
 ·simp
theorem put_nodup {l : List (κ × Value)} {a : κ} {v : Value} (h : (l.map (·.1)).Nodup) : ((put l a v).map (·.1)).Nodup := by
 rw [put_keys]
 split
 ·exact h
 ·rename_i hn
  rw [List.nodup_append]
  exact ⟨h, by simp, fun x hx y hy e => by simp at hy; subst hy; subst e; exact hn hx⟩
theorem mem_put {l : List (κ × Value)} (hn : (l.map (·.1)).Nodup) {a : κ} {v : Value} {p : κ × Value} : p ∈ put l a v ↔ p = (a, v) ∨ (p ∈ l ∧ p.1 ≠ a) := by
 unfold put
 split
 ·rename_i ha
  simp only [List.mem_map]
  constructor
  ·rintro ⟨q, hq, rfl⟩
   split
   ·exact .inl rfl
   ·rename_i hne; exact .inr ⟨hq, hne⟩
  ·rintro (rfl | ⟨h1, h2⟩)
   ·obtain ⟨q, hq, e⟩ := List.mem_map.1 ha
    exact ⟨q, hq, by rw [if_pos e]⟩
   ·exact ⟨p, h1, by rw [if_neg h2]⟩
 ·rename_i ha
  simp only [List.mem_append, List.mem_singleton]
  constructor
  ·rintro (h | h)
   ·exact .inr ⟨h, fun e => ha (List.mem_map.2 ⟨p, h, e⟩)⟩
   ·exact .inl h
  ·rintro (h | ⟨h, _⟩)
   ·exact .inr h
   ·exact .inl h
/-- m[k] = v. -/
theorem GMap.upd (K : KeyC P kt enc ok) {w : World} {b : Nat} {l : List (κ × Value)} (h : GMap enc w b l) {t e : TypeId} (ht : P.underlying t = some (.map kt e)) (a : κ) (v : Value) (ha : ok w a) (hl : ∀ p ∈ l, ok w p.1) :
  ∃ o, (Instr.mapUpdate t (.map (some b)) (enc a) v).run P w = .ok () (setBlock w b o) ∧ GMap enc (setBlock w b o) b (put l a v) ∧ o.isCells = false := by
 obtain ⟨es, c, hb, he⟩ := h
 have hlt : b < w.heap.size := (Array.getElem?_eq_some_iff.1 hb).1
 have hset : ∀ o, (setBlock w b o).heap[b]? = some o := fun o => by simp [setBlock, hlt]
 rcases GMap.find K (w := w) he a ha hl with ⟨h1, h2⟩ | ⟨j, v0, e0, h1, h2, h3, h4⟩
 ·refine ⟨.map (es.push ⟨enc a, v, c⟩) (c + 1), ?_, ⟨_, _, hset _, ?_⟩, rfl⟩
  ·simp [Instr.mapUpdate, run_underlying ht, MapKept.run_getObj_map hb, K.chk, h1, MapKept.run_setObj_map _ hb, Result.andThen, setBlock]
  ·refine ⟨?_, put_nodup he.nd, fun x hx => ?_, ?_⟩
   ·unfold put; rw [if_neg h2]; simp [he.kv]
   ·simp only [Array.toList_push, List.mem_append, List.mem_singleton] at hx
    rcases hx with hx | rfl
    ·have := he.old x hx; omega
    ·show c < c + 1; omega
   ·rw [Array.toList_push, List.map_append, List.nodup_append]
    refine ⟨he.stamps, by simp, fun x hx y hy q => ?_⟩
    simp at hy
    obtain ⟨e1, he1, rfl⟩ := List.mem_map.1 hx
    have := he.old e1 he1
    omega
 ·have hj : es[j]? = some e0 := by simpa using h3
  refine ⟨.map (es.modify j (fun e' => { e' with key := enc a, val := v })) c, ?_, ⟨_, _, hset _, ?_⟩, rfl⟩
  ·simp [Instr.mapUpdate, run_underlying ht, MapKept.run_getObj_map hb, K.chk, h1, hj, h4, K.stays, MapKept.run_setObj_map _ hb, Result.andThen, setBlock]
  ·have hm : a ∈ l.map (·.1) := List.mem_map.2 ⟨_, List.mem_of_getElem? h2, rfl⟩
   have hL : (es.modify j (fun e' => { e' with key := enc a, val := v })).toList = es.toList.modify j (fun e' => { e' with key := enc a, val := v }) := Array.toList_modify ..
   refine ⟨?_, put_nodup he.nd, fun x hx => ?_, ?_⟩
   ·rw [hL]
    unfold put
    rw [if_pos hm]
    refine List.ext_getElem? fun i => ?_
    have hi := congrArg (fun z => z[i]?) he.kv
    simp only [List.getElem?_map] at hi
    simp only [List.getElem?_map, List.getElem?_modify, Option.map_map]
    by_cases hij : j = i
    ·subst hij
     rw [h3, h2]
     simp
    ·simp only [hij, if_false]
     cases hl : l[i]? with
     | none =>
      rw [hl] at hi
      cases hx : es.toList[i]? with
      | none => rfl
      | some x => rw [hx] at hi; simp at hi
     | some p =>
      rw [hl] at hi
      cases hx : es.toList[i]? with
      | none => rw [hx] at hi; simp at hi
      | some x =>
       rw [hx] at hi
       have hpa : ¬ p.1 = a := fun e => by
        have hk1 : (l.map (·.1))[i]? = some a := by simp [hl, e]
        have hk2 : (l.map (·.1))[j]? = some a := by simp [h2]
        exact hij (nodup_at he.nd hk2 hk1)
       simp only [Option.map_some, hpa, if_false, Function.comp]
       simpa using hi
   ·rw [hL] at hx
    obtain ⟨i, hi⟩ := List.mem_iff_getElem?.1 hx
    rw [List.getElem?_modify] at hi
    cases hx2 : es.toList[i]? with
    | none => rw [hx2] at hi; simp at hi
    | some y =>
     rw [hx2] at hi
     have := he.old y (List.mem_of_getElem? hx2)
     simp at hi
     rw [← hi]
     split <;> exact this
   ·rw [hL]
    have : (es.toList.modify j (fun e' => { e' with key := enc a, val := v })).map (·.born) = es.toList.map (·.born) := by
     refine List.ext_getElem? fun i => ?_
     simp only [List.getElem?_map, List.getElem?_modify, Option.map_map]
     cases es.toList[i]? with
     | none => rfl
     | some y => simp only [Option.map_some, Function.comp]; split <;> rfl
    rw [this]
    exact he.stamps
/-- m[k] = f(m[k]): the entry is laid first, its value stored later. -/
theorem GMap.entry (K : KeyC P kt enc ok) {w : World} {b : Nat} {l : List (κ × Value)} (h : GMap enc w b l) {t e : TypeId} (ht : P.underlying t = some (.map kt e)) {z : Value} (hz : ∀ u : World, (zeroValue e).run P u = .ok z u) (a : κ) (ha : ok w a) (hl : ∀ p ∈ l, ok w p.1) :
  ∃ (st : Nat) (o1 : Obj), (Instr.mapEntry t (.map (some b)) (enc a)).run P w = .ok (.tuple #[(asc l a).getD z, goInt st]) (setBlock w b o1) ∧ o1.isCells = false ∧
   ∀ (w2 : World) (v : Value), w2.heap[b]? = some o1 → ∃ o2, (Instr.entryStore t (.map (some b)) (goInt st) v).run P w2 = .ok () (setBlock w2 b o2) ∧ GMap enc (setBlock w2 b o2) b (put l a v) ∧ o2.isCells = false := by
 obtain ⟨es, c, hb, he⟩ := h
 have hset : ∀ (w2 : World) (o o' : Obj), w2.heap[b]? = some o → (setBlock w2 b o').heap[b]? = some o' := fun w2 o o' h => by
  have := (Array.getElem?_eq_some_iff.1 h).1
  simp [setBlock, this]
 rcases GMap.find K (w := w) he a ha hl with ⟨h1, h2⟩ | ⟨j, v0, e0, h1, h2, h3, h4⟩
 ·rw [asc_none h2]
  refine ⟨c, .map (es.push ⟨enc a, z, c⟩) (c + 1), ?_, rfl, fun w2 v hw2 => ⟨.map (es.push ⟨enc a, v, c⟩) (c + 1), ?_, ⟨_, _, hset _ _ _ hw2, ?_⟩, rfl⟩⟩
  ·simp [Instr.mapEntry, run_underlying ht, MapKept.run_getObj_map hb, K.chk, h1, hz, MapKept.run_setObj_map _ hb, Result.andThen, setBlock]
  ·have hidx : (es.push ⟨enc a, z, c⟩).findIdx? (fun e => ((e.born : Nat) : Int) == ((c : Nat) : Int)) = some es.size := by
    rw [WideElems.findIdx_arr]
    exact WideElems.findIdx_born (l := (es.push ⟨enc a, z, c⟩).toList) (j := es.size) (e0 := ⟨enc a, z, c⟩) (by
     rw [Array.toList_push, List.map_append]
     refine List.nodup_append.2 ⟨he.stamps, by simp, fun x hx y hy q => ?_⟩
     simp at hy
     obtain ⟨e1, he1, rfl⟩ := List.mem_map.1 hx
     have := he.old e1 he1
     omega) (by simp)
   have hmod : (es.push ⟨enc a, z, c⟩).modify es.size (fun e => { e with val := v }) = es.push ⟨enc a, v, c⟩ := by
    apply Array.ext'
    rw [Array.toList_modify, Array.toList_push, Array.toList_push, ← Array.length_toList, WideElems.modify_last]
   simp [Instr.entryStore, MapKept.run_getObj_map hw2, asInt, asIntOf, goInt, hidx, hmod, MapKept.run_setObj_map _ hw2, Result.andThen, setBlock]
  ·refine ⟨?_, put_nodup he.nd, fun x hx => ?_, ?_⟩
   ·unfold put; rw [if_neg h2]; simp [he.kv]
   ·simp only [Array.toList_push, List.mem_append, List.mem_singleton] at hx
    rcases hx with hx | rfl
    ·have := he.old x hx; omega
    ·show c < c + 1; omega
   ·rw [Array.toList_push, List.map_append, List.nodup_append]
    refine ⟨he.stamps, by simp, fun x hx y hy q => ?_⟩
    simp at hy
    obtain ⟨e1, he1, rfl⟩ := List.mem_map.1 hx
    have := he.old e1 he1
    omega
 ·rw [asc_some (p := (a, v0)) he.nd (List.mem_of_getElem? h2)]
  have hj : es[j]? = some e0 := by simpa using h3
  have hv0 : e0.val = v0 := by
   obtain ⟨p, hp, _, q⟩ := he.get h3
   rw [h2] at hp; cases hp; exact q
  have hsame : es.modify j (fun e => { e with key := enc a }) = es := by
   apply Array.ext'
   rw [Array.toList_modify]
   refine List.ext_getElem? fun i => ?_
   rw [List.getElem?_modify]
   split
   ·rename_i e; subst e; rw [h3]; simp [← h4]
   ·simp
  refine ⟨e0.born, .map es c, ?_, rfl, fun w2 v hw2 => ?_⟩
  ·simp [Instr.mapEntry, run_underlying ht, MapKept.run_getObj_map hb, K.chk, h1, hj, h4, K.stays, hsame, MapKept.run_setObj_map _ hb, Result.andThen, setBlock]
  ·have hg : GMap enc w2 b l := ⟨es, c, hw2, he⟩
   refine ⟨.map (es.modify j (fun e' => { e' with val := v })) c, ?_, ⟨_, _, hset _ _ _ hw2, ?_⟩, rfl⟩
   ·have hidx : es.findIdx? (fun e => ((e.born : Nat) : Int) == ((e0.born : Nat) : Int)) = some j := by
     rw [WideElems.findIdx_arr]; exact WideElems.findIdx_born he.stamps h3
    simp [Instr.entryStore, MapKept.run_getObj_map hw2, asInt, asIntOf, goInt, hidx, MapKept.run_setObj_map _ hw2, Result.andThen, setBlock]
   ·have hm : a ∈ l.map (·.1) := List.mem_map.2 ⟨_, List.mem_of_getElem? h2, rfl⟩
    have hL : (es.modify j (fun e' => { e' with val := v })).toList = es.toList.modify j (fun e' => { e' with val := v }) := Array.toList_modify ..
    refine ⟨?_, put_nodup he.nd, fun x hx => ?_, ?_⟩
    ·rw [hL]
     unfold put
     rw [if_pos hm]
     refine List.ext_getElem? fun i => ?_
     have hi := congrArg (fun z => z[i]?) he.kv
     simp only [List.getElem?_map] at hi
     simp only [List.getElem?_map, List.getElem?_modify, Option.map_map]
     by_cases hij : j = i
     ·subst hij
      rw [h3, h2]
      simp [h4]
     ·simp only [hij, if_false]
      cases hl2 : l[i]? with
      | none =>
       rw [hl2] at hi
       cases hx : es.toList[i]? with
       | none => rfl
       | some x => rw [hx] at hi; simp at hi
      | some p =>
       rw [hl2] at hi
       cases hx : es.toList[i]? with
       | none => rw [hx] at hi; simp at hi
       | some x =>
        rw [hx] at hi
        have hpa : ¬ p.1 = a := fun e => by
         have hk1 : (l.map (·.1))[i]? = some a := by simp [hl2, e]
         have hk2 : (l.map (·.1))[j]? = some a := by simp [h2]
         exact hij (nodup_at he.nd hk2 hk1)
        simp only [Option.map_some, hpa, if_false, Function.comp]
        simpa using hi
    ·rw [hL] at hx
     obtain ⟨i, hi⟩ := List.mem_iff_getElem?.1 hx
     rw [List.getElem?_modify] at hi
     cases hx2 : es.toList[i]? with
     | none => rw [hx2] at hi; simp at hi
     | some y =>
      rw [hx2] at hi
      have := he.old y (List.mem_of_getElem? hx2)
      simp at hi
      rw [← hi]
      split <;> exact this
    ·rw [hL]
     have : (es.toList.modify j (fun e' => { e' with val := v })).map (·.born) = es.toList.map (·.born) := by
      refine List.ext_getElem? fun i => ?_
      simp only [List.getElem?_map, List.getElem?_modify, Option.map_map]
      cases es.toList[i]? with
      | none => rfl
      | some y => simp only [Option.map_some, Function.comp]; split <;> rfl
     rw [this]
     exact he.stamps
/-- An iterator in block r over the map in block b, of which left is still to come. -/
def GIter (enc : κ → Value) (w : World) (r b : Nat) (l left : List (κ × Value)) : Prop :=
 r ≠ b ∧ ∃ es clock since seen c0, w.heap[r]? = some (.mapIter (some b) since seen c0) ∧ w.heap[b]? = some (.map es clock) ∧ GEs enc es clock l ∧ (∀ x ∈ es.toList, x.born < since) ∧ (since ≤ c0 ∧ since ≤ clock) ∧
  (leftOf es seen).toList.map (fun e => (e.key, e.val)) = left.map (fun p => (enc p.1, p.2)) ∧ (∀ p ∈ left, p ∈ l) ∧ (left.map (·.1)).Nodup
theorem GIter.map {w : World} {r b : Nat} {l left : List (κ × Value)} (h : GIter enc w r b l left) : GMap enc w b l := by
 obtain ⟨_, es, c, s, se, c0, h1, h2, h3, _⟩ := h
 exact ⟨es, c, h2, h3⟩
theorem GIter.of_block {w w' : World} {r b : Nat} {l left : List (κ × Value)} (h : GIter enc w r b l left) (hb : w'.heap[b]? = w.heap[b]?) (hr : w'.heap[r]? = w.heap[r]?) : GIter enc w' r b l left := by
 obtain ⟨hne, es, c, s, se, c0, h1, h2, h3⟩ := h
 exact ⟨hne, es, c, s, se, c0, hr.trans h1, hb.trans h2, h3⟩
theorem GIter.lt {w : World} {r b : Nat} {l left : List (κ × Value)} (h : GIter enc w r b l left) : r < w.heap.size := by
 obtain ⟨_, es, c, s, se, c0, h1, _⟩ := h
 exact (Array.getElem?_eq_some_iff.1 h1).1
theorem GMap.range {w : World} {b : Nat} {l : List (κ × Value)} (h : GMap enc w b l) {t e : TypeId} (ht : P.underlying t = some (.map kt e)) :
  ∃ o, (Instr.range t (.map (some b))).run P w = .ok (.pointer (some ⟨w.heap.size, 0, none⟩)) (w.alloc o) ∧ o.isCells = false ∧ GIter enc (w.alloc o) w.heap.size b l l := by
 obtain ⟨es, c, hb, he⟩ := h
 have hlt : b < w.heap.size := (Array.getElem?_eq_some_iff.1 hb).1
 refine ⟨_, run_range_map w t kt e b es c ht hb, rfl, by omega, es, c, c, #[], c, heap_alloc_new _ _, by rw [heap_alloc_old _ _ hlt]; exact hb, he, he.old, ⟨Nat.le_refl _, Nat.le_refl _⟩, ?_, fun p hp => hp, he.nd⟩
 have : leftOf es #[] = es := by unfold leftOf; exact Array.filter_eq_self.2 (by simp)
 rw [this]; exact he.kv
theorem nodup_map_eq {α β : Type} {f : α → β} : ∀ {l : List α}, (l.map f).Nodup → ∀ {x y : α}, x ∈ l → y ∈ l → f x = f y → x = y
 | a :: r, h, x, y, hx, hy, e => by
  simp only [List.map_cons, List.nodup_cons] at h
  rcases List.mem_cons.1 hx with h1 | h1 <;> rcases List.mem_cons.1 hy with h2 | h2
  ·rw [h1, h2]
  ·subst h1; exact absurd (List.mem_map.2 ⟨y, h2, e.symm⟩) h.1
  ·subst h2; exact absurd (List.mem_map.2 ⟨x, h1, e⟩) h.1
  ·exact nodup_map_eq h.2 h1 h2 e
theorem GEs.keyNodup (K : KeyC P kt enc ok) {es : Array MapEntry} {clock : Nat} {l : List (κ × Value)} (h : GEs enc es clock l) : (es.toList.map (·.key)).Nodup := by
 have h1 : es.toList.map (·.key) = (l.map (·.1)).map enc := by
  have := congrArg (List.map Prod.fst) h.kv
  simpa [List.map_map, Function.comp_def] using this
 rw [h1]
 have := h.nd
 generalize l.map (·.1) = m at this
 induction m with
 | nil => exact List.nodup_nil
 | cons a r ih =>
  obtain ⟨q1, q2⟩ := List.nodup_cons.1 this
  rw [List.map_cons]
  refine List.nodup_cons.2 ⟨fun hm => ?_, ih q2⟩
  obtain ⟨c, hc, e⟩ := List.mem_map.1 hm
  exact q1 (K.inj _ _ e ▸ hc)
open Classical in
/-- The next one of a range over a map, whichever it is. -/
theorem GIter.next (K : KeyC P kt enc ok) {w : World} {r b : Nat} {l left : List (κ × Value)} (h : GIter enc w r b l left) (ty : TypeId) :
  (left = [] ∧ (Instr.next (.pointer (some ⟨r, 0, none⟩)) false ty).run P w = .ok (.tuple #[.bool false]) w) ∨
  ∃ (p : κ × Value) (w1 : World) (o : Obj), p ∈ left ∧ (w1 = w ∨ w1 = w.drew) ∧ o.isCells = false ∧ (Instr.next (.pointer (some ⟨r, 0, none⟩)) false ty).run P w = .ok (.tuple #[.bool true, enc p.1, p.2]) (setBlock w1 r o) ∧ (Instr.entry (.pointer (some ⟨r, 0, none⟩))).run P (setBlock w1 r o) = .ok (.tuple #[enc p.1, p.2]) (setBlock w1 r o) ∧
   GIter enc (setBlock w1 r o) r b l (left.filter (fun q => !decide (q.1 = p.1))) ∧ (left.filter (fun q => !decide (q.1 = p.1))).length + 1 = left.length := by
 obtain ⟨hne, es, clock, since, seen, c0, hr, hb, he, hold, ⟨hsc, hsk⟩, hl, hsub, hnd⟩ := h
 rcases run_next_at (P := P) w ty r b since c0 seen es clock hr hb hold hsc with ⟨h0, h1⟩ | ⟨e, hm, w1, hw, h1⟩
 ·left
  refine ⟨?_, h1⟩
  have := congrArg List.length hl
  simp [h0] at this
  exact List.eq_nil_of_length_eq_zero this.symm
 ·right
  obtain ⟨j, hj⟩ := List.mem_iff_getElem?.1 hm
  have hjl := congrArg (fun z => z[j]?) hl
  simp only [List.getElem?_map, hj, Option.map_some] at hjl
  cases hp : left[j]? with
  | none => rw [hp] at hjl; simp at hjl
  | some p =>
   rw [hp] at hjl
   simp only [Option.map_some, Option.some.injEq, Prod.mk.injEq] at hjl
   obtain ⟨e1, e2⟩ := hjl
   have hpm := List.mem_of_getElem? hp
   have heap1 : w1.heap = w.heap := by rcases hw with rfl | rfl <;> rfl
   have hrl : r < w.heap.size := (Array.getElem?_eq_some_iff.1 hr).1
   have hes : ∀ x ∈ (leftOf es seen).toList, x ∈ es.toList := fun x hx => by
    unfold leftOf at hx; simp at hx; simpa using hx.1
   have hkb : ∀ x ∈ (leftOf es seen).toList, (x.born = e.born ↔ x.key = e.key) := fun x hx =>
    ⟨fun q => by rw [nodup_map_eq he.stamps (hes x hx) (hes e hm) q], fun q => by rw [nodup_map_eq (he.keyNodup K) (hes x hx) (hes e hm) q]⟩
   have hleft : (leftOf es (seen.push e.born)).toList = (leftOf es seen).toList.filter (fun x => !decide (x.key = enc p.1)) := by
    unfold leftOf
    rw [Array.toList_filter, Array.toList_filter, List.filter_filter]
    refine List.filter_congr fun x hx => ?_
    by_cases hs : x.born ∈ seen
    ·simp [hs]
    ·have hxl : x ∈ (leftOf es seen).toList := by
      unfold leftOf
      rw [Array.toList_filter]
      exact List.mem_filter.2 ⟨hx, by simpa using hs⟩
     have hk := hkb x hxl
     rw [← e1]
     by_cases hbn : x.born = e.born
     ·simp [hs, hbn, hk.1 hbn]
     ·have : ¬ x.key = e.key := fun q => hbn (hk.2 q)
      simp [hs, hbn, this]
   have hl2 : (leftOf es (seen.push e.born)).toList.map (fun e => (e.key, e.val)) = (left.filter (fun q => !decide (q.1 = p.1))).map (fun p => (enc p.1, p.2)) := by
    rw [hleft]
    have hf := congrArg (List.filter (fun z : Value × Value => !decide (z.1 = enc p.1))) hl
    rw [List.filter_map, List.filter_map] at hf
    simp only [Function.comp_def] at hf
    rw [hf]
    congr 1
    refine List.filter_congr fun q hq => ?_
    congr 1
    exact decide_eq_decide.2 ⟨fun z => K.inj _ _ z, fun z => by rw [z]⟩
   have hR : (setBlock w1 r (.mapIter (some b) since (seen.push e.born) clock)).heap[r]? = some (.mapIter (some b) since (seen.push e.born) clock) := by simp [setBlock, heap1, hrl]
   have hB : (setBlock w1 r (.mapIter (some b) since (seen.push e.born) clock)).heap[b]? = some (.map es clock) := by
    show (w1.heap.setIfInBounds r _)[b]? = _
    rw [heap1, Array.getElem?_setIfInBounds_ne hne]; exact hb
   refine ⟨p, w1, _, hpm, hw, rfl, by rw [h1, e1, e2], by rw [run_entry_at _ r b since seen es clock e hR hB (hes e hm) he.stamps, e1, e2], ⟨hne, es, clock, since, seen.push e.born, clock, ?_, ?_, he, hold, ?_, hl2, fun q hq => hsub q (List.mem_filter.1 hq).1, ?_⟩, ?_⟩
   ·simp [setBlock, heap1, hrl]
   ·show (w1.heap.setIfInBounds r _)[b]? = _
    rw [heap1, Array.getElem?_setIfInBounds_ne hne]; exact hb
   ·exact ⟨hsk, hsk⟩
   ·exact hnd.sublist (List.filter_sublist.map _)
   ·have hc : left.countP (fun q => decide (q.1 = p.1)) = 1 := by
     have := hnd
     clear hl hl2 hsub hp hnd
     induction left with
     | nil => cases hpm
     | cons a t ih =>
      simp only [List.map_cons, List.nodup_cons] at this
      rw [List.countP_cons]
      rcases List.mem_cons.1 hpm with rfl | hpm
      ·have h0 : t.countP (fun q => decide (q.1 = p.1)) = 0 := List.countP_eq_zero.2 fun q hq => by
        simp only [decide_eq_true_eq]
        exact fun e => this.1 (List.mem_map.2 ⟨q, hq, e⟩)
       simp [h0]
      ·have : ¬ a.1 = p.1 := fun e => this.1 (by rw [e]; exact List.mem_map.2 ⟨p, hpm, rfl⟩)
       rename_i hh
       rw [ih hpm hh.2]
       simp [this]
    have h1 := List.length_eq_countP_add_countP (fun q : κ × Value => decide (q.1 = p.1)) (l := left)
    rw [hc] at h1
    rw [← List.countP_eq_length_filter]
    have h2 : left.countP (fun q => !decide (q.1 = p.1)) = left.countP (fun a => decide (¬ decide (a.1 = p.1) = true)) := List.countP_congr fun q _ => by simp
    rw [h2]
    omega
end
end Go.Proofs.YtjiojpoiocdnmaaGreat
