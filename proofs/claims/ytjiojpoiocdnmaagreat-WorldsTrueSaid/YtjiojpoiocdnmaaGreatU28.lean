/- rest: what the other groups can cost together. -/
import Derived.Test.YtjiojpoiocdnmaaGreatU27
set_option linter.unusedSimpArgs false
set_option linter.unusedVariables false
namespace Go.Proofs.YtjiojpoiocdnmaaGreat
open Go.RowKit Go.ChangeMaps
/-- A group's block, its map of vectors and what that holds. -/
structure Ent where
 b : Nat
 mb : Nat
 vl : List (V4 × Value)
def entL (es : List Ent) : List (Nat × Value) := es.map (fun e => (e.b, .map (some e.mb)))
structure EntOk (W : World) (e : Ent) : Prop where
 g : isGrp W e.b
 m : GMap V4.v W e.mb e.vl
 v : ∀ p ∈ e.vl, p.1.In 1000
theorem isGrp.ext {W W' : World} {b : Nat} (h : isGrp W b) (hb : Below W.heap.size W W') : isGrp W' b := by
 obtain ⟨cs, h⟩ := h
 exact ⟨cs, (hb.block _ (Array.getElem?_eq_some_iff.1 h).1).trans h⟩
theorem EntOk.ext {W W' : World} {e : Ent} (h : EntOk W e) (hb : Below W.heap.size W W') : EntOk W' e := ⟨h.g.ext hb, h.m.ext hb, h.v⟩
def vecs (es : List Ent) (b : Nat) : List V4 := match es.find? (fun e => decide (e.b = b)) with
 | some e => e.vl.map (·.1)
 | none => []
theorem vecs_at {es : List Ent} (hn : (es.map (·.b)).Nodup) {e : Ent} (he : e ∈ es) : vecs es e.b = e.vl.map (·.1) := by
 unfold vecs
 induction es with
 | nil => cases he
 | cons x r ih =>
  simp only [List.map_cons, List.nodup_cons] at hn
  rcases List.mem_cons.1 he with rfl | h1
  ·simp
  ·have hx : x.b ≠ e.b := fun h => hn.1 (h ▸ List.mem_map.2 ⟨e, h1, rfl⟩)
   rw [List.find?_cons_of_neg (by simpa using hx)]
   exact ih hn.2 h1
/-- The sums within the budget, one vector from each group of done. -/
def Sums (lost bud : V4) (F : Nat → List V4) : List Nat → V4 → Prop
 | [], s => s = lost ∧ s.leB bud = true
 | b :: done, s => ∃ a, Sums lost bud F done a ∧ ∃ v ∈ F b, a.plus v = s ∧ s.leB bud = true
theorem leB_in {s bud : V4} {N M : Int} (h : s.leB bud = true) (hb : bud.In N) (hs : s.In M) : s.In N := by
 unfold V4.leB at h
 simp only [Bool.and_eq_true, decide_eq_true_eq] at h
 unfold V4.In at *
 omega
theorem sums_in {lost bud : V4} {F : Nat → List V4} (hl : lost.In 1000) (hb : bud.In 1000) (hF : ∀ b, ∀ v ∈ F b, v.In 1000) : ∀ (done : List Nat) (s : V4), Sums lost bud F done s → s.In 1000
 | [], s, h => h.1 ▸ hl
 | b :: done, s, h => by
  obtain ⟨a, ha, v, hv, rfl, hle⟩ := h
  exact leB_in hle hb ((sums_in hl hb hF done a ha).plus (hF b v hv))
theorem perm_pick {α β : Type} [DecidableEq α] : ∀ {l : List (α × β)}, (l.map (·.1)).Nodup → ∀ {p : α × β}, p ∈ l → (l.map (·.1)).Perm (p.1 :: (l.filter (fun q => !decide (q.1 = p.1))).map (·.1))
 | [], _, _, h => by cases h
 | x :: r, hn, p, h => by
  simp only [List.map_cons, List.nodup_cons] at hn
  rcases List.mem_cons.1 h with rfl | h1
  ·rw [List.filter_cons_of_neg (by simp), List.filter_eq_self.2 (fun q hq => by
    have : q.1 ≠ p.1 := fun e => hn.1 (e ▸ List.mem_map.2 ⟨q, hq, rfl⟩)
    simpa using this)]
   exact List.Perm.refl _
  ·have hx : x.1 ≠ p.1 := fun e => hn.1 (e ▸ List.mem_map.2 ⟨p, h1, rfl⟩)
   rw [List.filter_cons_of_pos (by simpa using hx)]
   simp only [List.map_cons]
   exact ((perm_pick hn.2 h1).cons _).trans (List.Perm.swap _ _ _)
/-- What the middle loop has laid into the next map. -/
def Mid (bud : V4) (As Vs : List V4) (done : V4 → Prop) (v : V4) : Prop := ∃ a ∈ As, done a ∧ ∃ x ∈ Vs, a.plus x = v ∧ v.leB bud = true
theorem put_key {L : List (V4 × Value)} {z v : V4} {u : Value} : v ∈ (put L z u).map (·.1) ↔ v ∈ L.map (·.1) ∨ v = z := by
 rw [put_keys]
 split
 ·rename_i h1
  exact ⟨.inl, fun e => e.elim id (fun e => e ▸ h1)⟩
 ·simp
theorem gne {κ κ2 : Type} [DecidableEq κ] [DecidableEq κ2] {enc : κ → Value} {enc2 : κ2 → Value} {W : World} {S R m : Nat} {L : List (κ × Value)} {l left : List (κ2 × Value)} (h : GMap enc W S L) (h2 : GIter enc2 W R m l left) : S ≠ R := by
 rintro rfl
 obtain ⟨es, c, h1, _⟩ := h
 obtain ⟨_, _, _, _, _, _, h3, _⟩ := h2
 rw [h1] at h3; cases h3
theorem mem_filter_key {α β : Type} [DecidableEq α] {l : List (α × β)} {p a : α} : a ∈ (l.filter (fun q => !decide (q.1 = p))).map (·.1) ↔ a ∈ l.map (·.1) ∧ a ≠ p := by
 simp only [List.mem_map, List.mem_filter, Bool.not_eq_true', decide_eq_false_iff_not]
 constructor
 ·rintro ⟨x, ⟨h1, h2⟩, rfl⟩; exact ⟨⟨x, h1, rfl⟩, h2⟩
 ·rintro ⟨⟨x, h1, rfl⟩, h2⟩; exact ⟨x, ⟨h1, h2⟩, rfl⟩
/-- One more vector of the inner range. -/
def Inn (bud a : V4) (Vs : List V4) (old : V4 → Prop) (done : V4 → Prop) (v : V4) : Prop := old v ∨ ∃ x ∈ Vs, done x ∧ a.plus x = v ∧ v.leB bud = true
theorem inn_step {bud a b z : V4} {Vs left : List V4} {old : V4 → Prop} {K K' : V4 → Prop} (hb : b ∈ Vs) (hz : a.plus b = z) (hK : ∀ v, K v ↔ Inn bud a Vs old (fun x => x ∉ left) v) (hK' : ∀ v, K' v ↔ K v ∨ (v = z ∧ z.leB bud = true)) {left' : List V4} (hl : ∀ x, x ∈ left' ↔ x ∈ left ∧ x ≠ b) :
  ∀ v, K' v ↔ Inn bud a Vs old (fun x => x ∉ left') v := by
 intro v
 rw [hK', hK]
 unfold Inn
 constructor
 ·rintro ((h | ⟨x, h1, h2, h3⟩) | ⟨rfl, h⟩)
  ·exact .inl h
  ·exact .inr ⟨x, h1, fun h => h2 ((hl x).1 h).1, h3⟩
  ·exact .inr ⟨b, hb, fun h => ((hl b).1 h).2 rfl, hz, h⟩
 ·rintro (h | ⟨x, h1, h2, h3, h4⟩)
  ·exact .inl (.inl h)
  ·by_cases e : x = b
   ·subst e; rw [hz] at h3; subst h3; exact .inr ⟨rfl, h4⟩
   ·exact .inl (.inr ⟨x, h1, fun h => h2 ((hl x).2 ⟨h, e⟩), h3, h4⟩)
theorem mid_step {bud a : V4} {As Vs left left' : List V4} {K K' : V4 → Prop} (ha : a ∈ As) (hK : ∀ v, K v ↔ Mid bud As Vs (fun x => x ∉ left) v) (hK' : ∀ v, K' v ↔ Inn bud a Vs K (fun x => x ∉ ([] : List V4)) v) (hl : ∀ x, x ∈ left' ↔ x ∈ left ∧ x ≠ a) :
  ∀ v, K' v ↔ Mid bud As Vs (fun x => x ∉ left') v := by
 intro v
 rw [hK']
 unfold Inn
 rw [hK]
 unfold Mid
 constructor
 ·rintro (⟨x, h1, h2, h3⟩ | ⟨x, h1, h2, h3, h4⟩)
  ·exact ⟨x, h1, fun h => h2 ((hl x).1 h).1, h3⟩
  ·exact ⟨a, ha, fun h => ((hl a).1 h).2 rfl, x, h1, h3, h4⟩
 ·rintro ⟨x, h1, h2, y, h3, h4, h5⟩
  by_cases e : x = a
  ·subst e; exact .inr ⟨y, h3, by simp, h4, h5⟩
  ·exact .inl ⟨x, h1, fun h => h2 ((hl x).2 ⟨h, e⟩), y, h3, h4, h5⟩
set_option maxRecDepth 100000 in
set_option maxHeartbeats 16000000 in
theorem rest_of (X : Scn) (m : Nat) (es : List Ent) (bv : Value) (q : Nat → Bool) (w : World) (hM : GMap gptr w m (entL es)) (hE : ∀ e ∈ es, EntOk w e) (hnd : (es.map (·.b)).Nodup) (hl : X.lost.In 1000) (hb : X.bud.In 1000)
  (heq : ∀ e ∈ es, ∀ u, Below w.heap.size w u → (binOp .eql 81 (gptr e.b) bv).run Tryz.prog u = .ok (.bool (q e.b)) u) :
  Calls Tryz.prog 26 #[.agg #[X.sv, .map (some X.m), .int .i64 X.lost.a, .int .i64 X.lost.b, .int .i64 X.lost.c, .int .i64 X.lost.d, .int .i64 X.bud.a, .int .i64 X.bud.b, .int .i64 X.bud.c, .int .i64 X.bud.d, X.hv], .map (some m), bv] w fun e w' => ∃ S L done, e = .returned (.map (some S)) ∧ w.heap.size ≤ S ∧ GMap V4.v w' S L ∧ done.Perm ((es.map (·.b)).filter (fun b => !q b)) ∧ (∀ v, v ∈ L.map (·.1) ↔ Sums X.lost X.bud (vecs es) done v) ∧ Below w.heap.size w w' := by
 have HM := Lib.hid hM
 have HE := Lib.hid hE
 have HND := Lib.hid hnd
 have HEQ := Lib.hid heq
 have HL := Lib.hid hl
 have HB := Lib.hid hb
 obtain ⟨W, hW⟩ : ∃ W, (w.alloc (.cells #[X.sv, .map (some X.m), .int .i64 X.lost.a, .int .i64 X.lost.b, .int .i64 X.lost.c, .int .i64 X.lost.d, .int .i64 X.bud.a, .int .i64 X.bud.b, .int .i64 X.bud.c, .int .i64 X.bud.d, X.hv] 78)).alloc (.map #[] 0) = W := ⟨_, rfl⟩
 have EW : Hid (Below w.heap.size w W) := by rw [← hW]; exact ext_alloc (ext_alloc (ext_refl w) _) _
 have BX : Hid (Blk W w.heap.size X.cells) := by rw [← hW]; exact (Blk.newH w X.cells 78 w.heap.size rfl).alloc _
 have BL : Hid (GMap V4.v W (w.heap.size + 1) []) := by
  rw [← hW]
  have q := GMap.made (enc := V4.v) (w.alloc (.cells #[X.sv, .map (some X.m), .int .i64 X.lost.a, .int .i64 X.lost.b, .int .i64 X.lost.c, .int .i64 X.lost.d, .int .i64 X.bud.a, .int .i64 X.bud.b, .int .i64 X.bud.c, .int .i64 X.bud.d, X.hv] 78))
  rw [World.size_alloc] at q; exact q
 have x2 := BX.out.c 2 _ rfl
 have x3 := BX.out.c 3 _ rfl
 have x4 := BX.out.c 4 _ rfl
 have x5 := BX.out.c 5 _ rfl
 have x6 := BX.out.c 6 _ rfl
 have x7 := BX.out.c 7 _ rfl
 have x8 := BX.out.c 8 _ rfl
 have x9 := BX.out.c 9 _ rfl
 have hmk := mk84
 obtain ⟨r, hr⟩ : ∃ r, X.lost.leB X.bud = r := ⟨_, rfl⟩
 have HR := Lib.hid hr
 clear hM hE hnd heq hl hb hr
 go_enter Tryz.func26, Tryz.ntmps26
 go_wp2_with fail
 refine (vin_at r HR.out).mono ?_
 rintro e W2 ⟨rfl, B2⟩
 clear x2 x3 x4 x5 x6 x7 x8 x9 hmk hW
 have EW2 := Lib.hid (ext_trans EW.out B2)
 have BX2 := Lib.hid (BX.out.ext B2)
 have BL2 := Lib.hid (BL.out.ext B2)
 cases r
 case' false =>
  obtain ⟨W3, hW3⟩ : ∃ W3, W2 = W3 := ⟨_, rfl⟩
  obtain ⟨L0, hL0⟩ : ∃ L0 : List (V4 × Value), [] = L0 := ⟨_, rfl⟩
  have HS3 : Hid (∀ v, v ∈ L0.map (·.1) ↔ Sums X.lost X.bud (vecs es) [] v) := by
   rw [← hL0]; intro v
   simp only [List.map_nil, List.not_mem_nil, Sums, false_iff]
   rintro ⟨rfl, h⟩; rw [HR.out] at h; cases h
  have BL3 : Hid (GMap V4.v W3 (w.heap.size + 1) L0) := by rw [← hL0, ← hW3]; exact BL2.out
  have EW3 : Hid (Below w.heap.size w W3) := by rw [← hW3]; exact EW2.out
  have BX3 : Hid (Blk W3 w.heap.size X.cells) := by rw [← hW3]; exact BX2.out
  rw [hW3]
  have RG := Lib.hid ((HM.out.ext EW3.out).range Tryz.underlying83)
  obtain ⟨o, hrg, -, hIt⟩ := RG.out
  obtain ⟨W4, hW4⟩ : ∃ W4, W3.alloc o = W4 := ⟨_, rfl⟩
  rw [hW4] at hIt hrg
  have E4 : Hid (Below w.heap.size w W4) := by rw [← hW4]; exact ext_alloc EW3.out o
  have BX4 : Hid (Blk W4 w.heap.size X.cells) := by rw [← hW4]; exact BX3.out.alloc o
  have BL4 : Hid (GMap V4.v W4 (w.heap.size + 1) L0) := by rw [← hW4]; exact BL3.out.ext (ext_alloc (ext_refl _) _)
  have IT4 := Lib.hid hIt
  obtain ⟨R0, hR0⟩ : ∃ R0, W3.heap.size = R0 := ⟨_, rfl⟩
  have HR0 : Hid (w.heap.size + 1 < R0) := by rw [← hR0]; exact BL3.out.lt
  rw [hR0] at IT4 hrg
  go_wp2_with fail
  clear hIt hrg hW4 hR0 RG EW3 BX3 BL3
  clear hW3 hL0
 case' true =>
  have x2 := BX2.out.c 2 _ rfl
  have x3 := BX2.out.c 3 _ rfl
  have x4 := BX2.out.c 4 _ rfl
  have x5 := BX2.out.c 5 _ rfl
  obtain ⟨o1, hput, hM', ho1⟩ := BL2.out.upd key76 Tryz.underlying84 X.lost (.bool true) trivial (fun _ _ => trivial)
  have hput' : (Instr.mapUpdate 84 (.map (some (w.heap.size + 1))) (.agg #[.int .i64 X.lost.a, .int .i64 X.lost.b, .int .i64 X.lost.c, .int .i64 X.lost.d]) (.bool true)).run Tryz.prog W2 = .ok () (setBlock W2 (w.heap.size + 1) o1) := hput
  obtain ⟨W3, hW3⟩ : ∃ W3, setBlock W2 (w.heap.size + 1) o1 = W3 := ⟨_, rfl⟩
  obtain ⟨L0, hL0⟩ : ∃ L0 : List (V4 × Value), put [] X.lost (.bool true) = L0 := ⟨_, rfl⟩
  rw [hW3] at hput' hM'
  rw [hL0] at hM'
  have HS3 : Hid (∀ v, v ∈ L0.map (·.1) ↔ Sums X.lost X.bud (vecs es) [] v) := by
   rw [← hL0]; intro v
   rw [put_key]
   simp only [List.map_nil, List.not_mem_nil, Sums, false_or]
   exact ⟨fun h => ⟨h, by rw [h]; exact HR.out⟩, fun h => h.1⟩
  have BL3 : Hid (GMap V4.v W3 (w.heap.size + 1) L0) := hM'
  have EW3 : Hid (Below w.heap.size w W3) := by rw [← hW3]; exact below_sb EW2.out _ _ (by omega)
  have BX3 : Hid (Blk W3 w.heap.size X.cells) := by rw [← hW3]; exact BX2.out.sb _ (by omega)
  clear hput hM' ho1
  have RG := Lib.hid ((HM.out.ext EW3.out).range Tryz.underlying83)
  obtain ⟨o, hrg, -, hIt⟩ := RG.out
  obtain ⟨W4, hW4⟩ : ∃ W4, W3.alloc o = W4 := ⟨_, rfl⟩
  rw [hW4] at hIt hrg
  have E4 : Hid (Below w.heap.size w W4) := by rw [← hW4]; exact ext_alloc EW3.out o
  have BX4 : Hid (Blk W4 w.heap.size X.cells) := by rw [← hW4]; exact BX3.out.alloc o
  have BL4 : Hid (GMap V4.v W4 (w.heap.size + 1) L0) := by rw [← hW4]; exact BL3.out.ext (ext_alloc (ext_refl _) _)
  have IT4 := Lib.hid hIt
  obtain ⟨R0, hR0⟩ : ∃ R0, W3.heap.size = R0 := ⟨_, rfl⟩
  have HR0 : Hid (w.heap.size + 1 < R0) := by rw [← hR0]; exact BL3.out.lt
  rw [hR0] at IT4 hrg
  go_wp2_with fail
  clear hIt hrg hW4 hR0 RG EW3 BX3 BL3
  clear hW3 hL0 x2 x3 x4 x5 hput'
 all_goals clear BX2 EW2 BL2 HR
 all_goals
  go_loopw [7] (fun a wr => ∃ (left : List (Nat × Value)) (done : List Nat) (S : Nat) (L : List (V4 × Value)), a = .map (some S) ∧ w.heap.size ≤ S ∧ Hid (GIter gptr wr R0 m (entL es) left) ∧ Hid (GMap V4.v wr S L) ∧ Hid (∀ v, v ∈ L.map (·.1) ↔ Sums X.lost X.bud (vecs es) done v) ∧ Hid ((done ++ (left.map (·.1)).filter (fun b => !q b)).Perm ((es.map (·.b)).filter (fun b => !q b))) ∧ Hid (Below w.heap.size w wr) ∧ Hid (Blk wr w.heap.size X.cells)) (fun _ wr => gleft wr R0)
  case atStart => exact ⟨entL es, [], _, L0, rfl, by omega, IT4, BL4, HS3, by rw [List.nil_append, show (entL es).map (·.1) = es.map (·.b) by simp [entL]]; exact List.Perm.refl _, E4, BX4⟩
  case round =>
   obtain ⟨left, done, S, L, rfl, hS, HI, HML, HSU, HPM, E5, BX5⟩ := hrel
   obtain ⟨wo, rfl⟩ : ∃ wo, wo = wr := ⟨_, rfl⟩
   clear IT4 BL4 HS3 E4 BX4
   have hgl := HI.out.gleft
   rcases HI.out.step key81 0 with ⟨rfl, hnx⟩ | ⟨p, W5, hp, hnx, hen, hI5, hlen, hst⟩
   ·have HP2 : Hid (done.Perm ((es.map (·.b)).filter (fun b => !q b))) := by have := HPM.out; simpa [Hid] using this
    clear hgl HPM
    go_wp2_with fail
    refine bodyPost_ret (v := .map (some S)) (by simp [results, Tryz.results26, go_sem, *]) rfl ?_
    exact ⟨S, L, done, rfl, hS, HML.out, HP2.out, HSU.out, E5.out⟩
   ·obtain ⟨e, he, rfl⟩ : ∃ e ∈ es, p = (e.b, .map (some e.mb)) := by
     have := HI.out.sub p hp
     unfold entL at this
     obtain ⟨e, he, h⟩ := List.mem_map.1 this
     exact ⟨e, he, h.symm⟩
    have hhR := HR0.out
    have hgl5 := hI5.gleft
    have HPK := Lib.hid (perm_pick HI.out.nd hp)
    have HLT : Hid (gleft W5 R0 < gleft wo R0) := by unfold Hid; rw [hgl5, hgl]; omega
    obtain ⟨left5, hl5⟩ : ∃ q, left.filter (fun q => !decide (q.1 = e.b)) = q := ⟨_, rfl⟩
    have HI5 : Hid (GIter gptr W5 R0 m (entL es) left5) := by rw [← hl5]; exact hI5
    rw [hl5] at HPK
    have E6 := Lib.hid (hst.below E5.out (by omega))
    have BX6 : Hid (Blk W5 w.heap.size X.cells) := BX5.out.keepB (hst.keep _ (by omega))
    have HML6 : Hid (GMap V4.v W5 S L) := HML.out.of_block (hst.keep _ (gne HML.out HI.out))
    have HEE := Lib.hid ((HE.out e he).ext E6.out)
    have HVA := Lib.hid (vecs_at HND.out he)
    have heq := HEQ.out e he W5 E6.out
    have HHE := Lib.hid he
    obtain ⟨qb, hqb⟩ : ∃ qb, q e.b = qb := ⟨_, rfl⟩
    have HQB := Lib.hid hqb
    rw [hqb] at heq
    clear hgl hgl5 hp hI5 hlen hst HML BX5 E5 HI hl5 he hqb hhR
    cases qb
    case true =>
     go_wp2_with fail
     go_roundw
     case rel =>
      refine ⟨left5, done, S, L, rfl, hS, HI5, HML6, HSU, ?_, E6, BX6⟩
      have h1 := HPK.out.filter (fun b => !q b)
      rw [List.filter_cons_of_neg (by rw [HQB.out]; simp)] at h1
      exact (h1.symm.append_left done).trans HPM.out
     case measure => exact HLT.out
    case false =>
     have hmk := mk84
     obtain ⟨W6, hW6⟩ : ∃ W6, W5.alloc (.map #[] 0) = W6 := ⟨_, rfl⟩
     have EE6 : Below W5.heap.size W5 W6 := by rw [← hW6]; exact ext_alloc (ext_refl _) _
     have hz6 : W6.heap.size = W5.heap.size + 1 := by rw [← hW6]; simp
     obtain ⟨o7, hrg7, -, hIt7⟩ := (HML6.out.ext EE6).range Tryz.underlying84
     rw [hz6] at hrg7 hIt7
     obtain ⟨W7, hW7⟩ : ∃ W7, W6.alloc o7 = W7 := ⟨_, rfl⟩
     rw [hW7] at hrg7 hIt7
     have E7 : Hid (Below W5.heap.size W5 W7) := by rw [← hW7]; exact ext_alloc EE6 o7
     have MN7 : Hid (GMap V4.v W7 W5.heap.size []) := by rw [← hW7, ← hW6]; exact (GMap.made (enc := V4.v) W5).ext (ext_alloc (ext_refl _) _)
     have IT7 := Lib.hid hIt7
     have hs5 : S < W5.heap.size := HML6.out.lt
     have HS5 := Lib.hid hs5
     clear hz6 EE6 hs5 hIt7
     go_wp2_with fail
     clear hmk hW6 hW7 hrg7 hnx hen heq
     go_loopw [36] (fun _ wr => ∃ (left1 : List (V4 × Value)) (L1 : List (V4 × Value)), Hid (GIter V4.v wr (W5.heap.size + 1) S L left1) ∧ Hid (GMap V4.v wr W5.heap.size L1) ∧ Hid (∀ v, v ∈ L1.map (·.1) ↔ Mid X.bud (L.map (·.1)) (e.vl.map (·.1)) (fun x => x ∉ left1.map (·.1)) v) ∧ Hid (Below W5.heap.size W5 wr)) (fun _ wr => gleft wr (W5.heap.size + 1))
     case atStart =>
      refine ⟨L, [], IT7, MN7, ?_, E7⟩
      intro v
      simp only [List.map_nil, List.not_mem_nil, false_iff, Mid]
      rintro ⟨x, h1, h2, _⟩; exact h2 h1
     case round =>
      obtain ⟨left1, L1, HI1, MN1, HK1, E8⟩ := hrel
      obtain ⟨wm, rfl⟩ : ∃ wm, wm = wr := ⟨_, rfl⟩
      clear IT7 MN7 E7
      have hgl := HI1.out.gleft
      rcases HI1.out.step key76 0 with ⟨rfl, hnx⟩ | ⟨p, W8, hp, hnx, hen, hI8, hlen, hst⟩
      ·clear hgl
       have HLT9 : Hid (gleft wm R0 < gleft wo R0) := by
        unfold Hid; rw [(HI5.out.ext E8.out).gleft, ← HI5.out.gleft]; exact HLT.out
       go_wp2_with fail
       go_roundw
       case rel =>
        refine ⟨left5, e.b :: done, W5.heap.size, L1, rfl, by have := E6.out.size; omega, HI5.out.ext E8.out, MN1, ?_, ?_, E6.out.trans (E8.out.mono E6.out.size), BX6.out.ext E8.out⟩
        ·intro v
         rw [HK1.out, Sums, HVA.out]
         unfold Mid
         constructor
         ·rintro ⟨a, h1, _, h3⟩; exact ⟨a, (HSU.out a).1 h1, h3⟩
         ·rintro ⟨a, h1, h3⟩; exact ⟨a, (HSU.out a).2 h1, by simp, h3⟩
        ·have h1 := HPK.out.filter (fun b => !q b)
         rw [List.filter_cons_of_pos (by rw [HQB.out]; rfl)] at h1
         exact ((List.perm_middle.symm.trans (h1.symm.append_left done))).trans HPM.out
       case measure => exact HLT9.out
      ·have hgl8 := hI8.gleft
       obtain ⟨a, av⟩ := p
       dsimp only at hnx hen hI8 hlen hgl8
       have HKEY := Lib.hid (fun x => mem_filter_key (l := left1) (p := a) (a := x))
       have haL := HI1.out.sub _ hp
       have HAL : Hid (a ∈ L.map (·.1)) := List.mem_map.2 ⟨_, haL, rfl⟩
       have HLT8 : Hid (gleft W8 (W5.heap.size + 1) < gleft wm (W5.heap.size + 1)) := by unfold Hid; rw [hgl8, hgl]; omega
       obtain ⟨left8, hl8⟩ : ∃ q, left1.filter (fun q => !decide (q.1 = a)) = q := ⟨_, rfl⟩
       have HI8 : Hid (GIter V4.v W8 (W5.heap.size + 1) S L left8) := by rw [← hl8]; exact hI8
       rw [hl8] at HKEY
       have E9 := Lib.hid (hst.below E8.out (by omega))
       have MN9 : Hid (GMap V4.v W8 W5.heap.size L1) := MN1.out.of_block (hst.keep _ (by omega))
       have hz8 : W8.heap.size = wm.heap.size := hst.size
       have HAI : Hid (a.In 1000) := sums_in HL.out HB.out (fun b v hv => by
        unfold vecs at hv
        split at hv
        ·rename_i e1 h1
         obtain ⟨p1, h2, rfl⟩ := List.mem_map.1 hv
         exact (HE.out e1 (List.mem_of_find?_eq_some h1)).v p1 h2
        ·cases hv) done a ((HSU.out a).1 HAL.out)
       obtain ⟨W9, hW9⟩ : ∃ W9, W8.alloc (.cells #[.int .i64 a.a, .int .i64 a.b, .int .i64 a.c, .int .i64 a.d] 76) = W9 := ⟨_, rfl⟩
       have EE9 : Below W8.heap.size W8 W9 := by rw [← hW9]; exact ext_alloc (ext_refl _) _
       have hz9 : W9.heap.size = W8.heap.size + 1 := by rw [← hW9]; simp
       have BA9 : Blk W9 W8.heap.size a.cells := by rw [← hW9]; exact Blk.newH W8 a.cells 76 W8.heap.size rfl
       obtain ⟨o10, hrg10, -, hIt10⟩ := ((HEE.out.m.ext E9.out).ext EE9).range Tryz.underlying84
       rw [hz9] at hrg10 hIt10
       obtain ⟨W10, hW10⟩ : ∃ W10, W9.alloc o10 = W10 := ⟨_, rfl⟩
       rw [hW10] at hrg10 hIt10
       have E10 : Hid (Below W8.heap.size W8 W10) := by rw [← hW10]; exact ext_alloc EE9 o10
       have BA10 : Hid (Blk W10 W8.heap.size a.cells) := by rw [← hW10]; exact BA9.alloc o10
       have IT10 := Lib.hid hIt10
       have HNR : Hid (W5.heap.size + 1 < W8.heap.size) := by have := HI8.out.lt; exact this
       clear hgl hgl8 hp hI8 hlen hst hl8 haL hz9 EE9 BA9 hIt10 HI1 MN1 E8 hz8
       go_wp2_with fail
       clear hW9 hW10 hrg10 hnx hen
       go_loopw [42] (fun _ wr => ∃ (left2 : List (V4 × Value)) (L2 : List (V4 × Value)), Hid (GIter V4.v wr (W8.heap.size + 1) e.mb e.vl left2) ∧ Hid (GMap V4.v wr W5.heap.size L2) ∧ Hid (∀ v, v ∈ L2.map (·.1) ↔ Inn X.bud a (e.vl.map (·.1)) (fun v => v ∈ L1.map (·.1)) (fun x => x ∉ left2.map (·.1)) v) ∧ Hid (Below W5.heap.size W5 wr) ∧ Hid (Blk wr W8.heap.size a.cells) ∧ Hid (GIter V4.v wr (W5.heap.size + 1) S L left8)) (fun _ wr => gleft wr (W8.heap.size + 1))
       case atStart =>
        refine ⟨e.vl, L1, IT10, MN9.out.ext E10.out, ?_, E9.out.trans (E10.out.mono E9.out.size), BA10, HI8.out.ext E10.out⟩
        intro v
        unfold Inn
        constructor
        ·exact fun h => .inl h
        ·rintro (h | ⟨x, h1, h2, _⟩)
         ·exact h
         ·exact absurd h1 h2
       case round =>
        obtain ⟨left2, L2, HI2, MN2, HK2, E11, BA11, HR11⟩ := hrel
        obtain ⟨wi, rfl⟩ : ∃ wi, wi = wr := ⟨_, rfl⟩
        clear IT10 BA10
        have hgl := HI2.out.gleft
        rcases HI2.out.step key76 0 with ⟨rfl, hnx⟩ | ⟨p, W11, hp, hnx, hen, hI11, hlen, hst⟩
        ·clear hgl
         have HLT9 : Hid (gleft wi (W5.heap.size + 1) < gleft wm (W5.heap.size + 1)) := by
          unfold Hid; rw [HR11.out.gleft, ← HI8.out.gleft]; exact HLT8.out
         go_wp2_with fail
         go_roundw
         case rel =>
          exact ⟨left8, L2, HR11, MN2, mid_step HAL.out HK1.out HK2.out HKEY.out, E11⟩
         case measure => exact HLT9.out
        ·have hgl11 := hI11.gleft
         obtain ⟨b, bw⟩ := p
         dsimp only at hnx hen hI11 hlen hgl11
         have HKB := Lib.hid (fun x => mem_filter_key (l := left2) (p := b) (a := x))
         have hbL := HI2.out.sub _ hp
         have HBL : Hid (b ∈ e.vl.map (·.1)) := List.mem_map.2 ⟨_, hbL, rfl⟩
         have HBI : Hid (b.In 1000) := HEE.out.v _ hbL
         have HLT11 : Hid (gleft W11 (W8.heap.size + 1) < gleft wi (W8.heap.size + 1)) := by unfold Hid; rw [hgl11, hgl]; omega
         obtain ⟨left11, hl11⟩ : ∃ q, left2.filter (fun q => !decide (q.1 = b)) = q := ⟨_, rfl⟩
         have HI11 : Hid (GIter V4.v W11 (W8.heap.size + 1) e.mb e.vl left11) := by rw [← hl11]; exact hI11
         rw [hl11] at HKB
         have hnr := HNR.out
         have hs5 := HS5.out
         have E12 := Lib.hid (hst.below E11.out (by omega))
         have MN12 : Hid (GMap V4.v W11 W5.heap.size L2) := MN2.out.of_block (hst.keep _ (by omega))
         have BA12 : Hid (Blk W11 W8.heap.size a.cells) := BA11.out.keepB (hst.keep _ (by omega))
         have HR12 : Hid (GIter V4.v W11 (W5.heap.size + 1) S L left8) := HR11.out.of_block (hst.keep _ (by omega)) (hst.keep _ (by omega))
         obtain ⟨z, hz⟩ : ∃ z, a.plus b = z := ⟨_, rfl⟩
         have HZ := Lib.hid hz
         obtain ⟨rr, hrr⟩ : ∃ rr, z.leB X.bud = rr := ⟨_, rfl⟩
         have HRR := Lib.hid hrr
         have HPL := Lib.hid (fun u => vplus_any a b u (HAI.out.mono (by omega)) (HBI.out.mono (by omega)))
         rw [hz] at HPL
         obtain ⟨W12, hW12⟩ : ∃ W12, W11.alloc (.cells #[.int .i64 b.a, .int .i64 b.b, .int .i64 b.c, .int .i64 b.d] 76) = W12 := ⟨_, rfl⟩
         have EE12 : Hid (Below W11.heap.size W11 W12) := by rw [← hW12]; exact ext_alloc (ext_refl _) _
         have BB12 : Blk W12 W11.heap.size b.cells := by rw [← hW12]; exact Blk.newH W11 b.cells 76 W11.heap.size rfl
         have BAx := BA12.out.ext EE12.out
         have y0 := BAx.c 0 _ rfl
         have y1 := BAx.c 1 _ rfl
         have y2 := BAx.c 2 _ rfl
         have y3 := BAx.c 3 _ rfl
         have v0 := BB12.c 0 _ rfl
         have v1 := BB12.c 1 _ rfl
         have v2 := BB12.c 2 _ rfl
         have v3 := BB12.c 3 _ rfl
         clear hgl hgl11 hp hI11 hlen hst hl11 hbL hnr hs5 hz hrr BB12 BAx HI2 MN2 E11 BA11 HR11
         go_wp2_with fail
         refine (HPL.out _).mono ?_
         rintro e1 u1 ⟨rfl, B1⟩
         clear y0 y1 y2 y3 v0 v1 v2 v3 hnx hen hW12
         have E13 := Lib.hid (EE12.out.trans (B1.mono EE12.out.size))
         obtain ⟨W14, hW14⟩ : ∃ W14, u1.alloc (.cells #[.int .i64 z.a, .int .i64 z.b, .int .i64 z.c, .int .i64 z.d] 76) = W14 := ⟨_, rfl⟩
         have E14 : Hid (Below W11.heap.size W11 W14) := by rw [← hW14]; exact ext_alloc E13.out _
         have BZ14 : Hid (Blk W14 u1.heap.size z.cells) := by rw [← hW14]; exact Blk.newH u1 z.cells 76 u1.heap.size rfl
         have BZx := BZ14.out
         have BXx := (BX6.out.ext E12.out).ext E14.out
         have y0 := BZx.c 0 _ rfl
         have y1 := BZx.c 1 _ rfl
         have y2 := BZx.c 2 _ rfl
         have y3 := BZx.c 3 _ rfl
         have x6 := BXx.c 6 _ rfl
         have x7 := BXx.c 7 _ rfl
         have x8 := BXx.c 8 _ rfl
         have x9 := BXx.c 9 _ rfl
         clear BZx BXx B1 E13
         go_wp2_with fail
         refine (vin_at rr HRR.out).mono ?_
         rintro e1 u2 ⟨rfl, B2⟩
         clear y0 y1 y2 y3 x6 x7 x8 x9 hW14
         have E15 := Lib.hid (E14.out.trans (B2.mono E14.out.size))
         have BZ2 := BZ14.out.ext B2
         have y0 := BZ2.c 0 _ rfl
         have y1 := BZ2.c 1 _ rfl
         have y2 := BZ2.c 2 _ rfl
         have y3 := BZ2.c 3 _ rfl
         clear BZ2
         have HI15 := Lib.hid (HI11.out.ext E15.out)
         cases rr
         case false =>
          clear y0 y1 y2 y3
          have HM15 : Hid (gleft u2 (W8.heap.size + 1) < gleft wi (W8.heap.size + 1)) := by
           unfold Hid; rw [HI15.out.gleft, ← HI11.out.gleft]; exact HLT11.out
          go_wp2_with fail
          go_roundw
          case rel => exact ⟨left11, L2, HI15, MN12.out.ext E15.out, inn_step HBL.out HZ.out HK2.out (fun v => by rw [HRR.out]; simp) HKB.out, E12.out.trans (E15.out.mono E12.out.size), BA12.out.ext E15.out, HR12.out.ext E15.out⟩
          case measure => exact HM15.out
         case true =>
          obtain ⟨o2, hput, hM', ho2⟩ := (MN12.out.ext E15.out).upd key76 Tryz.underlying84 z (.bool true) trivial (fun _ _ => trivial)
          have hput' : (Instr.mapUpdate 84 (.map (some W5.heap.size)) (.agg #[.int .i64 z.a, .int .i64 z.b, .int .i64 z.c, .int .i64 z.d]) (.bool true)).run Tryz.prog u2 = .ok () (setBlock u2 W5.heap.size o2) := hput
          have hnr := HNR.out
          have hs5 := HS5.out
          have hmbN : e.mb ≠ W5.heap.size := by have := HEE.out.m.lt; omega
          have HI16 : Hid (GIter V4.v (setBlock u2 W5.heap.size o2) (W8.heap.size + 1) e.mb e.vl left11) := HI15.out.of_block (sb_other _ _ hmbN) (sb_other _ _ (by omega))
          have HR16 : Hid (GIter V4.v (setBlock u2 W5.heap.size o2) (W5.heap.size + 1) S L left8) := (HR12.out.ext E15.out).of_block (sb_other _ _ (by omega)) (sb_other _ _ (by omega))
          have BA16 : Hid (Blk (setBlock u2 W5.heap.size o2) W8.heap.size a.cells) := (BA12.out.ext E15.out).sb _ (by omega)
          have E16 : Hid (Below W5.heap.size W5 (setBlock u2 W5.heap.size o2)) := below_sb (E12.out.trans (E15.out.mono E12.out.size)) _ _ (Nat.le_refl _)
          have HM16 : Hid (gleft (setBlock u2 W5.heap.size o2) (W8.heap.size + 1) < gleft wi (W8.heap.size + 1)) := by
           unfold Hid; rw [HI16.out.gleft, ← HI11.out.gleft]; exact HLT11.out
          have MN16 := Lib.hid hM'
          clear hput hM' ho2 hnr hs5 hmbN
          go_wp2_with fail
          go_roundw
          case rel => exact ⟨left11, _, HI16, MN16, inn_step HBL.out HZ.out HK2.out (fun v => by rw [put_key, HRR.out]; simp) HKB.out, E16, BA16, HR16⟩
          case measure => exact HM16.out
end Go.Proofs.YtjiojpoiocdnmaaGreat
/- Pointers compared; leaving with a row of marks. -/
set_option linter.unusedSimpArgs false
set_option linter.unusedVariables false
namespace Go.Proofs.YtjiojpoiocdnmaaGreat
open Go.RowKit Go.ChangeMaps
theorem eqlP {a b : Nat} {w : World} (ha : isGrp w a) (hb : isGrp w b) : (binOp .eql 81 (gptr a) (gptr b)).run Tryz.prog w = .ok (.bool (decide (a = b))) w := by
  have h := fun d => eqP' d ha hb
  simp only [binOp]
  simp [Op.equal, Op.maxDepth, h 9999]
theorem eqlNil (a : Nat) (w : World) : (binOp .eql 81 (gptr a) (.pointer none)).run Tryz.prog w = .ok (.bool false) w := by
  obtain ⟨j, hj, hs⟩ := info94
  have h : ∀ d : Nat, (Op.equalIn (d + 1) 81 (gptr a) (.pointer none)).run Tryz.prog w = .ok false w := fun d => by
    simp [Op.equalIn, run_underlying Tryz.underlying81, sizeOf, typeInfo, hj, hs]
  simp only [binOp]
  simp [Op.equal, Op.maxDepth, h 9999]
def mark (D : Nat) : Deferred := { target := .collected D, args := #[] }
/-- The marks that the ranges over a function have left. -/
structure Dfs (B : Nat) (Ds : List Nat) (W : World) : Prop where
  nd : Ds.Nodup
  ok : ∀ D ∈ Ds, B ≤ D ∧ D < W.heap.size ∧ W.heap[D]? = some (.deferred (some []))
theorem Dfs.nil (B : Nat) (W : World) : Dfs B [] W := ⟨List.nodup_nil, by simp⟩
theorem Dfs.kb {B : Nat} {Ds : List Nat} {W W' : World} (h : Dfs B Ds W) (hk : KB W W') : Dfs B Ds W' :=
  ⟨h.nd, fun D hD => by
    obtain ⟨h1, h2, h3⟩ := h.ok D hD
    exact ⟨h1, Nat.lt_of_lt_of_le h2 hk.1, (hk.2 D h2 (fun c f e => by rw [h3] at e; cases e)).trans h3⟩⟩
theorem Dfs.add {B : Nat} {Ds : List Nat} {W : World} (h : Dfs B Ds W) {D : Nat} (hn : D ∉ Ds) (hB : B ≤ D) (hk : W.heap[D]? = some (.deferred (some []))) : Dfs B (D :: Ds) W :=
  ⟨List.nodup_cons.2 ⟨hn, h.nd⟩, fun x hx => by
    rcases List.mem_cons.1 hx with rfl | h1
    · exact ⟨hB, (Array.getElem?_eq_some_iff.1 hk).1, hk⟩
    · exact h.ok x h1⟩
theorem leaves_marks {F : Fence} {n : Nat} {P : Program} {fn : Func} {tmps : Array Value} {R : Ending → World → Prop} {B : Nat} : ∀ (Ds : List Nat) (w : World), Dfs B Ds w → (∀ w', Below B w w' → LeavesIn F n P fn tmps R [] .returning w') → LeavesInM F n P fn tmps R (Ds.map mark) .returning w
  | [], w, _, hf => hf w (Below.refl _ _)
  | D :: Ds, w, h, hf => by
    have hD := h.ok D (by simp)
    refine ⟨by simp, .inl ⟨D, _, rfl, run_takeDeferred hD.2.2, ?_⟩⟩
    refine leaves_marks Ds _ ⟨(List.nodup_cons.1 h.nd).2, fun x hx => ?_⟩ (fun w' hb => hf w' ((below_put w D _ hD.1).trans hb))
    have hx' := h.ok x (by simp [hx])
    have hne : x ≠ D := fun e => (List.nodup_cons.1 h.nd).1 (e ▸ hx)
    exact ⟨hx'.1, by simp; exact hx'.2.1, (World.putObj_heap_other hne).trans hx'.2.2⟩
end Go.Proofs.YtjiojpoiocdnmaaGreat
