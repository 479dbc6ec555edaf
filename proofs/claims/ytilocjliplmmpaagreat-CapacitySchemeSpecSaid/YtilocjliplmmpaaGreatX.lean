/- Of. -/
import Derived.Test.YtilocjliplmmpaaGreatV
import Derived.Test.YtilocjliplmmpaaGreatRgIn
import Derived.Test.YtilocjliplmmpaaGreatLB
set_option linter.unusedSimpArgs false
set_option linter.unusedVariables false
namespace Go.Proofs.YtilocjliplmmpaaGreat
open Go.RowKit Go.Shelf Go.Maps
attribute [local go_sem] Oper.semAt_some
/-- A map from bool to int that the call makes. -/
def ZMap (P : Program) (k e : TypeId) (w : World) (b n : Nat) (f : Bool → Int) : Prop :=
  ∃ D : DataW Unit, w.ownsMap P k (plainElem P e) b n D ∧ IsMap D ∧ ∀ i, D.atKey (.bool i) (.lit (.int .i64 0)) = .lit (.int .i64 (f i))
section
variable {P : Program} {k e t : TypeId} {w w' : World} {b n : Nat}
theorem ZMap.made (w : World) : ZMap P k e (w.alloc (.map #[] 0)) w.heap.size 0 (fun _ => 0) := ⟨.map [], World.ownsMap_made _ _ _ _, isMap_empty, fun _ => rfl⟩
theorem ZMap.lt {f : Bool → Int} (h : ZMap P k e w b n f) : b < w.heap.size := let ⟨_, h, _⟩ := h; ownsMap_lt h
theorem ZMap.ext {f : Bool → Int} (h : ZMap P k e w b n f) (hb : Below w.heap.size w w') : ZMap P k e w' b n f := let ⟨D, q, r⟩ := h; ⟨D, ownsMap_block q (hb.block b h.lt), r⟩
theorem ZMap.look {f : Bool → Int} (h : ZMap P k e w b n f) (hk : P.underlying k = some .bool) (ht : P.underlying t = some (.map k e)) (he : P.underlying e = some (.int .i64)) (hz : (zeroValue e).run P w = .ok (.int .i64 0) w)
    (i : Bool) : (Instr.lookup t (.map (some b)) (.bool i) false).run P w = .ok (.int .i64 (f i)) w := by
  obtain ⟨D, h, hm, hf⟩ := h
  obtain ⟨c, hrun, hc, _⟩ := h.lookup_int (bool_keyed hk) ht he hz (keyOf_bool_mk hk i)
  rw [hf i] at hc
  simp only [DataW.lit.injEq, Lit.int.injEq, true_and] at hc
  rw [hrun, hc]
theorem ZMap.put {f : Bool → Int} (h : ZMap P k e w b n f) (hk : P.underlying k = some .bool) (ht : P.underlying t = some (.map k e)) (he : P.underlying e = some (.int .i64)) (hn : n < maxLen)
    (i : Bool) (x : Int) (hx : (Lit.int .i64 x).wf = true) : ∃ w', (Instr.mapUpdate t (.map (some b)) (.bool i) (.int .i64 x)).run P w = .ok () w' ∧ ZMap P k e w' b (n + 1) (fun j => if j = i then x else f j) ∧ w.grownBy w' (some b) := by
  obtain ⟨D, h, hm, hf⟩ := h
  obtain ⟨w', hrun, ho, hg⟩ := h.update (bool_keyed hk) ht hn (keyOf_bool_mk hk i) (plainElem_int he hx)
  refine ⟨w', hrun, ⟨_, ho, hm.put _ _, fun j => ?_⟩, hg⟩
  by_cases e : j = i
  · subst e; rw [atKey_put_same hm ((bool_keyed hk).key (keyOf_bool_mk hk j))]; simp
  · rw [atKey_put_other (by simpa using e), hf j]; simp [e]
end
theorem mk104 (w : World) : (Instr.makeMap 93 none).run Tryz.prog w = .ok (.map (some w.heap.size)) (w.alloc (.map #[] 0)) := by kernel_rfl
def OfR (w : World) (n e : Int) (x : Ending) (w' : World) : Prop := x = .returned (.tuple #[.int .i64 n, .int .i64 e]) ∧ Below w.heap.size w w'
theorem leaves_has {l : List Nd} {leaf : Int} : (leaves l).any (· == leaf) = leafB l leaf := by
  rw [Bool.eq_iff_iff]
  simp only [List.any_eq_true, beq_iff_eq]
  constructor
  · rintro ⟨x, hx, rfl⟩; exact ((mem_leavesIf l _ _).1 hx).1
  · intro h; exact ⟨leaf, (mem_leavesIf l _ _).2 ⟨h, rfl⟩, rfl⟩
theorem leaves_at {A : Option Addr} {n c : Nat} {l : List Nd} {w : World} (r : List Int × Int) (hr : leavesR l = r) (hn : n = l.length) (ha : TOk w A l) : Calls Tryz.prog 32 #[.slice A n c] w (RetP w r) := by
  subst hr hn; exact leaves_any A c l w ha
theorem fits_ix {t : Tab} {c : Chg} (h : fitsB t c = true) : c.ms.l.length = t.ms.l.length ∧ ∀ (i : Nat) (k : Int) (md : SliceOf Int), c.ms.l[i]? = some k → t.ms.l[i]? = some md → 0 ≤ k ∧ k < md.l.length := by
  simp only [fitsB, Bool.and_eq_true, decide_eq_true_eq, List.all_eq_true] at h
  obtain ⟨⟨_, h1⟩, h2⟩ := h
  refine ⟨h1, fun i k md hk hm => ?_⟩
  exact h2 (k, md) (List.mem_of_getElem? (i := i) (by rw [List.getElem?_zip_eq_some]; exact ⟨hk, hm⟩))
theorem div_in {n : Nat} {ss : List Sec} {g : Cfg} {cs : List Cfg} (h : divT n ss cs = true) (hg : g ∈ cs) {i : Int} {x : Sec} (hi : g.ss.l.any (· == i) = true) (hx : ss[i.toNat]? = some x) : ∀ v ∈ x.vs.l, 0 ≤ v ∧ v < n := by
  have hd := div_of h hg
  have hm : i ∈ g.ss.l := by simpa using hi
  intro v hv
  exact hd.vol i hm v (by rw [volsAt_of hx]; exact hv)
def rawV {N : Nat} (es : List (VC N)) : List (Int × Int) := es.map (fun e => e.1)
theorem rawV_snoc {N : Nat} (es : List (VC N)) (e : VC N) : rawV (es ++ [e]) = rawV es ++ [e.1] := by simp [rawV]
theorem rawV_len {N : Nat} (es : List (VC N)) : (rawV es).length = es.length := by simp [rawV]
theorem es_of {tree : List Nd} (hv : vld tree = true) (leaf m : Int) (N : Nat) : ∀ (vs : List Int), (∀ v ∈ vs, 0 ≤ v ∧ v < N) → ∃ es : List (VC N), es.length = vs.length ∧ (∀ (i : Nat) (x : Int), vs[i]? = some x → ∃ e, es[i]? = some e ∧ e.1 = (x, lessN tree leaf false x m)) ∧ rawV es = vs.map (fun v => (v, lessN tree leaf false v m))
  | [], _ => ⟨[], rfl, fun i x h => by simp at h, rfl⟩
  | v :: r, h => by
    obtain ⟨es, h1, h2, h3⟩ := es_of hv leaf m N r (fun u hu => h u (List.mem_cons_of_mem _ hu))
    have hb := less_pos hv leaf false v m
    have hv' := h v List.mem_cons_self
    refine ⟨⟨(v, lessN tree leaf false v m), hv'.1, hv'.2, hb.1, hb.2⟩ :: es, by simp [h1], fun i x hx => ?_, by simp [rawV] at h3 ⊢; exact h3⟩
    cases i with
    | zero => simp at hx; subst hx; exact ⟨_, rfl, rfl⟩
    | succ i => simpa using h2 i x (by simpa using hx)
def radP (seen : List Bool) (l : List (Int × Int)) : Bool := l.all (fun p => (seen[p.1.toNat]?).getD false)
def sumP : List (Int × Int) → Int
  | [] => 0
  | p :: r => p.2 + sumP r
theorem sumP_snoc (l : List (Int × Int)) (p : Int × Int) : sumP (l ++ [p]) = sumP l + p.2 := by
  induction l with
  | nil => simp [sumP]
  | cons a r ih => simp only [List.cons_append, sumP, ih]; omega
theorem radP_snoc (seen : List Bool) (l : List (Int × Int)) (p : Int × Int) : radP seen (l ++ [p]) = (radP seen l && (seen[p.1.toNat]?).getD false) := by simp [radP]
theorem sumP_le {N : Nat} : ∀ (l : List (VC N)), 0 ≤ sumP (rawV l) ∧ sumP (rawV l) ≤ 135168 * l.length
  | [] => by simp [sumP, rawV]
  | p :: r => by
    have ih := sumP_le r
    have := p.2
    simp only [rawV, List.map_cons, sumP, List.length_cons] at ih ⊢
    omega
theorem radP_map (seen : List Bool) (tree : List Nd) (leaf m : Int) (vs : List Int) : radP seen (vs.map (fun v => (v, lessN tree leaf false v m))) = seenAll seen vs := by
  simp [radP, seenAll, List.all_map, Function.comp_def]
theorem sumP_map (tree : List Nd) (leaf m : Int) : ∀ vs : List Int, sumP (vs.map (fun v => (v, lessN tree leaf false v m))) = vcuts tree leaf m vs
  | [] => rfl
  | v :: r => by simp only [List.map_cons, sumP, vcuts, sumP_map tree leaf m r]
set_option maxRecDepth 100000 in
set_option maxHeartbeats 64000000 in
theorem of_any (t : Tab) (tA : Option Addr) (tc : Nat) (tree : List Nd) (leaf : Int) (A : Option Addr) (c : Nat) (l : List Chg) (sA : Option Addr) (sc : Nat) (seen : List Bool) (z : Cel) (w : World)
    (ht : Tab.ok w t) (htr : TOk w tA tree) (ha : Slc w Chg.cells 3 A l) (hl : l.length ≤ maxLen) (hao : ∀ y ∈ l, Chg.ok w y) (hs : Slc w bc 1 sA seen) (hsl : seen.length ≤ maxLen) (hfew : ∀ s ∈ t.ss.l, s.vs.l.length ≤ 64) :
    Calls Tryz.prog 14 #[t.v, .slice tA tree.length tc, .int .i64 leaf, .agg #[.slice A l.length c], .slice sA seen.length sc, z.v] w (OfR w (ofN t tree leaf l seen z) (ofE t tree leaf l seen.length z)) := by
  obtain ⟨n, hn⟩ : ∃ n, seen.length = n := ⟨_, rfl⟩
  rw [hn]
  have HNN := Lib.hid hn
  clear hn
  obtain ⟨W, hW⟩ : ∃ W, (((w.alloc (.cells #[.int .i64 t.n, .slice t.ss.A t.ss.l.length t.ss.c, .slice t.cs.A t.cs.l.length t.cs.c, .slice t.ws.A t.ws.l.length t.ws.c, .slice t.ms.A t.ms.l.length t.ms.c, .slice t.ks.A t.ks.l.length t.ks.c] 28)).alloc (.cells #[.slice A l.length c] 31)).alloc (.cells #[.slice sA n sc] 45)).alloc (.cells #[.bool z.air, .int .i64 z.ix, .int .i64 z.mi] 47) = W := ⟨_, rfl⟩
  have hz : W.heap.size = w.heap.size + 4 := by rw [← hW]; simp
  have HB : Hid (Blk W w.heap.size t.cells) := by rw [← hW]; exact (((Blk.newH w t.cells 28 w.heap.size rfl).alloc _).alloc _).alloc _
  have HS : Hid (Blk W (w.heap.size + 1) [.slice A l.length c]) := by rw [← hW]; exact ((Blk.newH (w.alloc _) [.slice A l.length c] 31 (w.heap.size + 1) (by simp)).alloc _).alloc _
  have HN : Hid (Blk W (w.heap.size + 1 + 1) [.slice sA n sc]) := by rw [← hW]; exact (Blk.newH ((w.alloc _).alloc _) [.slice sA n sc] 45 (w.heap.size + 1 + 1) (by simp)).alloc _
  have HZ : Hid (Blk W (w.heap.size + 1 + 1 + 1) z.cells) := by rw [← hW]; exact Blk.newH (((w.alloc _).alloc _).alloc _) z.cells 47 (w.heap.size + 1 + 1 + 1) (by simp)
  have HE : Hid (Below w.heap.size w W) := by rw [← hW]; exact ext_alloc (ext_alloc (ext_alloc (ext_alloc (ext_refl w) _) _) _) _
  have HT0 := Lib.hid ht
  have HTR0 := Lib.hid htr
  have HA0 := Lib.hid ha
  have HAO0 := Lib.hid hao
  have HSN0 := Lib.hid hs
  have HFEW := Lib.hid hfew
  have HD : Hid (ofE t tree leaf l n z = if chkS t l ≠ 0 then chkS t l else if vld tree = false then 180 else if leafB tree leaf = false ∨ (n : Int) ≠ t.n ∨ z.mi < 0 ∨ 1440 ≤ z.mi ∨ z.ix < 0 ∨ (manyOf t z.air : Int) ≤ z.ix then 190 else 0) := rfl
  have HNO : Hid (∀ v, ofE t tree leaf l n z = v → v ≠ 0 → ofN t tree leaf l seen z = 0) := fun v h hv => ofN_no (by rw [HNN.out, h]; exact hv)
  clear ht htr ha hao hs hfew
  have b0 := HB.out.c 0 _ rfl
  have b1 := HB.out.c 1 _ rfl
  have b2 := HB.out.c 2 _ rfl
  have b3 := HB.out.c 3 _ rfl
  have b4 := HB.out.c 4 _ rfl
  have b5 := HB.out.c 5 _ rfl
  have s0 := HS.out.c 0 _ rfl
  have n0 := HN.out.c 0 _ rfl
  have z0 := HZ.out.c 0 _ rfl
  have z1 := HZ.out.c 1 _ rfl
  have z2 := HZ.out.c 2 _ rfl
  have zl := HZ.out.lt
  refine (callsIn_wide (n := 5)).1 ?_
  refine callsIn_of_wp_marks Tryz.func14 rfl trivial ?_ rfl
  simp only [Tryz.ntmps14, List.size_toArray, List.length_cons, List.length_nil, Nat.reduceAdd, Nat.reduceSub, Array.replicate_succ, Array.replicate_zero, List.push_toArray, List.append_toArray, List.nil_append, List.cons_append]
  gi_wp2_with fail
  clear hW
  clear b0 b1 b2 b3 b4 b5 s0 n0 z0 z1 z2 zl
  obtain ⟨v, hv⟩ : ∃ v, chkS t l = v := ⟨_, rfl⟩
  rw [hv] at HD
  refine ⟨trivial, (callsIn_wide.2 (check_sat v hv rfl (HT0.out.ext HE.out) (HA0.out.ext HE.out) hl (fun y hy => (HAO0.out y hy).ext HE.out))).mono ?_⟩
  rintro e w1 ⟨rfl, B⟩
  replace HE := Lib.hid (ext_trans HE.out B)
  replace HB := Lib.hid (HB.out.ext B)
  replace HS := Lib.hid (HS.out.ext B)
  replace HN := Lib.hid (HN.out.ext B)
  replace HZ := Lib.hid (HZ.out.ext B)
  have hz1 : w.heap.size + 4 ≤ w1.heap.size := by have := B.size; omega
  have HCH := Lib.hid hv
  clear B hv hz
  by_cases h1 : v = 0
  rotate_left
  · have e1 : (v != 0) = true := by simpa using h1
    rw [if_pos h1] at HD
    have HN0 := Lib.hid (HNO.out v HD.out h1)
    clear h1
    gi_wp2_with fail
    refine ⟨.tuple #[.int .i64 0, .int .i64 v], by simp [results, Tryz.results14, go_sem], ?_⟩
    rw [HD.out, HN0.out]
    exact ⟨rfl, HE.out⟩
  subst h1
  rw [if_neg (by simp)] at HD
  cases htv : vld tree
  · have HLR : Hid (leavesR tree = ([], 180)) := by simp [Hid, leavesR, htv]
    rw [if_pos htv] at HD
    have HN0 := Lib.hid (HNO.out 180 HD.out (by decide))
    gi_wp2_with fail
    refine ⟨trivial, (callsIn_wide.2 (leaves_at _ HLR.out rfl (HTR0.out.ext HE.out))).mono ?_⟩
    rintro e w2 ⟨A2, c2, rfl, hL, B⟩
    gi_wp2_with fail
    refine ⟨.tuple #[.int .i64 0, .int .i64 180], by simp [results, Tryz.results14, go_sem], ?_⟩
    rw [HD.out, HN0.out]
    exact ⟨rfl, ext_trans HE.out B⟩
  have HLR : Hid (leavesR tree = (leaves tree, 0)) := by simp [Hid, leavesR, htv]
  rw [if_neg (by simp [htv])] at HD
  have HTV := Lib.hid htv
  clear htv
  gi_wp2_with fail
  refine ⟨trivial, (callsIn_wide.2 (leaves_at _ HLR.out rfl (HTR0.out.ext HE.out))).mono ?_⟩
  rintro e w2 ⟨A2, c2, rfl, hL, B⟩
  have HLV := Lib.hid hL
  have hz2 := B.size
  replace HE := Lib.hid (ext_trans HE.out B)
  replace HB := Lib.hid (HB.out.ext B)
  replace HS := Lib.hid (HS.out.ext B)
  replace HN := Lib.hid (HN.out.ext B)
  replace HZ := Lib.hid (HZ.out.ext B)
  clear B hL HLR
  have hll : (leaves tree).length ≤ maxLen := by
    have := leaves_le tree (fun _ => true)
    have h32 := (tree_of HTV.out).hi
    have : (leaves tree).length ≤ tree.length := this
    unfold maxLen; omega
  have hsl2 := (HT0.out.ext HE.out).1.len
  have hml2 := (HT0.out.ext HE.out).2.2.2.1.len
  unfold maxLen at hsl2 hml2
  have M0 := ZMap.made (P := Tryz.prog) (k := 4) (e := 3) w2
  have hmk := mk104 w2
  obtain ⟨w3, hput1, M1, hg1⟩ := M0.put (t := 93) Tryz.underlying4 Tryz.underlying93 Tryz.underlying3 (by decide) false (t.ss.l.length : Int) (by simp [Lit.wf, IntKind.min, IntKind.max, IntKind.signed, IntKind.bits]; omega)
  obtain ⟨w4, hput2, M2, hg2⟩ := M1.put (t := 93) Tryz.underlying4 Tryz.underlying93 Tryz.underlying3 (by decide) true (t.ms.l.length : Int) (by simp [Lit.wf, IntKind.min, IntKind.max, IntKind.signed, IntKind.bits]; omega)
  have B2 : Below w2.heap.size w2 (w2.alloc (.map #[] 0)) := ext_alloc (ext_refl w2) _
  have B3 : Below w2.heap.size w2 w3 := B2.grown hg1 B2.size (fun r e => by cases e; exact Nat.le_refl _)
  have B4 : Below w2.heap.size w2 w4 := B3.grown hg2 B3.size (fun r e => by cases e; exact Nat.le_refl _)
  have HM : Hid (ZMap Tryz.prog 4 3 w4 w2.heap.size 2 (fun j => (manyOf t j : Int))) := by
    obtain ⟨D, d1, d2, d3⟩ := M2
    exact ⟨D, d1, d2, fun i => by rw [d3 i]; cases i <;> rfl⟩
  have x0 := (HB.out.ext B2).c 1 _ rfl
  have xl := HB.out.lt
  have x1 := (HB.out.ext B3).c 4 _ rfl
  clear M0 M1 M2 hg1 hg2 B2
  gi_wp2_with fail
  clear x0 x1 xl hput1 hput2 hmk
  replace HE := Lib.hid (ext_trans HE.out B4)
  replace HB := Lib.hid (HB.out.ext B4)
  replace HS := Lib.hid (HS.out.ext B4)
  replace HN := Lib.hid (HN.out.ext B4)
  replace HZ := Lib.hid (HZ.out.ext B4)
  have HLV4 := Lib.hid (HLV.out.ext B4)
  have hz4 := B4.size
  clear B3 B4 HLV
  obtain ⟨lb, hlb⟩ : ∃ r, leafB tree leaf = r := ⟨_, rfl⟩
  refine ⟨trivial, (callsIn_wide.2 (contains_at lb (leaves_has.trans hlb) rfl HLV4.out hll)).mono ?_⟩
  rintro e w5 ⟨rfl, B⟩
  replace HE := Lib.hid (ext_trans HE.out B)
  replace HB := Lib.hid (HB.out.ext B)
  replace HS := Lib.hid (HS.out.ext B)
  replace HN := Lib.hid (HN.out.ext B)
  replace HZ := Lib.hid (HZ.out.ext B)
  have HM5 := Lib.hid (HM.out.ext B)
  have hz5 : w.heap.size + 4 ≤ w5.heap.size := by have := B.size; omega
  clear B HLV4 HM hz1 hz2 hz4
  rw [hlb] at HD
  have b0 := HB.out.c 0 _ rfl
  have b1 := HB.out.c 1 _ rfl
  have b2 := HB.out.c 2 _ rfl
  have b3 := HB.out.c 3 _ rfl
  have b4 := HB.out.c 4 _ rfl
  have b5 := HB.out.c 5 _ rfl
  have s0 := HS.out.c 0 _ rfl
  have n0 := HN.out.c 0 _ rfl
  have z0 := HZ.out.c 0 _ rfl
  have z1 := HZ.out.c 1 _ rfl
  have z2 := HZ.out.c 2 _ rfl
  have zl := HZ.out.lt
  cases lb
  · rw [if_pos (.inl rfl)] at HD
    have HN0 := Lib.hid (HNO.out 190 HD.out (by decide))
    gi_wp2_with fail
    refine ⟨.tuple #[.int .i64 0, .int .i64 190], by simp [results, Tryz.results14, go_sem], ?_⟩
    rw [HD.out, HN0.out]
    exact ⟨rfl, HE.out⟩
  by_cases h2 : (n : Int) = t.n
  rotate_left
  · have e2 : ((n : Int) != t.n) = true := by simpa using h2
    rw [if_pos (.inr (.inl h2))] at HD
    have HN0 := Lib.hid (HNO.out 190 HD.out (by decide))
    clear h2
    gi_wp2_with fail
    refine ⟨.tuple #[.int .i64 0, .int .i64 190], by simp [results, Tryz.results14, go_sem], ?_⟩
    rw [HD.out, HN0.out]
    exact ⟨rfl, HE.out⟩
  have e2 : ((n : Int) != t.n) = false := by simpa using h2
  have H2 := Lib.hid h2
  clear h2
  by_cases h3 : z.mi < 0
  · have e3 : decide (z.mi < 0) = true := decide_eq_true h3
    rw [if_pos (.inr (.inr (.inl h3)))] at HD
    have HN0 := Lib.hid (HNO.out 190 HD.out (by decide))
    gi_wp2_with fail
    refine ⟨.tuple #[.int .i64 0, .int .i64 190], by simp [results, Tryz.results14, go_sem], ?_⟩
    rw [HD.out, HN0.out]
    exact ⟨rfl, HE.out⟩
  have e3 : decide (z.mi < 0) = false := decide_eq_false h3
  by_cases h4 : 1440 ≤ z.mi
  · have e4 : decide (z.mi ≥ 1440) = true := decide_eq_true h4
    rw [if_pos (.inr (.inr (.inr (.inl h4))))] at HD
    have HN0 := Lib.hid (HNO.out 190 HD.out (by decide))
    gi_wp2_with fail
    refine ⟨.tuple #[.int .i64 0, .int .i64 190], by simp [results, Tryz.results14, go_sem], ?_⟩
    rw [HD.out, HN0.out]
    exact ⟨rfl, HE.out⟩
  have e4 : decide (z.mi ≥ 1440) = false := decide_eq_false h4
  by_cases h5 : z.ix < 0
  · have e5 : decide (z.ix < 0) = true := decide_eq_true h5
    rw [if_pos (.inr (.inr (.inr (.inr (.inl h5)))))] at HD
    have HN0 := Lib.hid (HNO.out 190 HD.out (by decide))
    gi_wp2_with fail
    refine ⟨.tuple #[.int .i64 0, .int .i64 190], by simp [results, Tryz.results14, go_sem], ?_⟩
    rw [HD.out, HN0.out]
    exact ⟨rfl, HE.out⟩
  have e5 : decide (z.ix < 0) = false := decide_eq_false h5
  have hlook := HM5.out.look (t := 93) Tryz.underlying4 Tryz.underlying93 Tryz.underlying3 (zero3 _) z.air
  obtain ⟨my, hmy⟩ : ∃ q, manyOf t z.air = q := ⟨_, rfl⟩
  rw [hmy] at hlook HD
  have HMY := Lib.hid hmy
  clear hmy
  by_cases h6 : (my : Int) ≤ z.ix
  · have e6 : decide (z.ix ≥ (my : Int)) = true := decide_eq_true h6
    rw [if_pos (.inr (.inr (.inr (.inr (.inr h6)))))] at HD
    have HN0 := Lib.hid (HNO.out 190 HD.out (by decide))
    gi_wp2_with fail
    refine ⟨.tuple #[.int .i64 0, .int .i64 190], by simp [results, Tryz.results14, go_sem], ?_⟩
    rw [HD.out, HN0.out]
    exact ⟨rfl, HE.out⟩
  have e6 : decide (z.ix ≥ (my : Int)) = false := decide_eq_false h6
  rw [if_neg (by
    have := H2.out
    simp only [Bool.true_eq_false, ne_eq, false_or, not_or, Decidable.not_not, Int.not_lt, Int.not_le]
    exact ⟨this, by omega, by omega, by omega, by omega⟩)] at HD
  have HOK : Hid (OfOk t tree leaf l seen.length z) := by
    have := H2.out
    have hm := HMY.out
    exact ⟨(chkS_ok.1 HCH.out).1, (chkS_ok.1 HCH.out).2, HTV.out, hlb, by rw [HNN.out]; exact this, by omega, by omega, by omega, by rw [hm]; omega⟩
  obtain ⟨now, hnow, hnl⟩ := HOK.out.now
  have HNW := Lib.hid hnow
  have HFT := Lib.hid (HOK.out.vs.fit now hnl)
  have HNM := Lib.hid hnl
  have HPL : Hid (ofN t tree leaf l seen z = placesR t tree leaf now seen z) := ofN_ok HOK.out hnow
  have HLF := Lib.hid hlb
  clear hnow hnl hlb HNO HCH
  gi_wp2_with fail
  clear hlook HM5 b0 b1 b2 b3 b4 b5 s0 n0 z0 z1 z2 zl e2 e3 e4 e5 e6
  refine ⟨trivial, (callsIn_wide.2 (cin_at (some now) HNW.out rfl (HA0.out.ext HE.out) hl)).mono ?_⟩
  rintro e w6 ⟨rfl, B⟩
  simp only [Option.isSome_some, Option.getD_some]
  have BW := ext_trans B (ext_alloc (ext_refl w6) (.cells #[.int .i64 now.f, .int .i64 now.cfg, .slice now.ms.A now.ms.l.length now.ms.c] 34))
  obtain ⟨w7, hw7⟩ : ∃ x, w6.alloc (.cells #[.int .i64 now.f, .int .i64 now.cfg, .slice now.ms.A now.ms.l.length now.ms.c] 34) = x := ⟨_, rfl⟩
  have HNB := Lib.hid (show Blk w7 w6.heap.size now.cells by rw [← hw7]; exact Blk.newH w6 now.cells 34 w6.heap.size rfl)
  rw [hw7] at BW
  replace HE := Lib.hid (ext_trans HE.out BW)
  replace HB := Lib.hid (HB.out.ext BW)
  replace HS := Lib.hid (HS.out.ext BW)
  replace HN := Lib.hid (HN.out.ext BW)
  replace HZ := Lib.hid (HZ.out.ext BW)
  have hz6 : w.heap.size + 4 ≤ w6.heap.size := by have := B.size; omega
  have hz7 : w7.heap.size = w6.heap.size + 1 := by rw [← hw7]; simp
  clear B BW hz5
  have b0 := HB.out.c 0 _ rfl
  have b1 := HB.out.c 1 _ rfl
  have b2 := HB.out.c 2 _ rfl
  have b3 := HB.out.c 3 _ rfl
  have b4 := HB.out.c 4 _ rfl
  have b5 := HB.out.c 5 _ rfl
  have s0 := HS.out.c 0 _ rfl
  have n0 := HN.out.c 0 _ rfl
  have z0 := HZ.out.c 0 _ rfl
  have z1 := HZ.out.c 1 _ rfl
  have z2 := HZ.out.c 2 _ rfl
  have zl := HZ.out.lt
  obtain ⟨air, hair⟩ : ∃ a, z.air = a := ⟨_, rfl⟩
  have HAIR := Lib.hid hair
  rw [hair] at z0
  clear hair
  cases air
  rotate_left
  · gi_wp2_with fail
    clear hw7
    obtain ⟨lv, hlv⟩ : ∃ r, lessN tree leaf true z.ix z.mi = r := ⟨_, rfl⟩
    have HLE := Lib.hid hlv
    have hlb := less_pos HTV.out leaf true z.ix z.mi
    rw [hlv] at hlb
    obtain ⟨lv0, lv1⟩ := hlb
    refine ⟨trivial, (callsIn_wide.2 (less_at lv 0 (by rw [lessR_ok HTV.out HLF.out, hlv]) rfl (HTR0.out.ext HE.out))).mono ?_⟩
    rintro e w8 ⟨rfl, B⟩
    replace HE := Lib.hid (ext_trans HE.out B)
    replace HB := Lib.hid (HB.out.ext B)
    replace HZ := Lib.hid (HZ.out.ext B)
    replace HNB := Lib.hid (HNB.out.ext B)
    have hz8 : w6.heap.size + 1 ≤ w8.heap.size := by have := B.size; omega
    clear B hlv b0 b1 b2 b3 b4 b5 s0 n0 z0 z1 z2 zl
    have T8 := HT0.out.ext HE.out
    have N8 := (HAO0.out now HNM.out).ext HE.out
    obtain ⟨fl, fi⟩ := fits_ix HFT.out
    have hmy : my = t.ms.l.length := by have := HMY.out; rw [HAIR.out] at this; exact this.symm
    have hi0 : 0 ≤ z.ix := by omega
    have hi1 : z.ix < (t.ms.l.length : Int) := by omega
    obtain ⟨md, q1, o1, hmd, hA1, hq1, hc1⟩ := T8.2.2.2.1.slc.at_ (k := z.ix.toNat) (by omega)
    obtain ⟨k, q2, o2, hk, hA2, hq2, hc2⟩ := N8.slc.at_ (k := z.ix.toNat) (by omega)
    obtain ⟨k0, k1⟩ := fi _ _ _ hk hmd
    obtain ⟨pl, q3, o3, hpl, hA3, hq3, hc3⟩ := (T8.2.2.2.1.all (List.mem_of_getElem? hmd)).slc.at_ (k := k.toNat) (by omega)
    have hi2 : z.ix < (now.ms.l.length : Int) := by omega
    have d1 := hc1 0 _ rfl
    have d2 := hc2 0 _ rfl
    have d3 := hc3 0 _ rfl
    simp only [Nat.mul_one, Nat.add_zero] at d1 d2 d3
    rw [hA3] at d1
    have HA1 := Lib.hid hA1
    have HA2 := Lib.hid hA2
    have HPR : Hid (placesR t tree leaf now seen z = max 0 (pl - lv)) := by
      simp only [Hid, placesR, HAIR.out, if_true, HLE.out, modeAt, hmd, hk, hpl, Option.getD_some]
    have hpb := (tab_ok HOK.out.tab).mod md (List.mem_of_getElem? hmd) pl (List.mem_of_getElem? hpl)
    obtain ⟨p0, p1⟩ := hpb
    have hwr : IntKind.i64.wrap (pl - lv) = pl - lv := IntWalk.i64_in _ (by omega)
    clear T8 N8 fl fi hmd hk hpl hA1 hA2 hA3 hc1 hc2 hc3 hmy
    gi_wp2_with fail
    refine region_in ?_
    have SS := Lib.hid (show ∀ w', Below w8.heap.size w8 w' → (fun w' => Below w8.heap.size w8 w' ∧ w'.cell? ⟨w.heap.size, 4, none⟩ = some (.slice (some ⟨q1, o1, none⟩) t.ms.l.length t.ms.c) ∧ w'.cell? ⟨w.heap.size + 1 + 1 + 1, 1, none⟩ = some (.int .i64 z.ix) ∧ w'.cell? ⟨w6.heap.size, 2, none⟩ = some (.slice (some ⟨q2, o2, none⟩) now.ms.l.length now.ms.c) ∧ w'.cell? ⟨q1, o1 + z.ix.toNat, none⟩ = some (.slice (some ⟨q3, o3, none⟩) md.l.length md.c) ∧ w'.cell? ⟨q2, o2 + z.ix.toNat, none⟩ = some (.int .i64 k) ∧ w'.cell? ⟨q3, o3 + k.toNat, none⟩ = some (.int .i64 pl)) w' from fun w' h => ⟨h, (by have q := (HB.out.ext h).c 4 _ rfl; rw [HA1.out] at q; exact q), (HZ.out.ext h).c 1 _ rfl, (by have q := (HNB.out.ext h).c 2 _ rfl; rw [HA2.out] at q; exact q), (h.cell (p := ⟨q1, o1 + z.ix.toNat, none⟩) hq1).trans d1, (h.cell (p := ⟨q2, o2 + z.ix.toNat, none⟩) hq2).trans d2, (h.cell (p := ⟨q3, o3 + k.toNat, none⟩) hq3).trans d3⟩)
    refine rg_begin (S := (fun w' => Below w8.heap.size w8 w' ∧ w'.cell? ⟨w.heap.size, 4, none⟩ = some (.slice (some ⟨q1, o1, none⟩) t.ms.l.length t.ms.c) ∧ w'.cell? ⟨w.heap.size + 1 + 1 + 1, 1, none⟩ = some (.int .i64 z.ix) ∧ w'.cell? ⟨w6.heap.size, 2, none⟩ = some (.slice (some ⟨q2, o2, none⟩) now.ms.l.length now.ms.c) ∧ w'.cell? ⟨q1, o1 + z.ix.toNat, none⟩ = some (.slice (some ⟨q3, o3, none⟩) md.l.length md.c) ∧ w'.cell? ⟨q2, o2 + z.ix.toNat, none⟩ = some (.int .i64 k) ∧ w'.cell? ⟨q3, o3 + k.toNat, none⟩ = some (.int .i64 pl))) 19 (by kernel_rfl) (by intro d; cases d <;> intro _ _ _ _ h <;> exact h) ?_ (fun Q7 hQ7 hN7 hHeld => ?_)
    · exact SS.out _ (ext_drew (ext_refl _))
    refine rg_take (i := 0) (some 101) (v := ?_) rfl rfl (by kernel_rfl) (by rfl) hQ7 hHeld ?_ ?_
    rotate_left
    · intro w7 hSw; (try dsimp only at hSw); go_simp; all_goals with_reducible rfl
    try simp only [Act.put, List.setIfInBounds_toArray, List.set_cons_zero, List.set_cons_succ]
    refine rg_take (i := 1) (some 102) (v := ?_) rfl rfl (by kernel_rfl) (by rfl) hQ7 hHeld ?_ ?_
    rotate_left
    · intro w7 hSw; (try dsimp only at hSw); go_simp; all_goals with_reducible rfl
    try simp only [Act.put, List.setIfInBounds_toArray, List.set_cons_zero, List.set_cons_succ]
    refine rg_take (i := 2) (some 103) (v := ?_) rfl rfl (by kernel_rfl) (by rfl) hQ7 hHeld ?_ ?_
    rotate_left
    · intro w7 hSw; (try dsimp only at hSw); go_simp; all_goals with_reducible rfl
    try simp only [Act.put, List.setIfInBounds_toArray, List.set_cons_zero, List.set_cons_succ]
    refine rg_take (i := 3) (some 104) (v := ?_) rfl rfl (by kernel_rfl) (by rfl) hQ7 hHeld ?_ ?_
    rotate_left
    · intro w7 hSw; (try dsimp only at hSw); go_simp; all_goals with_reducible rfl
    try simp only [Act.put, List.setIfInBounds_toArray, List.set_cons_zero, List.set_cons_succ]
    refine rg_take (i := 4) (some 105) (v := ?_) rfl rfl (by kernel_rfl) (by rfl) hQ7 hHeld ?_ ?_
    rotate_left
    · intro w7 hSw; (try dsimp only at hSw); go_simp; all_goals with_reducible rfl
    try simp only [Act.put, List.setIfInBounds_toArray, List.set_cons_zero, List.set_cons_succ]
    refine rg_take (i := 5) (some 106) (v := ?_) rfl rfl (by kernel_rfl) (by rfl) hQ7 hHeld ?_ ?_
    rotate_left
    · intro w7 hSw; (try dsimp only at hSw); go_simp; all_goals with_reducible rfl
    try simp only [Act.put, List.setIfInBounds_toArray, List.set_cons_zero, List.set_cons_succ]
    refine rg_take (i := 6) (some 107) (v := ?_) rfl rfl (by kernel_rfl) (by rfl) hQ7 hHeld ?_ ?_
    rotate_left
    · intro w7 hSw; (try dsimp only at hSw); go_simp; all_goals with_reducible rfl
    try simp only [Act.put, List.setIfInBounds_toArray, List.set_cons_zero, List.set_cons_succ]
    refine rg_take (i := 7) (some 108) (v := ?_) rfl rfl (by kernel_rfl) (by rfl) hQ7 hHeld ?_ ?_
    rotate_left
    · intro w7 hSw; (try dsimp only at hSw); go_simp; all_goals with_reducible rfl
    try simp only [Act.put, List.setIfInBounds_toArray, List.set_cons_zero, List.set_cons_succ]
    refine rg_take (i := 8) (some 109) (v := ?_) rfl rfl (by kernel_rfl) (by rfl) hQ7 hHeld ?_ ?_
    rotate_left
    · intro w7 hSw; (try dsimp only at hSw); go_simp; all_goals with_reducible rfl
    try simp only [Act.put, List.setIfInBounds_toArray, List.set_cons_zero, List.set_cons_succ]
    refine rg_take (i := 9) (some 110) (v := ?_) rfl rfl (by kernel_rfl) (by rfl) hQ7 hHeld ?_ ?_
    rotate_left
    · intro w7 hSw; (try dsimp only at hSw); go_simp; all_goals with_reducible rfl
    try simp only [Act.put, List.setIfInBounds_toArray, List.set_cons_zero, List.set_cons_succ]
    refine rg_take (i := 10) (some 111) (v := ?_) rfl rfl (by kernel_rfl) (by rfl) hQ7 hHeld ?_ ?_
    rotate_left
    · intro w7 hSw; (try dsimp only at hSw); go_simp; all_goals with_reducible rfl
    try simp only [Act.put, List.setIfInBounds_toArray, List.set_cons_zero, List.set_cons_succ]
    refine rg_take (i := 11) (some 112) (v := ?_) rfl rfl (by kernel_rfl) (by rfl) hQ7 hHeld ?_ ?_
    rotate_left
    · intro w7 hSw; (try dsimp only at hSw); go_simp; all_goals with_reducible rfl
    try simp only [Act.put, List.setIfInBounds_toArray, List.set_cons_zero, List.set_cons_succ]
    refine rg_take (i := 12) (some 113) (v := ?_) rfl rfl (by kernel_rfl) (by rfl) hQ7 hHeld ?_ ?_
    rotate_left
    · intro w7 hSw; (try dsimp only at hSw); go_simp; all_goals with_reducible rfl
    try simp only [Act.put, List.setIfInBounds_toArray, List.set_cons_zero, List.set_cons_succ]
    refine rg_take (i := 13) (some 114) (v := ?_) rfl rfl (by kernel_rfl) (by rfl) hQ7 hHeld ?_ ?_
    rotate_left
    · intro w7 hSw; (try dsimp only at hSw); go_simp; all_goals with_reducible rfl
    try simp only [Act.put, List.setIfInBounds_toArray, List.set_cons_zero, List.set_cons_succ]
    refine rg_take (i := 14) (some 115) (v := ?_) rfl rfl (by kernel_rfl) (by rfl) hQ7 hHeld ?_ ?_
    rotate_left
    · intro w7 hSw; (try dsimp only at hSw); go_simp; all_goals with_reducible rfl
    try simp only [Act.put, List.setIfInBounds_toArray, List.set_cons_zero, List.set_cons_succ]
    refine rg_take (i := 15) (some 116) (v := ?_) rfl rfl (by kernel_rfl) (by rfl) hQ7 hHeld ?_ ?_
    rotate_left
    · intro w7 hSw; (try dsimp only at hSw); go_simp; all_goals with_reducible rfl
    try simp only [Act.put, List.setIfInBounds_toArray, List.set_cons_zero, List.set_cons_succ]
    refine rg_take (i := 16) (some 117) (v := ?_) rfl rfl (by kernel_rfl) (by rfl) hQ7 hHeld ?_ ?_
    rotate_left
    · intro w7 hSw; (try dsimp only at hSw); go_simp; all_goals with_reducible rfl
    try simp only [Act.put, List.setIfInBounds_toArray, List.set_cons_zero, List.set_cons_succ]
    refine rg_take (i := 17) (some 12) (v := ?_) rfl rfl (by kernel_rfl) (by rfl) hQ7 hHeld ?_ ?_
    rotate_left
    · intro w7 hSw; (try dsimp only at hSw); go_simp; all_goals with_reducible rfl
    try simp only [Act.put, List.setIfInBounds_toArray, List.set_cons_zero, List.set_cons_succ]
    refine rg_take (i := 18) (some 13) (v := ?_) rfl rfl (by kernel_rfl) (by rfl) hQ7 hHeld ?_ ?_
    rotate_left
    · intro w7 hSw; (try dsimp only at hSw); go_simp; all_goals with_reducible rfl
    try simp only [Act.put, List.setIfInBounds_toArray, List.set_cons_zero, List.set_cons_succ]
    refine rg_end (by kernel_rfl) (hN7 _ _ ?_) _
    clear hQ7 hN7 Q7
    have BX := hHeld.1
    clear SS
    refine onlyN ?_
    clear d1 d2 d3
    gi_wp2_with fail
    all_goals
      refine ⟨.tuple #[.int .i64 (max 0 (pl - lv)), .int .i64 0], by first | (simp [results, Tryz.results14, go_sem]; done) | (simp [results, Tryz.results14, go_sem]; omega), ?_⟩
      rw [HD.out, HPL.out, HPR.out]
      exact ⟨rfl, ext_trans HE.out BX⟩
  · gi_wp2_with fail
    clear hw7
    have T7 := HT0.out.ext HE.out
    obtain ⟨_, _, f0, f1⟩ := fits_f HFT.out
    have hmy : my = t.ss.l.length := by have := HMY.out; rw [HAIR.out] at this; exact this.symm
    have hi0 : 0 ≤ z.ix := by omega
    have hi1 : z.ix < (t.ss.l.length : Int) := by omega
    obtain ⟨g, q1, o1, hg, hA1, hq1, hc1⟩ := T7.2.1.slc.at_ (k := now.cfg.toNat) (by omega)
    obtain ⟨x, q2, o2, hx, hA2, hq2, hc2⟩ := T7.1.slc.at_ (k := z.ix.toNat) (by omega)
    have g2 := hc1 2 _ rfl
    have HR := Lib.hid hc2
    have HGO := Lib.hid (T7.2.1.all (List.mem_of_getElem? hg))
    have HA1 := Lib.hid hA1
    have HA2 := Lib.hid hA2
    have HXM := Lib.hid (List.mem_of_getElem? hx)
    obtain ⟨r, hr⟩ : ∃ r, g.ss.l.any (· == z.ix) = r := ⟨_, rfl⟩
    have HC := Lib.hid hr
    have HPR : Hid (placesR t tree leaf now seen z = if r then max 0 ((if seenAll seen x.vs.l then x.rad else x.pro) - vcuts tree leaf z.mi x.vs.l) else 0) := by
      simp only [Hid, placesR, HAIR.out, Bool.false_eq_true, if_false, hg, hx, hr]
    have HDV : Hid (r = true → ∀ v ∈ x.vs.l, 0 ≤ v ∧ v < (n : Int)) := fun hr1 v hv => by
      have h1 := tab_ok HOK.out.tab
      have := div_in h1.div (List.mem_of_getElem? hg) (by rw [hr]; exact hr1) hx v hv
      have h2 := H2.out
      have h3 := h1.n0
      omega
    have HSB := Lib.hid ((tab_ok HOK.out.tab).sec x HXM.out)
    clear T7 hg hx hA1 hA2 hc1 hc2 hmy hr b0 b1 b3 b4 b5 s0 n0 z0 z2
    refine region_in ?_
    have SS := Lib.hid (show ∀ w', Below w7.heap.size w7 w' → (fun w' => Below w7.heap.size w7 w' ∧ w'.cell? ⟨w.heap.size, 2, none⟩ = some (.slice (some ⟨q1, o1, none⟩) t.cs.l.length t.cs.c) ∧ w'.cell? ⟨w.heap.size + 1 + 1 + 1, 1, none⟩ = some (.int .i64 z.ix) ∧ w'.cell? ⟨w6.heap.size, 1, none⟩ = some (.int .i64 now.cfg) ∧ w'.cell? ⟨q1, o1 + now.cfg.toNat * 3 + 2, none⟩ = some (.slice g.ss.A g.ss.l.length g.ss.c)) w' from fun w' h => ⟨h, (by have q := (HB.out.ext h).c 2 _ rfl; rw [HA1.out] at q; exact q), (HZ.out.ext h).c 1 _ rfl, (HNB.out.ext h).c 1 _ rfl, (h.cell (p := ⟨q1, o1 + now.cfg.toNat * 3 + 2, none⟩) hq1).trans g2⟩)
    refine rg_begin (S := (fun w' => Below w7.heap.size w7 w' ∧ w'.cell? ⟨w.heap.size, 2, none⟩ = some (.slice (some ⟨q1, o1, none⟩) t.cs.l.length t.cs.c) ∧ w'.cell? ⟨w.heap.size + 1 + 1 + 1, 1, none⟩ = some (.int .i64 z.ix) ∧ w'.cell? ⟨w6.heap.size, 1, none⟩ = some (.int .i64 now.cfg) ∧ w'.cell? ⟨q1, o1 + now.cfg.toNat * 3 + 2, none⟩ = some (.slice g.ss.A g.ss.l.length g.ss.c))) 11 (by kernel_rfl) (by intro d; cases d <;> intro _ _ _ _ h <;> exact h) ?_ (fun Q7 hQ7 hN7 hHeld => ?_)
    · exact SS.out _ (ext_drew (ext_refl _))
    refine rg_take (i := 0) (some 118) (v := ?_) rfl rfl (by kernel_rfl) (by rfl) hQ7 hHeld ?_ ?_
    rotate_left
    · intro w7 hSw; (try dsimp only at hSw); go_simp; all_goals with_reducible rfl
    try simp only [Act.put, List.setIfInBounds_toArray, List.set_cons_zero, List.set_cons_succ]
    refine rg_take (i := 1) (some 119) (v := ?_) rfl rfl (by kernel_rfl) (by rfl) hQ7 hHeld ?_ ?_
    rotate_left
    · intro w7 hSw; (try dsimp only at hSw); go_simp; all_goals with_reducible rfl
    try simp only [Act.put, List.setIfInBounds_toArray, List.set_cons_zero, List.set_cons_succ]
    refine rg_take (i := 2) (some 120) (v := ?_) rfl rfl (by kernel_rfl) (by rfl) hQ7 hHeld ?_ ?_
    rotate_left
    · intro w7 hSw; (try dsimp only at hSw); go_simp; all_goals with_reducible rfl
    try simp only [Act.put, List.setIfInBounds_toArray, List.set_cons_zero, List.set_cons_succ]
    refine rg_take (i := 3) (some 121) (v := ?_) rfl rfl (by kernel_rfl) (by rfl) hQ7 hHeld ?_ ?_
    rotate_left
    · intro w7 hSw; (try dsimp only at hSw); go_simp; all_goals with_reducible rfl
    try simp only [Act.put, List.setIfInBounds_toArray, List.set_cons_zero, List.set_cons_succ]
    refine rg_take (i := 4) (some 122) (v := ?_) rfl rfl (by kernel_rfl) (by rfl) hQ7 hHeld ?_ ?_
    rotate_left
    · intro w7 hSw; (try dsimp only at hSw); go_simp; all_goals with_reducible rfl
    try simp only [Act.put, List.setIfInBounds_toArray, List.set_cons_zero, List.set_cons_succ]
    refine rg_take (i := 5) (some 123) (v := ?_) rfl rfl (by kernel_rfl) (by rfl) hQ7 hHeld ?_ ?_
    rotate_left
    · intro w7 hSw; (try dsimp only at hSw); go_simp; all_goals with_reducible rfl
    try simp only [Act.put, List.setIfInBounds_toArray, List.set_cons_zero, List.set_cons_succ]
    refine rg_take (i := 6) (some 124) (v := ?_) rfl rfl (by kernel_rfl) (by rfl) hQ7 hHeld ?_ ?_
    rotate_left
    · intro w7 hSw; (try dsimp only at hSw); go_simp; all_goals with_reducible rfl
    try simp only [Act.put, List.setIfInBounds_toArray, List.set_cons_zero, List.set_cons_succ]
    refine rg_take (i := 7) (some 125) (v := ?_) rfl rfl (by kernel_rfl) (by rfl) hQ7 hHeld ?_ ?_
    rotate_left
    · intro w7 hSw; (try dsimp only at hSw); go_simp; all_goals with_reducible rfl
    try simp only [Act.put, List.setIfInBounds_toArray, List.set_cons_zero, List.set_cons_succ]
    refine rg_take (i := 8) (some 126) (v := ?_) rfl rfl (by kernel_rfl) (by rfl) hQ7 hHeld ?_ ?_
    rotate_left
    · intro w7 hSw; (try dsimp only at hSw); go_simp; all_goals with_reducible rfl
    try simp only [Act.put, List.setIfInBounds_toArray, List.set_cons_zero, List.set_cons_succ]
    refine rg_one (i := 9) (by kernel_rfl) (rg_step rfl (by rfl) (fun K hK => ?_))
    go_simp
    refine (contains_at r HC.out rfl (HGO.out.2.2.slc.ext hHeld.1) HGO.out.2.2.len).mono ?_
    rintro e u1 ⟨rfl, B1⟩
    go_wp2_with fail
    refine hK.out _ _ ?_ (fun hHeld2 => ?_)
    · exact SS.out _ (ext_trans hHeld.1 B1)
    clear hHeld
    have hHeld := hHeld2
    clear hHeld2
    clear hK K
    try simp only [Act.put, List.setIfInBounds_toArray, List.set_cons_zero, List.set_cons_succ]
    refine rg_take (i := 10) (some 128) (v := ?_) rfl rfl (by kernel_rfl) (by rfl) hQ7 hHeld ?_ ?_
    rotate_left
    · intro w7 hSw; (try dsimp only at hSw); go_simp; all_goals with_reducible rfl
    try simp only [Act.put, List.setIfInBounds_toArray, List.set_cons_zero, List.set_cons_succ]
    refine rg_end (by kernel_rfl) (hN7 _ _ ?_) _
    clear hQ7 hN7 Q7
    have BX := hHeld.1
    clear SS
    refine onlyN ?_
    clear g2
    replace HE := Lib.hid (ext_trans HE.out BX)
    replace HB := Lib.hid (HB.out.ext BX)
    replace HN := Lib.hid (HN.out.ext BX)
    replace HZ := Lib.hid (HZ.out.ext BX)
    have hz8 : w.heap.size + 4 ≤ u1.heap.size := by have := BX.size; omega
    cases r
    · gi_wp2_with fail
      refine ⟨.tuple #[.int .i64 0, .int .i64 0], by simp [results, Tryz.results14, go_sem], ?_⟩
      rw [HD.out, HPL.out, HPR.out]
      exact ⟨rfl, HE.out⟩
    have a1 := HB.out.c 1 _ rfl
    have HXC : Hid (∀ j v, x.cells[j]? = some v → u1.cell? ⟨q2, o2 + z.ix.toNat * 5 + j, none⟩ = some v) := fun j v hv => (BX.cell (p := ⟨q2, o2 + z.ix.toNat * 5 + j, none⟩) hq2).trans (HR.out j v hv)
    have hq2' : q2 < u1.heap.size := by have := BX.size; omega
    rw [HA2.out] at a1
    have r0 := HXC.out 0 _ rfl
    have r1 := HXC.out 1 _ rfl
    have r2 := HXC.out 2 _ rfl
    have r3 := HXC.out 3 _ rfl
    have r4 := HXC.out 4 _ rfl
    simp only [Nat.add_zero] at r0
    have z1 := HZ.out.c 1 _ rfl
    have z2 := HZ.out.c 2 _ rfl
    have zl := HZ.out.lt
    obtain ⟨W1, hW1⟩ : ∃ W, ((u1.alloc (.cells #[.string x.nm, .slice x.ns.A x.ns.n x.ns.c, .slice x.vs.A x.vs.l.length x.vs.c, .int .i64 x.rad, .int .i64 x.pro] 100)).alloc (.cells #[.bool true] 4)).alloc (.cells #[.int .i64 0] 3) = W := ⟨_, rfl⟩
    have hzz : W1.heap.size = u1.heap.size + 1 + 1 + 1 := by rw [← hW1]; simp
    have HX1 : Hid (Blk W1 u1.heap.size x.cells) := by rw [← hW1]; exact ((Blk.newH u1 x.cells 100 u1.heap.size rfl).alloc _).alloc _
    have HR1 : Hid (Boxed W1 (u1.heap.size + 1) 4 (.bool true)) := by
      rw [← hW1]
      have := (Boxed.new (u1.alloc (.cells #[.string x.nm, .slice x.ns.A x.ns.n x.ns.c, .slice x.vs.A x.vs.l.length x.vs.c, .int .i64 x.rad, .int .i64 x.pro] 100)) 4 (.bool true)).alloc (.cells #[.int .i64 0] 3)
      rwa [World.size_alloc] at this
    have HS1 : Hid (Boxed W1 (u1.heap.size + 1 + 1) 3 (.int .i64 0)) := by
      rw [← hW1]
      have := Boxed.new ((u1.alloc (.cells #[.string x.nm, .slice x.ns.A x.ns.n x.ns.c, .slice x.vs.A x.vs.l.length x.vs.c, .int .i64 x.rad, .int .i64 x.pro] 100)).alloc (.cells #[.bool true] 4)) 3 (.int .i64 0)
      rwa [World.size_alloc, World.size_alloc] at this
    have B1 : Below u1.heap.size u1 W1 := by rw [← hW1]; exact ext_alloc (ext_alloc (ext_alloc (ext_refl u1) _) _) _
    replace HE := Lib.hid (ext_trans HE.out B1)
    replace HN := Lib.hid (HN.out.ext B1)
    replace HZ := Lib.hid (HZ.out.ext B1)
    clear BX B1
    have HW1 := Lib.hid hW1
    have zl1 : w.heap.size + 1 + 1 + 1 < u1.heap.size + 1 := by omega
    have zl2 : w.heap.size + 1 + 1 + 1 < u1.heap.size + 1 + 1 := by omega
    clear hW1
    gi_wp2_with fail
    rw [HW1.out]
    clear a1 r0 r1 r2 r3 r4 z1 z2 zl1 zl2 HXC HR HW1
    refine ⟨trivial, (callsIn_wide.2 (cuts_any _ _ _ _ _ _ _ _ _)).mono ?_⟩
    rintro e w9 ⟨rfl, rfl⟩
    obtain ⟨w12, hw12⟩ : ∃ W, ((((W1.alloc (.cells #[.slice tA tree.length tc] 44)).alloc (.cells #[.int .i64 leaf] 3)).alloc (.cells #[.slice x.vs.A x.vs.l.length x.vs.c] 32)).alloc (.cells #[.int .i64 z.mi] 3)) = W := ⟨_, rfl⟩
    have hz12 : w12.heap.size = u1.heap.size + 7 := by rw [← hw12]; simp; omega
    have B12 : Below W1.heap.size W1 w12 := by rw [← hw12]; exact ext_alloc (ext_alloc (ext_alloc (ext_alloc (ext_refl W1) _) _) _) _
    have c1 : w12.cell? ⟨W1.heap.size, 0, none⟩ = some (.slice tA tree.length tc) := by
      rw [← hw12]
      exact ((((Boxed.new W1 44 (.slice tA tree.length tc)).alloc _).alloc _).alloc _).cell
    have c2' : w12.cell? ⟨W1.heap.size + 1, 0, none⟩ = some (.int .i64 leaf) := by
      rw [← hw12]
      have := (((Boxed.new (W1.alloc (.cells #[.slice tA tree.length tc] 44)) 3 (.int .i64 leaf)).alloc (.cells #[.slice x.vs.A x.vs.l.length x.vs.c] 32)).alloc (.cells #[.int .i64 z.mi] 3)).cell
      rwa [World.size_alloc] at this
    have c3 : w12.cell? ⟨W1.heap.size + 1 + 1, 0, none⟩ = some (.slice x.vs.A x.vs.l.length x.vs.c) := by
      rw [← hw12]
      have := ((Boxed.new ((W1.alloc (.cells #[.slice tA tree.length tc] 44)).alloc (.cells #[.int .i64 leaf] 3)) 32 (.slice x.vs.A x.vs.l.length x.vs.c)).alloc (.cells #[.int .i64 z.mi] 3)).cell
      rwa [World.size_alloc, World.size_alloc] at this
    have c4 : w12.cell? ⟨W1.heap.size + 1 + 1 + 1, 0, none⟩ = some (.int .i64 z.mi) := by
      rw [← hw12]
      have := (Boxed.new (((W1.alloc (.cells #[.slice tA tree.length tc] 44)).alloc (.cells #[.int .i64 leaf] 3)).alloc (.cells #[.slice x.vs.A x.vs.l.length x.vs.c] 32)) 3 (.int .i64 z.mi)).cell
      rwa [World.size_alloc, World.size_alloc, World.size_alloc] at this
    have BW12 := ext_trans HE.out B12
    have hxo := (HT0.out.1.all HXM.out).2.2
    have HCC := Lib.hid (show CCap w12 w12.heap.size (fun k => k = u1.heap.size + 1 ∨ k = u1.heap.size + 1 + 1) (W1.heap.size + 1 + 1) W1.heap.size (W1.heap.size + 1) (W1.heap.size + 1 + 1 + 1) x.vs.A x.vs.c x.vs.l tA tc tree leaf z.mi from
      ⟨by omega, by omega, by omega, by omega, by omega, by omega, by omega, by omega, c3, c1, c2', c4, w, by omega, fun k hk => by omega, hxo.slc, HTR0.out, Top.of BW12⟩)
    have HR12 := Lib.hid (show Boxed w12 (u1.heap.size + 1) 4 (.bool true) by rw [← hw12]; exact (((HR1.out.alloc _).alloc _).alloc _).alloc _)
    have HS12 := Lib.hid (show Boxed w12 (u1.heap.size + 1 + 1) 3 (.int .i64 0) by rw [← hw12]; exact (((HS1.out.alloc _).alloc _).alloc _).alloc _)
    have HN12 := Lib.hid (HN.out.ext B12)
    have HX12 := Lib.hid (HX1.out.ext B12)
    have HB12 := Lib.hid BW12
    obtain ⟨es, hes1, hes2, hes3⟩ := es_of HTV.out leaf z.mi n x.vs.l (HDV.out (by simp))
    have HES2 := Lib.hid hes2
    have HES3 := Lib.hid hes3
    have hfew := HFEW.out x HXM.out
    have hes1' : es.length ≤ 64 := by omega
    have hvl := hxo.len
    have HW12 := Lib.hid hw12
    clear c1 c2' c3 c4 B12 BW12 hxo hes2 hes3 HR1 HS1 HN HX1 HE hw12
    gi_wp2_with fail
    rw [hzz] at HCC
    rw [HW12.out]
    refine wpIn_rangeFunc_ownH (F := Fence.wide) rfl (by decide) (gf := 74) (lb := #[.pointer (some ⟨u1.heap.size + 1 + 1 + 1 + 1 + 1, 0, none⟩), .pointer (some ⟨u1.heap.size + 1 + 1 + 1, 0, none⟩), .pointer (some ⟨u1.heap.size + 1 + 1 + 1 + 1, 0, none⟩), .pointer (some ⟨u1.heap.size + 1 + 1 + 1 + 1 + 1 + 1, 0, none⟩)]) rfl trivial (enters_of Tryz.func74 (by kernel_rfl) rfl)
      (cuts_stops 4 (by decide) w12.heap.size (fun k => k = u1.heap.size + 1 ∨ k = u1.heap.size + 1 + 1) _ _ _ _ x.vs.A x.vs.c x.vs.l tA tc tree leaf z.mi n es HES2.out hes1 hvl HTV.out HLF.out w12 (Nat.le_refl _) HCC.out) KpE.t (KpE.b (Nat.le_refl _)) (Below.refl _ _) (fun _ => rfl)
      (fun pre W => Boxed W (u1.heap.size + 1) 4 (.bool (radP seen (rawV pre))) ∧ Boxed W (u1.heap.size + 1 + 1) 3 (.int .i64 (sumP (rawV pre))) ∧ Kx w12.heap.size (fun k => k = u1.heap.size + 1 ∨ k = u1.heap.size + 1 + 1) w12 W ∧ w12.heap.size ≤ W.heap.size ∧ Below w.heap.size w W)
      (fun _ _ _ => False)
      (fun s X Y row hs hg hr => by
        obtain ⟨h1, h2, h3, h4, h5⟩ := hs
        exact ⟨Boxed.turn h1 hg (fun r e => (hr r e).2), Boxed.turn h2 hg (fun r e => (hr r e).2), h3.t (Kx.grown hg h4 (fun r e => .inl (hr r e).1)), Nat.le_trans h4 hg.size, h5.grown hg (by omega) (fun r e => by have := (hr r e).1; omega)⟩)
      (fun _ _ _ _ _ hs _ _ => hs)
      ⟨HR12.out, HS12.out, Kx.refl _, Nat.le_refl _, HB12.out⟩
      (fun e9 a' W => a' = { tmps := #[t.v, Value.slice tA tree.length tc, Value.int IntKind.i64 leaf, Value.agg #[Value.slice A l.length c], Value.slice sA n sc, z.v, Value.pointer (some { block := w.heap.size, off := 0 }), undef, undef, Value.pointer (some { block := w.heap.size + 1, off := 0 }), Value.pointer (some { block := w.heap.size + 1 + 1, off := 0 }), Value.pointer (some { block := w.heap.size + 1 + 1 + 1, off := 0 }), Value.int IntKind.i64 0, Value.int IntKind.i64 0, Value.slice A2 (leaves tree).length c2, Value.map (some w2.heap.size), Value.pointer (some { block := w6.heap.size, off := 0 }), Value.bool true, undef, undef, Value.pointer (some { block := u1.heap.size, off := 0 }), Value.pointer (some { block := u1.heap.size + 1, off := 0 }), Value.pointer (some { block := u1.heap.size + 1 + 1, off := 0 }), .int .i64 e9.1.1, .int .i64 e9.1.2, Value.agg #[Value.int IntKind.i64 t.n, Value.slice t.ss.A t.ss.l.length t.ss.c, Value.slice t.cs.A t.cs.l.length t.cs.c, Value.slice t.ws.A t.ws.l.length t.ws.c, Value.slice t.ms.A t.ms.l.length t.ms.c, Value.slice t.ks.A t.ks.l.length t.ks.c], Value.agg #[Value.slice A l.length c], Value.int IntKind.i64 0, Value.int IntKind.i64 0, Value.bool false, undef, Value.tuple #[Value.slice A2 (leaves tree).length c2, Value.int IntKind.i64 0], Value.slice tA tree.length tc, Value.tuple #[Value.slice A2 (leaves tree).length c2, Value.int IntKind.i64 0], Value.slice A2 (leaves tree).length c2, Value.int IntKind.i64 0, Value.int IntKind.i64 0, Value.bool false, undef, Value.map (some w2.heap.size), Value.pointer (some { block := w.heap.size, off := 1 }), Value.slice t.ss.A t.ss.l.length t.ss.c, Value.int IntKind.i64 ↑t.ss.l.length, Value.pointer (some { block := w.heap.size, off := 4 }), Value.slice t.ms.A t.ms.l.length t.ms.c, Value.int IntKind.i64 ↑t.ms.l.length, Value.map (some w2.heap.size), Value.slice A2 (leaves tree).length c2, Value.int IntKind.i64 leaf, Value.bool true, Value.bool false, Value.bool false, Value.slice sA n sc, Value.int IntKind.i64 ↑n, Value.pointer (some { block := w.heap.size, off := 0 }), Value.int IntKind.i64 t.n, Value.bool false, Value.bool false, Value.bool false, Value.pointer (some { block := w.heap.size + 1 + 1 + 1, off := 2 }), Value.int IntKind.i64 z.mi, Value.bool false, Value.bool false, Value.bool false, Value.pointer (some { block := w.heap.size + 1 + 1 + 1, off := 2 }), Value.int IntKind.i64 z.mi, Value.bool false, Value.bool false, Value.bool false, Value.pointer (some { block := w.heap.size + 1 + 1 + 1, off := 1 }), Value.int IntKind.i64 z.ix, Value.bool false, Value.bool false, Value.bool false, Value.pointer (some { block := w.heap.size + 1 + 1 + 1, off := 1 }), Value.int IntKind.i64 z.ix, Value.map (some w2.heap.size), Value.pointer (some { block := w.heap.size + 1 + 1 + 1, off := 0 }), Value.bool z.air, Value.int IntKind.i64 ↑my, Value.bool false, Value.bool false, Value.tuple #[now.v, Value.bool true], Value.agg #[Value.slice A l.length c], Value.pointer (some { block := w.heap.size + 1 + 1 + 1, off := 2 }), Value.int IntKind.i64 z.mi, Value.tuple #[now.v, Value.bool true], now.v, Value.bool true, Value.pointer (some { block := w.heap.size + 1 + 1 + 1, off := 0 }), Value.bool false, undef, undef, undef, undef, undef, undef, undef, undef, undef, undef, undef, undef, undef, undef, undef, undef, undef, undef, undef, undef, undef, undef, undef, undef, undef, undef, undef, Value.pointer (some { block := w.heap.size, off := 2 }), Value.slice (some { block := q1, off := o1 }) t.cs.l.length t.cs.c, Value.pointer (some { block := w6.heap.size, off := 1 }), Value.int IntKind.i64 now.cfg, Value.pointer (some { block := q1, off := o1 + now.cfg.toNat * 3 }), Value.pointer (some { block := q1, off := o1 + now.cfg.toNat * 3 + 2 }), Value.slice g.ss.A g.ss.l.length g.ss.c, Value.pointer (some { block := w.heap.size + 1 + 1 + 1, off := 1 }), Value.int IntKind.i64 z.ix, Value.bool true, Value.bool false, Value.pointer (some { block := w.heap.size, off := 1 }), Value.slice (some { block := q2, off := o2 }) t.ss.l.length t.ss.c, Value.pointer (some { block := w.heap.size + 1 + 1 + 1, off := 1 }), Value.int IntKind.i64 z.ix, Value.pointer (some { block := q2, off := o2 + z.ix.toNat * 5 }), Value.agg #[Value.string x.nm, Value.slice x.ns.A x.ns.n x.ns.c, Value.slice x.vs.A x.vs.l.length x.vs.c, Value.int IntKind.i64 x.rad, Value.int IntKind.i64 x.pro], Value.slice tA tree.length tc, Value.int IntKind.i64 leaf, Value.pointer (some { block := u1.heap.size, off := 2 }), Value.slice x.vs.A x.vs.l.length x.vs.c, Value.pointer (some { block := w.heap.size + 1 + 1 + 1, off := 2 }), Value.int IntKind.i64 z.mi, Value.func (Fn.func 74) #[] #[Value.pointer (some { block := u1.heap.size + 1 + 1 + 1 + 1 + 1, off := 0 }), Value.pointer (some { block := u1.heap.size + 1 + 1 + 1, off := 0 }), Value.pointer (some { block := u1.heap.size + 1 + 1 + 1 + 1, off := 0 }), Value.pointer (some { block := u1.heap.size + 1 + 1 + 1 + 1 + 1 + 1, off := 0 })], .int .i64 e9.1.1, .int .i64 e9.1.2, undef, undef, undef, undef, undef, undef, undef, undef, undef, undef, undef, undef, undef, undef, undef, undef, undef, undef, undef], defers := [] })
      (fun x a' _ X Y row hs hg hr => hs) ?assign ?body ?done ?stop
    case assign =>
      rintro ll pre e9 W K hI hK
      simp only [encV]
      gi_wp2
      exact hK _ _ (KeepsFrom.refl _ _) ⟨Kx.refl _, Nat.le_refl _⟩ hI rfl
    case body =>
      rintro ll pre e9 a' W _ _ ⟨h1, h2, h3, h4, h5⟩ rfl hlt
      obtain ⟨ra, hra⟩ : ∃ q, radP seen (rawV pre) = q := ⟨_, rfl⟩
      obtain ⟨le, hle⟩ : ∃ q, sumP (rawV pre) = q := ⟨_, rfl⟩
      have hlb := sumP_le pre
      rw [hra] at h1
      rw [hle] at h2 hlb
      obtain ⟨e0, e1, e2, e3⟩ := e9.2
      have lb0 := hlb.1
      have lb1 : le ≤ 10000000 := by have := hlb.2; omega
      have hs6 := e9.1.1
      obtain ⟨sv, sb, so, hsv, hSA, hsb, hsc⟩ := (HSN0.out.ext h5).at_ (k := e9.1.1.toNat) (by have := HNN.out; omega)
      have u0 := hsc 0 _ rfl
      simp only [Nat.mul_one, Nat.add_zero] at u0
      have hlt2 : e9.1.1 < (n : Int) := e1
      have k0 := (h3.cell (b := w.heap.size + 1 + 1) (o := 0) (by have := HN12.out.lt; omega) (by omega)).trans (HN12.out.c 0 _ rfl)
      rw [hSA] at k0
      have hbl : w.heap.size + 1 + 1 < W.heap.size := by omega
      have r0 := h1.cell
      have rf := h1.frozen
      have rl := h1.lt
      have s0 := h2.cell
      have sf := h2.frozen
      have sl := h2.lt
      have hwr : IntKind.i64.wrap (le + e9.1.2) = le + e9.1.2 := IntWalk.i64_in _ (by omega)
      have HRA := Lib.hid hra
      have HLE2 := Lib.hid hle
      have HSV : Hid ((seen[e9.1.1.toNat]?).getD false = sv) := by simp [Hid, hsv]
      have HALL := Lib.hid (And.intro h1 (And.intro h2 (And.intro h3 (And.intro h4 h5))))
      clear hra hle hlb hsv hSA hsc h1 h2 h3 h4 h5 hs6
      have fin : ∀ q : Bool, (ra && sv) = q → KeepsFrom w12.heap.size W ((W.setCell ⟨u1.heap.size + 1, 0, none⟩ (.bool q)).setCell ⟨u1.heap.size + 1 + 1, 0, none⟩ (.int .i64 (le + e9.1.2))) ∧
          KpE w12.heap.size (fun k => k = u1.heap.size + 1 ∨ k = u1.heap.size + 1 + 1) W ((W.setCell ⟨u1.heap.size + 1, 0, none⟩ (.bool q)).setCell ⟨u1.heap.size + 1 + 1, 0, none⟩ (.int .i64 (le + e9.1.2))) ∧
          (Boxed ((W.setCell ⟨u1.heap.size + 1, 0, none⟩ (.bool q)).setCell ⟨u1.heap.size + 1 + 1, 0, none⟩ (.int .i64 (le + e9.1.2))) (u1.heap.size + 1) 4 (.bool (radP seen (rawV (pre ++ [e9])))) ∧
           Boxed ((W.setCell ⟨u1.heap.size + 1, 0, none⟩ (.bool q)).setCell ⟨u1.heap.size + 1 + 1, 0, none⟩ (.int .i64 (le + e9.1.2))) (u1.heap.size + 1 + 1) 3 (.int .i64 (sumP (rawV (pre ++ [e9])))) ∧
           Kx w12.heap.size (fun k => k = u1.heap.size + 1 ∨ k = u1.heap.size + 1 + 1) w12 ((W.setCell ⟨u1.heap.size + 1, 0, none⟩ (.bool q)).setCell ⟨u1.heap.size + 1 + 1, 0, none⟩ (.int .i64 (le + e9.1.2))) ∧
           w12.heap.size ≤ ((W.setCell ⟨u1.heap.size + 1, 0, none⟩ (.bool q)).setCell ⟨u1.heap.size + 1 + 1, 0, none⟩ (.int .i64 (le + e9.1.2))).heap.size ∧
           Below w.heap.size w ((W.setCell ⟨u1.heap.size + 1, 0, none⟩ (.bool q)).setCell ⟨u1.heap.size + 1 + 1, 0, none⟩ (.int .i64 (le + e9.1.2)))) := fun q hq => by
        obtain ⟨h1, h2, h3, h4, h5⟩ := HALL.out
        have kk : Kx w12.heap.size (fun k => k = u1.heap.size + 1 ∨ k = u1.heap.size + 1 + 1) W ((W.setCell ⟨u1.heap.size + 1, 0, none⟩ (.bool q)).setCell ⟨u1.heap.size + 1 + 1, 0, none⟩ (.int .i64 (le + e9.1.2))) :=
          (Kx.set ⟨u1.heap.size + 1, 0, none⟩ _ (.inr (.inl rfl))).t (Kx.set ⟨u1.heap.size + 1 + 1, 0, none⟩ _ (.inr (.inr rfl)))
        have hsz : ((W.setCell ⟨u1.heap.size + 1, 0, none⟩ (.bool q)).setCell ⟨u1.heap.size + 1 + 1, 0, none⟩ (.int .i64 (le + e9.1.2))).heap.size = W.heap.size := by simp [World.setCell]
        refine ⟨((KeepsOthers.setCell _ _ _).from _).trans ((KeepsOthers.setCell _ _ _).from _), ⟨kk, by rw [hsz]; exact Nat.le_refl _⟩, ?_, ?_, h3.t kk, by rw [hsz]; exact h4, ?_⟩
        · rw [rawV_snoc, radP_snoc, HRA.out, HSV.out, hq]
          exact (h1.set (.bool q)).other (by omega) _
        · rw [rawV_snoc, sumP_snoc, HLE2.out]
          exact ((h2.other (by omega) (.bool q))).set _
        · exact below_set (below_set h5 ⟨u1.heap.size + 1, 0, none⟩ _ (by show _ ≤ u1.heap.size + 1; omega)) ⟨u1.heap.size + 1 + 1, 0, none⟩ _ (by show _ ≤ u1.heap.size + 1 + 1; omega)
      have FIN := Lib.hid fin
      clear fin
      cases ra
      · gi_wp2_with fail
        exact FIN.out false rfl
      · gi_wp2_with fail
        exact FIN.out sv rfl
    case done =>
      rintro D ys W hD hys ⟨h1, h2, h3, h4, h5⟩ hK
      rw [hys, HES3.out, radP_map] at h1
      rw [hys, HES3.out, sumP_map] at h2
      have hsb := HSB.out
      have hcp := vcuts_pos HTV.out leaf z.mi x.vs.l
      have x3 := (h3.cell (b := u1.heap.size) (o := 3) (by omega) (by omega)).trans (HX12.out.c 3 _ rfl)
      have x4 := (h3.cell (b := u1.heap.size) (o := 4) (by omega) (by omega)).trans (HX12.out.c 4 _ rfl)
      have xl : u1.heap.size < W.heap.size := by omega
      obtain ⟨ra, hra⟩ : ∃ q, seenAll seen x.vs.l = q := ⟨_, rfl⟩
      obtain ⟨cu, hcu⟩ : ∃ q, vcuts tree leaf z.mi x.vs.l = q := ⟨_, rfl⟩
      have HPR2 : Hid (placesR t tree leaf now seen z = max 0 ((if ra = true then x.rad else x.pro) - cu)) := by rw [← hra, ← hcu]; simpa [Hid] using HPR.out
      rw [hra] at h1
      rw [hcu] at h2 hcp
      have r0 := h1.cell
      have rl := h1.lt
      have s0 := h2.cell
      have sl := h2.lt
      obtain ⟨cu0, cu1⟩ := hcp
      obtain ⟨sb0, sb1, sb2, sb3⟩ := hsb
      have hB5 : Hid (Below w.heap.size w (W.putObj D (.deferred none))) := h5.grown (grownBy_putObj' _ D _) h5.size (fun r e => by cases e; omega)
      have HK := Lib.hid hK
      have hvl64 : (x.vs.l.length : Int) ≤ 64 := by omega
      clear hra hcu h1 h2 h3 hys HPR
      cases ra
      · have hwr : IntKind.i64.wrap (x.pro - cu) = x.pro - cu := IntWalk.i64_in _ (by omega)
        gi_wp2_with fail
        all_goals
          refine ⟨by simp, .inl ⟨_, _, rfl, run_takeDeferred HK.out, ?_⟩⟩
          refine ⟨.tuple #[.int .i64 (max 0 (x.pro - cu)), .int .i64 0], by first | (simp [results, Tryz.results14, go_sem]; done) | (simp [results, Tryz.results14, go_sem]; omega), ?_⟩
          rw [HD.out, HPL.out, HPR2.out]
          exact ⟨by simp, hB5.out⟩
      · have hwr : IntKind.i64.wrap (x.rad - cu) = x.rad - cu := IntWalk.i64_in _ (by omega)
        gi_wp2_with fail
        all_goals
          refine ⟨by simp, .inl ⟨_, _, rfl, run_takeDeferred HK.out, ?_⟩⟩
          refine ⟨.tuple #[.int .i64 (max 0 (x.rad - cu)), .int .i64 0], by first | (simp [results, Tryz.results14, go_sem]; done) | (simp [results, Tryz.results14, go_sem]; omega), ?_⟩
          rw [HD.out, HPL.out, HPR2.out]
          exact ⟨by simp, hB5.out⟩
    case stop =>
      rintro D cc pre W _ _ h _
      exact h.elim
end Go.Proofs.YtilocjliplmmpaaGreat

