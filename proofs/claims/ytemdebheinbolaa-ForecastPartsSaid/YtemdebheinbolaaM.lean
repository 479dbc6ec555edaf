/- Alive. -/
import Derived.Test.YtemdebheinbolaaL
namespace Go.Proofs.Ytemdebheinbolaa
open Go.RowKit Go.Shelf
attribute [local go_sem] Oper.semAt_some
theorem alive1_any (n : Int) (b : Nat) (A : Option Addr) (c : Nat) (l : List Nd) (w : World) (hc : w.cell? ⟨b, 0, none⟩ = some (.slice A l.length c)) (hl : l.length ≤ 1000) : Calls Try.prog 36 #[.int .i64 n, .pointer (some ⟨b, 0, none⟩)] w (RetB w (!inT l n)) := by
  obtain ⟨r, hr⟩ : ∃ r, (decide (0 ≤ n) && decide (n ≤ (l.length : Int) - 1)) = r := ⟨_, rfl⟩
  have HR : Hid (inT l n = r) := by
    unfold Hid inT; rw [← hr]; congr 1; rw [decide_eq_decide]; omega
  have H1 := Lib.hid hr
  clear hr
  cases r
  all_goals
    go_enter Try.func36, Try.ntmps36
    go_wp2_with fail
    refine (in_at _ H1.out).mono ?_
    rintro e w1 ⟨rfl, rfl⟩
    go_wp2_with fail
    go_ret
    exact ⟨ret_bool (by rw [HR.out]; rfl), ext_refl _⟩
theorem zero4 (w : World) : (zeroValue 4).run Try.prog w = .ok (.bool false) w := by kernel_rfl
theorem alive21_any (n : Int) (b bm k : Nat) (f : Int → Bool) (w : World) (hc : w.cell? ⟨b, 0, none⟩ = some (.map (some bm))) (hm : BMap Try.prog 3 4 w bm k f) (hn : (Lit.int .i64 n).wf = true) : Calls Try.prog 38 #[.int .i64 n, .pointer (some ⟨b, 0, none⟩)] w (RetB w (!f n)) := by
  have hlk := hm.look Try.underlying3 Try.underlying61 Try.underlying4 (zero4 _) n hn
  obtain ⟨r, hr⟩ : ∃ r, f n = r := ⟨_, rfl⟩
  rw [hr] at hlk ⊢
  clear hm hn hr
  cases r
  all_goals
    go_enter Try.func38, Try.ntmps38
    go_wp2_with fail
    go_ret
    exact ⟨rfl, ext_refl _⟩
theorem mk61 (w : World) : (Instr.makeMap 61 none).run Try.prog w = .ok (.map (some w.heap.size)) (w.alloc (.map #[] 0)) := by kernel_rfl
theorem BMap.congr {P : Program} {k e : TypeId} {w : World} {b n : Nat} {f g : Int → Bool} (h : BMap P k e w b n f) (hg : ∀ i, f i = g i) : BMap P k e w b n g := by
  rw [← funext hg]; exact h
set_option maxRecDepth 100000 in
set_option maxHeartbeats 3200000 in
theorem alive2_any (leaf : Int) (bl bs : Nat) (A B : Option Addr) (c d : Nat) (l : List Nd) (seen : List Int) (w : World) (hbl : bl < w.heap.size) (hbs : bs < w.heap.size) (cl : w.cell? ⟨bl, 0, none⟩ = some (.slice A l.length c)) (cs : w.cell? ⟨bs, 0, none⟩ = some (.slice B seen.length d))
    (ha : Slc w Nd.cells 3 A l) (hb : Slc w ic 1 B seen) (hsl : seen.length ≤ maxLen) (T : Tree l) (hin : seen.all (inT l) = true) (lf0 : 0 ≤ leaf) (lf1 : leaf < l.length) :
    Calls Try.prog 37 #[.int .i64 leaf, .pointer (some ⟨bl, 0, none⟩), .pointer (some ⟨bs, 0, none⟩)] w (RetB w (seen.all (below l leaf))) := by
  have h32 := T.hi
  have HT := Lib.hid T
  have hmm := mk61
  have HIN := Lib.hid hin
  have HB := Lib.hid hb
  have HCL := Lib.hid cl
  have HCS := Lib.hid cs
  have hM := BMap.made (P := Try.prog) (k := 3) (e := 4) w
  obtain ⟨w2, hw2⟩ : ∃ w2, (w.alloc (.map #[] 0)).alloc (.cells #[.map (some w.heap.size)] 61) = w2 := ⟨_, rfl⟩
  have hb2 : Below w.heap.size w w2 := by rw [← hw2]; exact ext_alloc (ext_alloc (ext_refl w) _) _
  have hz2 : w2.heap.size = w.heap.size + 1 + 1 := by rw [← hw2]; simp
  have hM2 : BMap Try.prog 3 4 w2 w.heap.size 0 (fun _ => false) := by rw [← hw2]; exact hM.ext (ext_alloc (ext_refl _) _)
  have hOn : Boxed w2 (w.heap.size + 1) 61 (.map (some w.heap.size)) := by
    have := Boxed.new (w.alloc (.map #[] 0)) 61 (.map (some w.heap.size)); rw [hw2] at this; simpa only [World.size_alloc] using this
  have hcl2 := (hb2.cell (p := ⟨bl, 0, none⟩) hbl).trans cl
  have HZ2 := Lib.hid hz2
  have HW2 := Lib.hid hw2
  have HA2 := Lib.hid (ha.ext hb2)
  have HM2 := Lib.hid hM2
  have hAb : ∀ b o s, A = some ⟨b, o, s⟩ → b < w.heap.size := fun b o s e => by
    obtain ⟨x, b', o', _, e', hlt, _⟩ := ha.at_ (k := 0) (by omega)
    rw [e] at e'; cases e'; exact hlt
  have HAb := Lib.hid hAb
  clear hAb
  have HON := Lib.hid hOn
  have HB2 := Lib.hid hb2
  clear T hin hb cl cs hM hM2 hOn hz2 hw2 ha hb2
  refine (callsIn_wide (n := 5)).1 ?_
  refine callsIn_of_wp_marks Try.func37 rfl trivial ?_ rfl
  simp only [Try.ntmps37, List.size_toArray, List.length_cons, List.length_nil, Nat.reduceAdd, Nat.reduceSub, Array.replicate_succ, Array.replicate_zero, List.push_toArray, List.append_toArray, List.nil_append, List.cons_append]
  have hcl3 : ((w.alloc (.map #[] 0)).alloc (.cells #[.map (some w.heap.size)] 61)).cell? ⟨bl, 0, none⟩ = some (.slice A l.length c) := by rw [HW2.out]; exact hcl2
  gi_wp2_with fail
  rw [HW2.out]
  clear hcl3
  refine ⟨trivial, (callsIn_wide.2 (way_any A c l.length leaf _)).mono ?_⟩
  rintro e w3' ⟨rfl, rfl⟩
  gi_wp2_with fail
  have hz2 : w.heap.size + 2 ≤ w2.heap.size := by have := HZ2.out; omega
  have hC := WCap.new2 w2 A c l leaf (fun k => k = w.heap.size) HA2.out (by omega) (by omega) (fun b o s e => by
    have := HAb.out b o s e
    omega) (by omega)
  obtain ⟨w3, hw3⟩ : ∃ w3, (w2.alloc (.cells #[.slice A l.length c] 22)).alloc (.cells #[.int .i64 leaf] 3) = w3 := ⟨_, rfl⟩
  have hz3 : w3.heap.size = w2.heap.size + 2 := by rw [← hw3]; simp
  have hb23 : Below w2.heap.size w2 w3 := by rw [← hw3]; exact ext_alloc (ext_alloc (ext_refl w2) _) _
  have HE3 := Lib.hid (ext_trans HB2.out hb23)
  have HM3 := Lib.hid (HM2.out.ext hb23)
  have HON3 : Hid (Boxed w3 (w.heap.size + 1) 61 (.map (some w.heap.size))) := Boxed.turn HON.out (grown_below hb23) (by simp)
  rw [hw3] at hC ⊢
  rw [← hz3] at hC
  have hz4 : w2.heap.size + 2 ≤ w3.heap.size := by omega
  clear hz3
  have HCC := Lib.hid hC
  have hLe := HE3.out.size
  clear hw3 hb23 hC hcl2
  refine wpIn_rangeFunc_ownH (F := Fence.wide) rfl (by decide) (gf := 44) (lb := #[.pointer (some ⟨w2.heap.size + 1, 0, none⟩), .pointer (some ⟨w2.heap.size, 0, none⟩)]) rfl trivial (enters_of Try.func44 (by kernel_rfl) rfl)
    (way_stops 4 (by decide) w3.heap.size (fun k => k = w.heap.size) (w2.heap.size + 1) w2.heap.size _ c l leaf HT.out ⟨by omega, lf1⟩ w3 (Nat.le_refl _) HCC.out) KpE.t (KpE.b (Nat.le_refl _)) (Below.refl _ _) (fun _ => rfl)
    (fun pre W => Boxed W (w.heap.size + 1) 61 (.map (some w.heap.size)) ∧ BMap Try.prog 3 4 W w.heap.size pre.length (fun i => decide (i ∈ rawN pre)) ∧ Below w.heap.size w W ∧ w3.heap.size ≤ W.heap.size)
    (fun _ _ _ => False)
    (fun s X Y row hs hg hr => by
      obtain ⟨h1, h2, h3, h4⟩ := hs
      exact ⟨Boxed.turn h1 hg (fun r e => (hr r e).2), h2.block (hg.block _ (by omega) (fun e => by have := (hr _ e.symm).1; omega)), h3.grown hg (Nat.le_trans hLe h4) (fun r e => Nat.le_trans hLe (hr r e).1), Nat.le_trans h4 hg.size⟩)
    (fun _ _ _ _ _ hs _ _ => hs)
    ⟨HON3.out, HM3.out.congr (fun i => by simp [rawN]), HE3.out, Nat.le_refl _⟩
    (fun x a' W => a' = { tmps := #[.int .i64 leaf, .pointer (some ⟨bl, 0, none⟩), .pointer (some ⟨bs, 0, none⟩), undef, .bool false, .pointer (some ⟨w.heap.size + 1, 0, none⟩), .int .i64 x.1, .map (some w.heap.size), .slice A l.length c, .int .i64 leaf, .func (.func 44) #[] #[.pointer (some ⟨w2.heap.size + 1, 0, none⟩), .pointer (some ⟨w2.heap.size, 0, none⟩)], .int .i64 x.1, undef, undef, undef, undef, undef, undef], defers := [] })
    (fun x a' _ X Y row hs hg hr => hs) ?assign ?body ?done ?stop
  case assign =>
    rintro ll pre x W K hI hK
    simp only [encN]
    gi_wp2
    exact hK _ _ (KeepsFrom.refl _ _) ⟨Kx.refl _, Nat.le_refl _⟩ hI rfl
  case body =>
    rintro ll pre x a' W _ _ ⟨h1, h2, h3, h4⟩ rfl hlt
    have cb := Boxed.cell h1
    have hwl := way_len l leaf
    obtain ⟨x1, x2⟩ := x.2
    obtain ⟨W', hput, hM', hg'⟩ := h2.put Try.underlying3 Try.underlying61 Try.underlying4 (by unfold maxLen; omega) x.1 true (wf64 (by omega) (by omega))
    have hon : Boxed W' (w.heap.size + 1) 61 (.map (some w.heap.size)) := Boxed.kept h1 hg' (fun e => by injection e with e; omega)
    have hB' : Below w.heap.size w W' := h3.grown hg' h3.size (fun r e => by cases e; exact Nat.le_refl _)
    have hkp : KpE w3.heap.size (fun k => k = w.heap.size) W W' := ⟨Kx.grown hg' h4 (fun r e => by cases e; exact .inr rfl), hg'.size⟩
    have hkf : KeepsFrom w3.heap.size W W' := KeepsFrom.of_grownBy hg' (fun j e => by cases e; omega)
    have HOUT : Hid (KeepsFrom w3.heap.size W W' ∧ KpE w3.heap.size (fun k => k = w.heap.size) W W' ∧ Boxed W' (w.heap.size + 1) 61 (.map (some w.heap.size)) ∧ BMap Try.prog 3 4 W' w.heap.size (pre ++ [x]).length (fun i => decide (i ∈ rawN (pre ++ [x]))) ∧ Below w.heap.size w W' ∧ w3.heap.size ≤ W'.heap.size) :=
      ⟨hkf, hkp, hon, by rw [List.length_append]; exact hM'.congr (fun i => by rw [rawN_snoc]; by_cases e : i = x.1 <;> simp [e]), hB', Nat.le_trans h4 hg'.size⟩
    clear h1 h2 h3 hM' hg' hon hB' hkp hkf hwl
    gi_wp2
    exact HOUT.out
  case done =>
    rintro D ys W hD hys ⟨h1, h2, h3, h4⟩ hK
    have HM := Lib.hid h2
    have HH3 := Lib.hid h3
    have HYS := Lib.hid hys
    have cs := (h3.cell (p := ⟨bs, 0, none⟩) hbs).trans HCS.out
    have cb := Boxed.cell h1
    have HCB := Lib.hid cb
    have hbW : bs < W.heap.size := Nat.lt_of_lt_of_le hbs h3.size
    have hDW : D < W.heap.size := (Array.getElem?_eq_some_iff.1 hK).1
    have hW1 : w.heap.size + 1 < W.heap.size := by omega
    obtain ⟨r, hr⟩ : ∃ r, seen.any (fun n => !(decide (n ∈ rawN ys))) = r := ⟨_, rfl⟩
    have HR := Lib.hid hr
    have hres : seen.all (below l leaf) = !r := by
      rw [← hr, hys, Bool.eq_iff_iff, List.all_eq_true]
      simp only [Bool.not_eq_true', List.any_eq_false, Bool.not_eq_true', decide_eq_false_iff_not, Decidable.not_not, below_iff]
    have HRES := Lib.hid hres
    have HON4 := Lib.hid h1
    clear h1 h2 h3 hys hr hres
    gi_wp2_with fail
    refine ⟨trivial, (callsIn_wide.2 (containsI 38 (.pointer (some ⟨w.heap.size + 1, 0, none⟩)) (fun n => !(decide (n ∈ rawN ys))) B d seen _ (HB.out.ext HH3.out) hsl enters38 (fun n W' hn hW' => ?_))).mono ?_⟩
    · have hin := HIN.out
      rw [List.all_eq_true] at hin
      have hn2 := hin n hn
      simp only [inT, Bool.and_eq_true, decide_eq_true_eq] at hn2
      exact alive21_any n _ w.heap.size ys.length (fun i => decide (i ∈ rawN ys)) W' ((hW'.cell (p := ⟨w.heap.size + 1, 0, none⟩) hW1).trans HCB.out) (HM.out.ext hW') (wf64 (by omega) (by omega))
    rintro e W5 ⟨rfl, B5⟩
    rw [HR.out]
    have hB5 : Below w.heap.size w (W5.putObj D (.deferred none)) := (ext_trans HH3.out B5).grown (grownBy_putObj' W5 D _) (ext_trans HH3.out B5).size (fun r e => by cases e; omega)
    have hK5 : W5.heap[D]? = some (.deferred (some [])) := (B5.block D hDW).trans hK
    cases r
    · gi_wp2_with fail
      refine ⟨by simp, .inl ⟨_, _, rfl, run_takeDeferred hK5, ?_⟩⟩
      refine ⟨.bool true, by simp [results, Try.results37, go_sem], ?_⟩
      rw [HRES.out]
      exact ⟨rfl, hB5⟩
    · gi_wp2_with fail
      refine ⟨by simp, .inl ⟨_, _, rfl, run_takeDeferred hK5, ?_⟩⟩
      refine ⟨.bool false, by simp [results, Try.results37, go_sem], ?_⟩
      rw [HRES.out]
      exact ⟨rfl, hB5⟩
  case stop =>
    rintro D cc pre W _ _ h _
    exact h.elim
set_option maxRecDepth 100000 in
set_option maxHeartbeats 800000 in
theorem alive_any (A B : Option Addr) (c d : Nat) (l : List Nd) (seen : List Int) (w : World) (ha : TOk w A l) (hb : Slc w ic 1 B seen) (hbl : seen.length ≤ maxLen) : Calls Try.prog 20 #[.slice A l.length c, .slice B seen.length d] w (RetP w (aliveR l seen)) := by
  have hE : Below w.heap.size w ((w.alloc (.cells #[.slice A l.length c] 22)).alloc (.cells #[.slice B seen.length d] 25)) := ext_alloc (ext_alloc (ext_refl w) _) _
  have n0 : ((w.alloc (.cells #[.slice A l.length c] 22)).alloc (.cells #[.slice B seen.length d] 25)).cell? ⟨w.heap.size, 0, none⟩ = some (.slice A l.length c) := ((Boxed.new w 22 (.slice A l.length c)).alloc (.cells #[.slice B seen.length d] 25)).cell
  have n1 : ((w.alloc (.cells #[.slice A l.length c] 22)).alloc (.cells #[.slice B seen.length d] 25)).cell? ⟨w.heap.size + 1, 0, none⟩ = some (.slice B seen.length d) := by
    have := (Boxed.new (w.alloc (.cells #[.slice A l.length c] 22)) 25 (.slice B seen.length d)).cell; rwa [World.size_alloc] at this
  have hsz : w.heap.size + 1 < ((w.alloc (.cells #[.slice A l.length c] 22)).alloc (.cells #[.slice B seen.length d] 25)).heap.size := by simp
  have HE := Lib.hid hE
  have M0 := Lib.hid n0
  have M1 := Lib.hid n1
  have MS := Lib.hid hsz
  clear hE n0 n1 hsz
  cases hv : vld l
  · have HV := Lib.hid hv
    have HR : Hid (aliveR l seen = ([], 180)) := by simp [Hid, aliveR, hv]
    clear hv
    go_enter Try.func20, Try.ntmps20
    go_wp2_with fail
    refine (check_at 180 (chk_no HV.out) rfl (ha.ext HE.out)).mono ?_
    rintro e w1 ⟨rfl, B1⟩
    go_wp2_with fail
    go_ret2
    rw [HR.out]; exact ⟨none, 0, rfl, Slc.nil, ext_trans HE.out B1⟩
  have T := tree_of hv
  have h32 := T.hi
  have HV := Lib.hid hv
  have HT := Lib.hid T
  obtain ⟨r, hr⟩ : ∃ r, seen.all (inT l) = r := ⟨_, rfl⟩
  have HNO : Hid (r = false → aliveR l seen = ([], 180)) := fun h => by simp [aliveR, hv, hr, h]
  have HYES : Hid (r = true → aliveR l seen = if (aliveL l seen).length = 0 then ([], 181) else (aliveL l seen, 0)) := fun h => by simp [aliveR, hv, hr, h]
  have hany : seen.any (fun n => !inT l n) = !r := by
    rw [← hr]; rw [Bool.eq_iff_iff]; simp
  have HIN := Lib.hid hr
  have HANY := Lib.hid hany
  clear hv T hr hany
  go_enter Try.func20, Try.ntmps20
  go_wp2_with fail
  refine (check_at 0 (chk_yes HV.out) rfl (ha.ext HE.out)).mono ?_
  rintro e w1 ⟨rfl, B1⟩
  have n0 := (B1.cell (p := ⟨w.heap.size, 0, none⟩) (Nat.lt_of_succ_lt MS.out)).trans M0.out
  have n1 := (B1.cell (p := ⟨w.heap.size + 1, 0, none⟩) MS.out).trans M1.out
  have s1 : w.heap.size + 1 < w1.heap.size := Nat.lt_of_lt_of_le MS.out B1.size
  have hE1 := ext_trans HE.out B1
  have N0 := Lib.hid n0
  have N1 := Lib.hid n1
  go_wp2_with fail
  refine (containsI 36 (.pointer (some ⟨w.heap.size, 0, none⟩)) (fun n => !inT l n) B d seen _ (hb.ext hE1) hbl enters36 (fun n W _ hW => alive1_any n _ A c l W ((hW.cell (p := ⟨w.heap.size, 0, none⟩) (Nat.lt_of_succ_lt s1)).trans N0.out) (by omega))).mono ?_
  rintro e w2 ⟨rfl, B2⟩
  rw [HANY.out]
  have hE2 := ext_trans hE1 B2
  have s2 : w.heap.size + 1 < w2.heap.size := Nat.lt_of_lt_of_le s1 B2.size
  clear n0 n1
  have n0 := (B2.cell (p := ⟨w.heap.size, 0, none⟩) (Nat.lt_of_succ_lt s1)).trans N0.out
  have n1 := (B2.cell (p := ⟨w.heap.size + 1, 0, none⟩) s1).trans N1.out
  have P0 := Lib.hid n0
  have P1 := Lib.hid n1
  clear B1 B2
  cases r
  · go_wp2_with fail
    go_ret2
    rw [HNO.out (by trivial)]; exact ⟨none, 0, rfl, Slc.nil, hE2⟩
  · have HY := Lib.hid (HYES.out rfl)
    go_wp2_with fail
    refine (leavesF2 37 (.pointer (some ⟨w.heap.size, 0, none⟩)) (.pointer (some ⟨w.heap.size + 1, 0, none⟩)) (fun x => seen.all (below l x)) A c l w2 (ha.ext hE2).nd (by omega) enters37 (fun x W hx hW => ?_)).mono ?_
    · obtain ⟨x0, x1, _⟩ := (leafB_iff l x).1 hx
      exact alive2_any x w.heap.size (w.heap.size + 1) A B c d l seen W (Nat.lt_of_lt_of_le (Nat.lt_of_succ_lt s2) hW.size) (Nat.lt_of_lt_of_le s2 hW.size) ((hW.cell (p := ⟨w.heap.size, 0, none⟩) (Nat.lt_of_succ_lt s2)).trans P0.out) ((hW.cell (p := ⟨w.heap.size + 1, 0, none⟩) s2).trans P1.out) ((ha.ext hE2).ext hW).nd ((hb.ext hE2).ext hW) hbl HT.out HIN.out x0 x1
    rintro e w3 ⟨A2, c2, rfl, hS, B3⟩
    have hE3 := ext_trans hE2 B3
    have hS2 : Slc w3 ic 1 A2 (aliveL l seen) := hS
    rw [show leavesIf l (fun x => seen.all (below l x)) = aliveL l seen from rfl]
    clear hS
    have hyy := HY.out
    by_cases hz : (aliveL l seen).length = 0
    · rw [if_pos hz] at hyy
      have HYY := Lib.hid hyy
      have e1 : (((aliveL l seen).length : Int) == 0) = true := by simp [hz]
      clear hyy hz n0 n1
      go_wp2_with fail
      go_ret2
      rw [HYY.out]
      exact ⟨none, 0, rfl, Slc.nil, hE3⟩
    · rw [if_neg hz] at hyy
      have HYY := Lib.hid hyy
      have e1 : (((aliveL l seen).length : Int) == 0) = false := by simpa using hz
      clear hyy hz n0 n1
      go_wp2_with fail
      go_ret2
      rw [HYY.out]
      exact ⟨A2, c2, rfl, hS2, hE3⟩
end Go.Proofs.Ytemdebheinbolaa
