/- Possible: the loop over the shifts. -/
import Derived.Test.YtjiojpoiocdnmaaGreatMO
set_option linter.unusedSimpArgs false
set_option linter.unusedVariables false
namespace Go.Proofs.YtjiojpoiocdnmaaGreat
open Go.RowKit Go.Shelf Go.ChangeMaps
attribute [local go_sem] Oper.semAt_some
theorem EntOk.step {W W5 : World} {e : Ent} {κ : Type} [DecidableEq κ] {enc : κ → Value} {r b : Nat} {l left : List (κ × Value)} (h : EntOk W e) (hi : GIter enc W r b l left) (hs : Stepd W W5 r) : EntOk W5 e := by
 have hne := gne h.m hi
 obtain ⟨cs, hc⟩ := h.g
 have hb : e.b ≠ r := by
  rintro q
  obtain ⟨o, ho, hoc⟩ := hi.obj
  rw [← q, hc] at ho; cases ho; cases hoc
 exact ⟨⟨cs, (hs.keep _ hb).trans hc⟩, h.m.of_block (hs.keep _ hne), h.v⟩
theorem EntOk.sb {W : World} {e : Ent} {m : Nat} {L : List (Nat × Value)} (h : EntOk W e) (hm : GMap gptr W m L) (hne : e.mb ≠ m) (o : Obj) : EntOk (setBlock W m o) e := by
 obtain ⟨cs, hc⟩ := h.g
 have hb : e.b ≠ m := by
  rintro q
  obtain ⟨es, c, h1, _⟩ := hm
  rw [← q, hc] at h1; cases h1
 exact ⟨⟨cs, (sb_other W o hb).trans hc⟩, h.m.of_block (sb_other W o hne), h.v⟩
theorem entL_put {es : List Ent} {b mb : Nat} {vl : List (V4 × Value)} (h : b ∉ es.map (·.b)) : put (entL es) b (.map (some mb)) = entL (es ++ [⟨b, mb, vl⟩]) := by
 have h1 : b ∉ (entL es).map (·.1) := by simpa [entL] using h
 unfold put
 rw [if_neg h1]
 simp [entL]
def inBA (l : List ByteArray) (c : ByteArray) : Bool := l.any (fun x => decide (x = c))
theorem inBA_iff {l : List ByteArray} {c : ByteArray} : inBA l c = true ↔ c ∈ l := by
 unfold inBA
 rw [List.any_eq_true]
 simp only [decide_eq_true_eq]
 exact ⟨fun ⟨x, h, e⟩ => e ▸ h, fun h => ⟨c, h, rfl⟩⟩
theorem inBA_no {l : List ByteArray} {c : ByteArray} (h : c ∉ l) : inBA l c = false := by
 cases e : inBA l c
 ·rfl
 ·exact absurd (inBA_iff.1 e) h
theorem bs_new {X : Scn} (hinj : ∀ g ∈ X.G, ∀ g' ∈ X.G, g.b = g'.b → g = g') {left : List ByteArray} {bs : List Nat} (hp : bs.Perm ((X.G.filter (fun g : Grp => !inBA left g.call)).map (·.b))) {g : Grp} (hg : g ∈ X.G) (hl : g.call ∈ left) : g.b ∉ bs := fun hm => by
 obtain ⟨q, hq, e⟩ := List.mem_map.1 (hp.mem_iff.1 hm)
 obtain ⟨h1, h2⟩ := List.mem_filter.1 hq
 obtain rfl := hinj q h1 g hg e
 rw [inBA_iff.2 hl] at h2
 cases h2
theorem filter_add {G : List Grp} (hnd : (G.map (·.call)).Nodup) {left left' : List ByteArray} {g : Grp} (hg : g ∈ G) (hgl : g.call ∈ left) (hl : ∀ c, c ∈ left' ↔ c ∈ left ∧ c ≠ g.call) :
  (G.filter (fun q : Grp => !inBA left' q.call)).Perm ((G.filter (fun q : Grp => !inBA left q.call)) ++ [g]) := by
 induction G with
 | nil => cases hg
 | cons x G ih =>
  simp only [List.map_cons, List.nodup_cons] at hnd
  rcases List.mem_cons.1 hg with rfl | h1
  ·have e1 : G.filter (fun q : Grp => !inBA left' q.call) = G.filter (fun q : Grp => !inBA left q.call) := by
    apply List.filter_congr
    intro q hq
    have hne : q.call ≠ g.call := fun e => hnd.1 (e ▸ List.mem_map.2 ⟨q, hq, rfl⟩)
    have : q.call ∈ left' ↔ q.call ∈ left := by rw [hl]; exact ⟨fun h => h.1, fun h => ⟨h, hne⟩⟩
    by_cases hm : q.call ∈ left
    ·rw [inBA_iff.2 hm, inBA_iff.2 (this.2 hm)]
    ·rw [inBA_no hm, inBA_no (mt this.1 hm)]
   have h1 : g.call ∉ left' := fun h => ((hl _).1 h).2 rfl
   rw [List.filter_cons_of_pos (by rw [inBA_no h1]; rfl), List.filter_cons_of_neg (by rw [inBA_iff.2 hgl]; simp), e1]
   exact List.perm_append_comm (l₁ := [g])
  ·have hne : x.call ≠ g.call := fun e => hnd.1 (e ▸ List.mem_map.2 ⟨g, h1, rfl⟩)
   have ih := ih hnd.2 h1
   have hx : x.call ∈ left' ↔ x.call ∈ left := by rw [hl]; exact ⟨fun h => h.1, fun h => ⟨h, hne⟩⟩
   by_cases hm : x.call ∈ left
   ·rw [List.filter_cons_of_neg (by rw [inBA_iff.2 (hx.2 hm)]; simp), List.filter_cons_of_neg (by rw [inBA_iff.2 hm]; simp)]
    exact ih
   ·rw [List.filter_cons_of_pos (by rw [inBA_no (mt hx.1 hm)]; rfl), List.filter_cons_of_pos (by rw [inBA_no hm]; rfl), List.cons_append]
    exact ih.cons x
/-- A slot that tells whether P. -/
def FdV (v : Value) (P : Prop) : Prop := ∃ fd : Bool, v = .bool fd ∧ (fd = true ↔ P)
theorem take_found {X : Scn} {P : SliceOf Int → Prop} {k : Nat} {h : SliceOf Int} (hh : X.sh[k]? = some h) : (∃ q ∈ X.sh.take (k + 1), P q) ↔ ((∃ q ∈ X.sh.take k, P q) ∨ P h) := by
 rw [take_snoc2 hh]
 constructor
 ·rintro ⟨q, h1, h2⟩
  rcases List.mem_append.1 h1 with h3 | h3
  ·exact .inl ⟨q, h3, h2⟩
  ·rw [List.mem_singleton] at h3; subst h3; exact .inr h2
 ·rintro (⟨q, h1, h2⟩ | h2)
  ·exact ⟨q, by simp [h1], h2⟩
  ·exact ⟨h, by simp, h2⟩
theorem found_len {X : Scn} {shs : List Int} {L : List (V4 × Value)} (hL : ∀ v, v ∈ L.map (·.1) ↔ SumF X.lost X.bud (VecP X shs) (keysG X) v) : 0 < L.length ↔ FoundAt X shs := by
 unfold FoundAt
 constructor
 ·intro h
  obtain ⟨p, hp⟩ := List.exists_mem_of_length_pos h
  exact ⟨p.1, (hL _).1 (List.mem_map.2 ⟨p, hp, rfl⟩)⟩
 ·rintro ⟨s, hs⟩
  obtain ⟨p, hp, _⟩ := List.mem_map.1 ((hL s).2 hs)
  exact List.length_pos_of_mem hp
set_option maxRecDepth 100000 in
set_option maxHeartbeats 16000000 in
theorem loop3 {c3 : Code} {u0 u1 u2 u3 u4 u5 u6 u7 u9 u11 u12 u13 u14 u16 u17 u18 u19 u20 u21 u22 u23 u24 u25 u26 u27 u28 u29 u30 u31 u32 u33 u34 u35 u36 u37 u38 u39 u40 u41 u42 u43 u44 u45 u46 u47 u48 u49 u50 u51 u52 u53 u54 u55 u56 u57 u58 u59 u60 u61 u62 u63 u68 u69 u70 u71 u72 u73 u74 u75 u76 u77 u78 u79 u80 u81 u82 u83 u84 u85 u86 u87 u88 u89 u90 u91 u92 u93 u94 u95 u96 u97 u98 u99 u100 u101 u102 u103 u104 u105 u106 u107 u108 u109 u110 u111 u112 u113 u114 u115 u116 u117 u118 u119 u120 u121 u122 u123 u124 u125 u126 u127 u128 u129 u130 u131 u132 u133 u134 u135 u136 u137 u138 u139 u140 u141 u142 u143 u144 u145 u146 u147 u148 u149 : Value} {Q : Exit → Act → World → Prop} (W : World) (B base xb pb ns : Nat) (PA SA : Option Addr) (pc SC : Nat) (X : Scn) (rows : List BR)
  (hc3 : c3 = bB (sR (code3 Tryz.f11))) (hX : SceneOk W X) (hxb : W.heap[xb]? = some (Obj.cells X.cells.toArray 78 (0, 0))) (hpb : W.heap[pb]? = some (Obj.cells #[.slice PA X.st.length pc] 34 (0, 0))) (hN : SceneN X ns) (hinj : ∀ g ∈ X.G, ∀ g' ∈ X.G, g.b = g'.b → g = g') (hnd : (X.G.map (·.call)).Nodup) (hndb : (X.G.map (·.b)).Nodup)
  (hSA : X.hA = SA) (hSC : X.hc = SC) (hR : RS W.heap.size W base (.slice PA X.st.length pc) X rows (fun _ _ => False)) (hB : B ≤ W.heap.size) (hbase : base ≤ W.heap.size)
  (hQ : ∀ (v17 v18 v20 v22 v23 v24 v25 v26 v27 v28 v67 v68 v69 v70 v71 v72 v73 v74 v75 v76 v77 v78 v79 v80 v81 v82 v83 v84 v85 v86 v87 v88 v89 v90 v91 v92 v93 v94 v95 v96 v97 v98 v99 v100 v101 v102 v103 v104 v105 v106 v107 v108 v109 v110 v111 v112 v113 v114 v115 v116 v117 v118 v119 v120 v121 v122 v123 v124 v125 v126 v127 v128 v129 v130 v131 v132 v133 v134 v135 v136 v137 v138 v139 v140 v141 v142 v143 v144 v145 v146 : Value) (Ds1 : List Nat) (rows1 : List BR) (w1 : World) (fd : Bool), (fd = true ↔ ∃ h ∈ X.sh, FoundAt X h.l) → KB W w1 → Below base W w1 → RS W.heap.size w1 base (.slice PA X.st.length pc) X rows1 (fun n j => ∃ h ∈ X.sh, SHit X h.l n j) → Dfs B Ds1 w1 → Q (.exit 4) { tmps := #[u0, u1, u2, u3, u4, u5, u6, u7, .pointer (some ⟨pb, 0, none⟩), u9, .pointer (some ⟨xb, 0, none⟩), u11, u12, u13, u14, .bool fd, u16, v17, v18, u19, v20, u21, v22, v23, v24, v25, v26, v27, v28, u29, u30, u31, u32, u33, u34, u35, u36, u37, u38, u39, u40, u41, u42, u43, u44, u45, u46, u47, u48, u49, u50, u51, u52, u53, u54, u55, u56, u57, u58, u59, u60, u61, u62, u63, .pointer (some ⟨xb, 10, none⟩), .slice SA X.sh.length SC, .int .i64 X.sh.length, v67, v68, v69, v70, v71, v72, v73, v74, v75, v76, v77, v78, v79, v80, v81, v82, v83, v84, v85, v86, v87, v88, v89, v90, v91, v92, v93, v94, v95, v96, v97, v98, v99, v100, v101, v102, v103, v104, v105, v106, v107, v108, v109, v110, v111, v112, v113, v114, v115, v116, v117, v118, v119, v120, v121, v122, v123, v124, v125, v126, v127, v128, v129, v130, v131, v132, v133, v134, v135, v136, v137, v138, v139, v140, v141, v142, v143, v144, v145, v146, u147, u148, u149], defers := Ds1.map mark } w1) :
  c3.wpIn Fence.wide 5 Tryz.prog Q { tmps := #[u0, u1, u2, u3, u4, u5, u6, u7, .pointer (some ⟨pb, 0, none⟩), u9, .pointer (some ⟨xb, 0, none⟩), u11, u12, u13, u14, .bool false, u16, u17, u18, u19, u20, u21, u22, u23, u24, u25, u26, u27, u28, u29, u30, u31, u32, u33, u34, u35, u36, u37, u38, u39, u40, u41, u42, u43, u44, u45, u46, u47, u48, u49, u50, u51, u52, u53, u54, u55, u56, u57, u58, u59, u60, u61, u62, u63, .pointer (some ⟨xb, 10, none⟩), .slice SA X.sh.length SC, .int .i64 X.sh.length, .int .i64 0, u68, u69, u70, u71, u72, u73, u74, u75, u76, u77, u78, u79, u80, u81, u82, u83, u84, u85, u86, u87, u88, u89, u90, u91, u92, u93, u94, u95, u96, u97, u98, u99, u100, u101, u102, u103, u104, u105, u106, u107, u108, u109, u110, u111, u112, u113, u114, u115, u116, u117, u118, u119, u120, u121, u122, u123, u124, u125, u126, u127, u128, u129, u130, u131, u132, u133, u134, u135, u136, u137, u138, u139, u140, u141, u142, u143, u144, u145, u146, u147, u148, u149], defers := [] } W := by
 have HQ := Lib.hid hQ
 have HX := Lib.hid hX
 have HXB := Lib.hid hxb
 have HPB := Lib.hid hpb
 have HN := Lib.hid hN
 have HINJ := Lib.hid hinj
 have HND := Lib.hid hnd
 have HNDB := Lib.hid hndb
 have HR := Lib.hid hR
 have HSA := Lib.hid hSA
 have HSC := Lib.hid hSC
 have HROW : Hid (∀ g ∈ X.G, ∀ i ∈ g.ts, ∃ r, X.st[i]? = some r ∧ 0 < r.l.length ∧ r.l.length ≤ 4096) := fun g hg i hi => by
  have hlt := hN.tn g hg i hi
  exact ⟨X.st[i], by simp [hlt], hN.sp _ (by simp), hN.sl _ (by simp)⟩
 have hshn : X.sh.length ≤ 2401 := hN.hn
 clear hQ hX hxb hpb hN hinj hnd hndb hR hSA hSC
 subst hc3
 simp only [code5, code3, bodyC, Tryz.f11, sR, sL, bB, lB]
 obtain ⟨I3, hI3⟩ : ∃ I3 : Act → World → Prop, I3 = (fun a1 w1 => ∃ (v15 v17 v18 v20 v22 v23 v24 v25 v26 v27 v28 v68 v69 v70 v71 v72 v73 v74 v75 v76 v77 v78 v79 v80 v81 v82 v83 v84 v85 v86 v87 v88 v89 v90 v91 v92 v93 v94 v95 v96 v97 v98 v99 v100 v101 v102 v103 v104 v105 v106 v107 v108 v109 v110 v111 v112 v113 v114 v115 v116 v117 v118 v119 v120 v121 v122 v123 v124 v125 v126 v127 v128 v129 v130 v131 v132 v133 v134 v135 v136 v137 v138 v139 v140 v141 v142 v143 v144 v145 v146 : Value) (Ds1 : List Nat) (k : Nat) (rows1 : List BR), Hid (k ≤ X.sh.length) ∧ Hid (FdV v15 (∃ h ∈ X.sh.take k, FoundAt X h.l)) ∧ Hid (KB W w1) ∧ Hid (Below base W w1) ∧ Hid (RS W.heap.size w1 base (.slice PA X.st.length pc) X rows1 (fun n j => ∃ h ∈ X.sh.take k, SHit X h.l n j)) ∧ Hid (Dfs B Ds1 w1) ∧ a1 = { tmps := #[u0, u1, u2, u3, u4, u5, u6, u7, .pointer (some ⟨pb, 0, none⟩), u9, .pointer (some ⟨xb, 0, none⟩), u11, u12, u13, u14, v15, u16, v17, v18, u19, v20, u21, v22, v23, v24, v25, v26, v27, v28, u29, u30, u31, u32, u33, u34, u35, u36, u37, u38, u39, u40, u41, u42, u43, u44, u45, u46, u47, u48, u49, u50, u51, u52, u53, u54, u55, u56, u57, u58, u59, u60, u61, u62, u63, .pointer (some ⟨xb, 10, none⟩), .slice SA X.sh.length SC, .int .i64 X.sh.length, .int .i64 k, v68, v69, v70, v71, v72, v73, v74, v75, v76, v77, v78, v79, v80, v81, v82, v83, v84, v85, v86, v87, v88, v89, v90, v91, v92, v93, v94, v95, v96, v97, v98, v99, v100, v101, v102, v103, v104, v105, v106, v107, v108, v109, v110, v111, v112, v113, v114, v115, v116, v117, v118, v119, v120, v121, v122, v123, v124, v125, v126, v127, v128, v129, v130, v131, v132, v133, v134, v135, v136, v137, v138, v139, v140, v141, v142, v143, v144, v145, v146, u147, u148, u149], defers := Ds1.map mark }) := ⟨_, rfl⟩
 have HI3 := Lib.hid hI3
 clear hI3
 refine wpIn_loop I3 (fun a1 _ => X.sh.length - (intOf (a1.tmps.getD 67 Go.undef)).toNat) ?_ ?_
 ·rw [HI3.out]
  exact ⟨.bool false, u17, u18, u20, u22, u23, u24, u25, u26, u27, u28, u68, u69, u70, u71, u72, u73, u74, u75, u76, u77, u78, u79, u80, u81, u82, u83, u84, u85, u86, u87, u88, u89, u90, u91, u92, u93, u94, u95, u96, u97, u98, u99, u100, u101, u102, u103, u104, u105, u106, u107, u108, u109, u110, u111, u112, u113, u114, u115, u116, u117, u118, u119, u120, u121, u122, u123, u124, u125, u126, u127, u128, u129, u130, u131, u132, u133, u134, u135, u136, u137, u138, u139, u140, u141, u142, u143, u144, u145, u146, [], 0, rows, Nat.zero_le _, ⟨false, rfl, by simp⟩, KB.refl _, Below.refl _ _, HR.out.congr (fun n j => by simp), Dfs.nil _ _, rfl⟩
 intro a1 wp hinv
 rw [HI3.out] at hinv
 obtain ⟨v15, hinv⟩ := hinv
 obtain ⟨v17, hinv⟩ := hinv
 obtain ⟨v18, hinv⟩ := hinv
 obtain ⟨v20, hinv⟩ := hinv
 obtain ⟨v22, hinv⟩ := hinv
 obtain ⟨v23, hinv⟩ := hinv
 obtain ⟨v24, hinv⟩ := hinv
 obtain ⟨v25, hinv⟩ := hinv
 obtain ⟨v26, hinv⟩ := hinv
 obtain ⟨v27, hinv⟩ := hinv
 obtain ⟨v28, hinv⟩ := hinv
 obtain ⟨v68, hinv⟩ := hinv
 obtain ⟨v69, hinv⟩ := hinv
 obtain ⟨v70, hinv⟩ := hinv
 obtain ⟨v71, hinv⟩ := hinv
 obtain ⟨v72, hinv⟩ := hinv
 obtain ⟨v73, hinv⟩ := hinv
 obtain ⟨v74, hinv⟩ := hinv
 obtain ⟨v75, hinv⟩ := hinv
 obtain ⟨v76, hinv⟩ := hinv
 obtain ⟨v77, hinv⟩ := hinv
 obtain ⟨v78, hinv⟩ := hinv
 obtain ⟨v79, hinv⟩ := hinv
 obtain ⟨v80, hinv⟩ := hinv
 obtain ⟨v81, hinv⟩ := hinv
 obtain ⟨v82, hinv⟩ := hinv
 obtain ⟨v83, hinv⟩ := hinv
 obtain ⟨v84, hinv⟩ := hinv
 obtain ⟨v85, hinv⟩ := hinv
 obtain ⟨v86, hinv⟩ := hinv
 obtain ⟨v87, hinv⟩ := hinv
 obtain ⟨v88, hinv⟩ := hinv
 obtain ⟨v89, hinv⟩ := hinv
 obtain ⟨v90, hinv⟩ := hinv
 obtain ⟨v91, hinv⟩ := hinv
 obtain ⟨v92, hinv⟩ := hinv
 obtain ⟨v93, hinv⟩ := hinv
 obtain ⟨v94, hinv⟩ := hinv
 obtain ⟨v95, hinv⟩ := hinv
 obtain ⟨v96, hinv⟩ := hinv
 obtain ⟨v97, hinv⟩ := hinv
 obtain ⟨v98, hinv⟩ := hinv
 obtain ⟨v99, hinv⟩ := hinv
 obtain ⟨v100, hinv⟩ := hinv
 obtain ⟨v101, hinv⟩ := hinv
 obtain ⟨v102, hinv⟩ := hinv
 obtain ⟨v103, hinv⟩ := hinv
 obtain ⟨v104, hinv⟩ := hinv
 obtain ⟨v105, hinv⟩ := hinv
 obtain ⟨v106, hinv⟩ := hinv
 obtain ⟨v107, hinv⟩ := hinv
 obtain ⟨v108, hinv⟩ := hinv
 obtain ⟨v109, hinv⟩ := hinv
 obtain ⟨v110, hinv⟩ := hinv
 obtain ⟨v111, hinv⟩ := hinv
 obtain ⟨v112, hinv⟩ := hinv
 obtain ⟨v113, hinv⟩ := hinv
 obtain ⟨v114, hinv⟩ := hinv
 obtain ⟨v115, hinv⟩ := hinv
 obtain ⟨v116, hinv⟩ := hinv
 obtain ⟨v117, hinv⟩ := hinv
 obtain ⟨v118, hinv⟩ := hinv
 obtain ⟨v119, hinv⟩ := hinv
 obtain ⟨v120, hinv⟩ := hinv
 obtain ⟨v121, hinv⟩ := hinv
 obtain ⟨v122, hinv⟩ := hinv
 obtain ⟨v123, hinv⟩ := hinv
 obtain ⟨v124, hinv⟩ := hinv
 obtain ⟨v125, hinv⟩ := hinv
 obtain ⟨v126, hinv⟩ := hinv
 obtain ⟨v127, hinv⟩ := hinv
 obtain ⟨v128, hinv⟩ := hinv
 obtain ⟨v129, hinv⟩ := hinv
 obtain ⟨v130, hinv⟩ := hinv
 obtain ⟨v131, hinv⟩ := hinv
 obtain ⟨v132, hinv⟩ := hinv
 obtain ⟨v133, hinv⟩ := hinv
 obtain ⟨v134, hinv⟩ := hinv
 obtain ⟨v135, hinv⟩ := hinv
 obtain ⟨v136, hinv⟩ := hinv
 obtain ⟨v137, hinv⟩ := hinv
 obtain ⟨v138, hinv⟩ := hinv
 obtain ⟨v139, hinv⟩ := hinv
 obtain ⟨v140, hinv⟩ := hinv
 obtain ⟨v141, hinv⟩ := hinv
 obtain ⟨v142, hinv⟩ := hinv
 obtain ⟨v143, hinv⟩ := hinv
 obtain ⟨v144, hinv⟩ := hinv
 obtain ⟨v145, hinv⟩ := hinv
 obtain ⟨v146, hinv⟩ := hinv
 obtain ⟨Ds1, k, rows1, HK, HFD, HKB, HBE, HRS, HDS, ha⟩ := hinv
 subst ha
 have hk := HK.out
 obtain ⟨fd, rfl, hF⟩ := HFD.out
 have HF := Lib.hid hF
 clear HK HFD hF
 try dsimp only
 by_cases hlt : k < X.sh.length
 rotate_left
 ·obtain rfl : k = X.sh.length := by omega
  have hkn : ¬ ((X.sh.length : Nat) : Int) < X.sh.length := by omega
  have HF9 : Hid (fd = true ↔ ∃ h ∈ X.sh, FoundAt X h.l) := by have := HF.out; rwa [List.take_length] at this
  have HR9 : Hid (RS W.heap.size wp base (.slice PA X.st.length pc) X rows1 (fun n j => ∃ h ∈ X.sh, SHit X h.l n j)) := HRS.out.congr (fun n j => by rw [List.take_length])
  gi_wp2_with fail
  exact HQ.out _ _ _ _ _ _ _ _ _ _ _ _ _ _ _ _ _ _ _ _ _ _ _ _ _ _ _ _ _ _ _ _ _ _ _ _ _ _ _ _ _ _ _ _ _ _ _ _ _ _ _ _ _ _ _ _ _ _ _ _ _ _ _ _ _ _ _ _ _ _ _ _ _ _ _ _ _ _ _ _ _ _ _ _ _ _ _ _ _ _ Ds1 rows1 wp fd HF9.out HKB.out HBE.out HR9.out HDS.out
 ·have HXr := Lib.hid (HX.out.kb HKB.out)
  obtain ⟨y, qb, qo, hy, hSA, hqb, hc⟩ := (show Slc wp SliceOf.enc 1 X.hA X.sh from HXr.out.h0.slc (fun _ => rfl) (by decide)).at_ hlt
  rw [HSA.out] at hSA
  have d0 : wp.cell? ⟨qb, qo + k, none⟩ = some (.slice y.A y.l.length y.c) := by have := hc 0 _ rfl; simpa using this
  have hki : (k : Int) < (X.sh.length : Int) := by omega
  have HY := Lib.hid hy
  have HYM : Hid (y ∈ X.sh) := List.mem_of_getElem? hy
  subst hSA
  clear hy hc
  obtain ⟨W6, hW6⟩ : ∃ W6, wp.alloc (.cells #[.slice y.A y.l.length y.c] 39) = W6 := ⟨_, rfl⟩
  have E6 : Hid (Below wp.heap.size wp W6) := by rw [← hW6]; exact ext_alloc (ext_refl _) _
  have H6 : Hid (W6.heap[wp.heap.size]? = some (Obj.cells #[.slice y.A y.l.length y.c] 39 (0, 0))) := by rw [← hW6]; exact World.alloc_heap_new wp _
  obtain ⟨W7, hW7⟩ : ∃ W7, W6.alloc (.map #[] 0) = W7 := ⟨_, rfl⟩
  have E7 : Hid (Below W6.heap.size W6 W7) := by rw [← hW7]; exact ext_alloc (ext_refl _) _
  have M7 : Hid (GMap gptr W7 W6.heap.size (entL [])) := by rw [← hW7]; exact GMap.made (enc := gptr) W6
  have X7 := Lib.hid ((HXr.out.ext E6.out).ext E7.out)
  have XB7 : Hid (W7.heap[xb]? = some (Obj.cells X.cells.toArray 78 (0, 0))) := Below.cellsB E7.out (Below.cellsB E6.out (HKB.out.cell HXB.out (by decide)))
  have x1 : W7.cell? ⟨xb, 1, none⟩ = some (.map (some X.m)) := cellAt XB7.out 1 rfl
  have hz7 : W7.heap.size = W6.heap.size + 1 := by rw [← hW7]; simp
  obtain ⟨o, hrg, -, hIt⟩ := X7.out.g0.range Tryz.underlying74
  obtain ⟨W8, hW8⟩ : ∃ W8, W7.alloc o = W8 := ⟨_, rfl⟩
  rw [hW8, hz7] at hIt hrg
  have HIT := Lib.hid hIt
  have E8 : Hid (Below W6.heap.size W6 W8) := by rw [← hW8]; exact ext_alloc E7.out _
  have M8 : Hid (GMap gptr W8 W6.heap.size (entL [])) := by rw [← hW8]; exact M7.out.ext (ext_alloc (ext_refl _) _)
  clear hIt
  have hmk := run_makeMap (P := Tryz.prog) 83
  gi_wp2_with fail
  clear hmk hW6 hW7 hW8 hrg x1 d0 hz7 M7 X7 XB7
  obtain ⟨hb, hhb⟩ : ∃ hb, wp.heap.size = hb := ⟨_, rfl⟩
  rw [hhb] at H6
  rw [hhb]
  gi_loopw [76] (fun _ w9 => ∃ (left : List (ByteArray × Value)) (es : List Ent), Hid (GIter encC w9 (W6.heap.size + 1) X.m X.grps left) ∧ Hid (GMap gptr w9 W6.heap.size (entL es)) ∧ Hid (∀ e ∈ es, EntOk w9 e ∧ W6.heap.size < e.mb) ∧ Hid (∀ e ∈ es, ∃ g ∈ X.G, g.b = e.b ∧ VSpec X g y.l (comb (grpM X g.ts)) e.vl) ∧ Hid ((es.map (·.b)).Perm ((X.G.filter (fun g : Grp => !inBA (left.map (·.1)) g.call)).map (·.b))) ∧ Hid (Below W6.heap.size W6 w9)) (fun _ w9 => gleft w9 (W6.heap.size + 1))
  case atStart => exact ⟨X.grps, [], HIT, M8, by simp [Hid], by simp [Hid], by
   have : X.G.filter (fun g : Grp => !inBA (X.grps.map (·.1)) g.call) = [] := List.filter_eq_nil_iff.2 (fun g hg => by
    have : g.call ∈ X.grps.map (·.1) := List.mem_map.2 ⟨(g.call, gptr g.b), List.mem_map.2 ⟨g, hg, rfl⟩, rfl⟩
    rw [inBA_iff.2 this]; simp)
   unfold Hid
   rw [this]; exact List.Perm.refl _, E8⟩
  case round =>
   obtain ⟨left, es, HI, HM, HE, HV, HP, EE⟩ := hrel
   obtain ⟨wo, rfl⟩ : ∃ wo, wo = wr := ⟨_, rfl⟩
   clear HIT E8 M8
   have hgl := HI.out.gleft
   rcases HI.out.step (keyStr (P := Tryz.prog) Tryz.underlying9) 0 with ⟨rfl, hnx⟩ | ⟨p, W5, hp, hnx, hen, hI5, hlen, hst⟩
   ·clear hgl
    have hall : X.G.filter (fun g : Grp => !inBA (([] : List (ByteArray × Value)).map (·.1)) g.call) = X.G := List.filter_eq_self.2 (fun g hg => by simp [inBA])
    have HPP : Hid ((es.map (·.b)).Perm (keysG X)) := by have := HP.out; rw [hall] at this; exact this
    have HLP : Hid (L5P X y es) := ⟨by rw [HN.out.hl y HYM.out]; exact HN.out, HYM.out, HPP.out.nodup_iff.2 HNDB.out, HPP.out, HV.out, HINJ.out, fun g hg g' hg' e => nodup_map_eq HND.out hg hg' e⟩
    have EWo : Hid (Below wp.heap.size wp wo) := E6.out.trans (EE.out.mono E6.out.size)
    have KWo := Lib.hid (HKB.out.t (KB.below EWo.out))
    have L9 : Hid (L5 wo X xb hb pb W6.heap.size (.slice PA X.st.length pc) y es) := ⟨HX.out.kb KWo.out, KWo.out.cell HXB.out (by decide), Below.cellsB EE.out H6.out, KWo.out.cell HPB.out (by decide), HM.out, fun e he => (HE.out e he).1⟩
    have y0 : wo.cell? ⟨xb, 0, none⟩ = some (X.sv) := cellAt L9.out.xb 0 rfl
    have y1 : wo.cell? ⟨xb, 1, none⟩ = some (.map (some X.m)) := cellAt L9.out.xb 1 rfl
    have y2 : wo.cell? ⟨xb, 2, none⟩ = some (.int .i64 X.lost.a) := cellAt L9.out.xb 2 rfl
    have y3 : wo.cell? ⟨xb, 3, none⟩ = some (.int .i64 X.lost.b) := cellAt L9.out.xb 3 rfl
    have y4 : wo.cell? ⟨xb, 4, none⟩ = some (.int .i64 X.lost.c) := cellAt L9.out.xb 4 rfl
    have y5 : wo.cell? ⟨xb, 5, none⟩ = some (.int .i64 X.lost.d) := cellAt L9.out.xb 5 rfl
    have y6 : wo.cell? ⟨xb, 6, none⟩ = some (.int .i64 X.bud.a) := cellAt L9.out.xb 6 rfl
    have y7 : wo.cell? ⟨xb, 7, none⟩ = some (.int .i64 X.bud.b) := cellAt L9.out.xb 7 rfl
    have y8 : wo.cell? ⟨xb, 8, none⟩ = some (.int .i64 X.bud.c) := cellAt L9.out.xb 8 rfl
    have y9 : wo.cell? ⟨xb, 9, none⟩ = some (.int .i64 X.bud.d) := cellAt L9.out.xb 9 rfl
    have y10 : wo.cell? ⟨xb, 10, none⟩ = some (X.hv) := cellAt L9.out.xb 10 rfl
    clear hall HPP HI HM HE HV HP
    cases fd
    case' false =>
     have HRE := Lib.hid (rest_of X W6.heap.size es (.pointer none) (fun _ => false) wo L9.out.m L9.out.e HLP.out.nd (HN.out.lo.mono (by omega)) (HN.out.bu.mono (by omega)) (fun e he u hu => eqlNil e.b u))
     gi_wp2_with fail
     refine ⟨trivial, (callsIn_wide.2 HRE.out).mono ?_⟩
     rintro e Wc ⟨S, L, done, rfl, hS, hML, hPE, hSU, B7⟩
     clear HRE hnx y0 y1 y2 y3 y4 y5 y6 y7 y8 y9 y10
     have EC : Hid (Below wo.heap.size wo Wc) := B7
     obtain ⟨me, mc, hmb, hge⟩ := hML
     have hfl : Hid (0 < me.size ↔ FoundAt X y.l) := by
      have := found_len (X := X) (shs := y.l) (L := L) (fun v => (hSU v).trans (HLP.out.all hPE v))
      unfold Hid
      rw [hge.len]; exact this
     have x1 : Wc.cell? ⟨xb, 1, none⟩ = some (.map (some X.m)) := cellAt (L9.out.ext EC.out).xb 1 rfl
     obtain ⟨o9, hrg, -, hIt⟩ := (L9.out.ext EC.out).x.g0.range Tryz.underlying74
     obtain ⟨W3, hW3⟩ : ∃ W3, Wc.alloc o9 = W3 := ⟨_, rfl⟩
     rw [hW3] at hIt hrg
     have E3 : Hid (Below Wc.heap.size Wc W3) := by rw [← hW3]; exact ext_alloc (ext_refl Wc) _
     have HIT3 := Lib.hid hIt
     clear hIt hS hPE hSU B7 hge
     have hlen : (Builtin.len_ #[84] 3 #[.map (some S)]).run Tryz.prog Wc = .ok (.int .i64 (me.size : Int)) Wc := run_len_map (t := 84) (ty := 3) (r := S) (es := me) (clock := mc) (h := Tryz.underlying84) (hb := hmb)
     gi_wp2_with fail
     clear hW3 hrg x1 hmb hlen
     obtain ⟨fd, hfd⟩ : ∃ fd, decide (0 < me.size) = fd := ⟨_, rfl⟩
     rw [hfd]
     have HF9 : Hid (fd = true ↔ ∃ q ∈ X.sh.take (k + 1), FoundAt X q.l) := by
      unfold Hid
      rw [← hfd, decide_eq_true_eq, hfl.out, take_found HY.out]
      refine ⟨.inr, fun h => h.elim (fun h => ?_) id⟩
      exact absurd (HF.out.2 h) (by simp)
     clear hfd hfl
    case' true =>
     have x1 : wo.cell? ⟨xb, 1, none⟩ = some (.map (some X.m)) := y1
     obtain ⟨o9, hrg, -, hIt⟩ := L9.out.x.g0.range Tryz.underlying74
     obtain ⟨W3, hW3⟩ : ∃ W3, wo.alloc o9 = W3 := ⟨_, rfl⟩
     rw [hW3] at hIt hrg
     have E3 : Hid (Below wo.heap.size wo W3) := by rw [← hW3]; exact ext_alloc (ext_refl wo) _
     have HIT3 := Lib.hid hIt
     clear hIt
     gi_wp2_with fail
     refine ⟨trivial, ?_⟩
     gi_wp2_with fail
     clear hW3 hrg x1 y0 y1 y2 y3 y4 y5 y6 y7 y8 y9 y10 hnx
     obtain ⟨Wc, hWc⟩ : ∃ Wc, Wc = wo := ⟨_, rfl⟩
     rw [← hWc] at E3 HIT3 ⊢
     have EC : Hid (Below wo.heap.size wo Wc) := by rw [hWc]; exact ext_refl _
     clear hWc
     have HF9 : Hid (true = true ↔ ∃ q ∈ X.sh.take (k + 1), FoundAt X q.l) := by
      unfold Hid
      rw [take_found HY.out]
      exact ⟨fun _ => .inl (HF.out.1 (by simp)), fun _ => rfl⟩
    all_goals
     have hz1 : W.heap.size ≤ wo.heap.size := KWo.out.1
     have hz2 : wo.heap.size ≤ Wc.heap.size := EC.out.size
     have hz3 : wp.heap.size ≤ wo.heap.size := EWo.out.size
     have hz4 : W.heap.size ≤ wp.heap.size := HKB.out.1
     refine loop5 (hc5 := by simp only [code5, code3, bodyC, Tryz.f11, sR, sL, bB, lB]) (rows := rows1) (T := fun n j => ∃ h ∈ X.sh.take k, SHit X h.l n j) Wc W.heap.size B base xb hb pb W6.heap.size _ pc X y es (hL := L9.out.ext EC.out) (hP := HLP.out) (hR := (HRS.out.below EWo.out hz4).below EC.out hz1) (hD := (HDS.out.ext EWo.out).ext EC.out) (hB := by omega) (hbase := by omega) (hNW := by omega) (hE3 := E3.out) (hIt := HIT3.out) (hQ := ?_)
     intro w22 w23 w24 w25 w26 w27 w28 w96 w97 w98 w99 w100 w101 w102 w103 w104 w105 w106 w107 w108 w109 w110 w111 w112 w113 w114 w115 w116 w117 w118 w119 w120 w121 w122 w123 w124 w125 w126 w127 w128 w129 w130 w131 w132 w133 w134 w135 w136 w137 w138 w139 w140 w141 w142 w143 w144 w145 Ds2 rows2 w2 hK2 hB2 hR2 hD2
     have K9 : Hid (KB W w2) := (KWo.out.t (KB.below EC.out)).t hK2
     have B9 : Hid (Below base W w2) := ((HBE.out.trans (EWo.out.mono (by omega))).trans (EC.out.mono (by omega))).trans hB2
     have R9 : Hid (RS W.heap.size w2 base (.slice PA X.st.length pc) X rows2 (fun n j => ∃ h ∈ X.sh.take (k + 1), SHit X h.l n j)) := hR2.congr (fun n j => (take_found (P := fun q => SHit X q.l n j) HY.out).symm)
     have D9 := Lib.hid hD2
     clear hK2 hB2 hR2 hD2 hz1 hz2 hz3 hz4 E3 HIT3 EC L9 HLP
     gi_wp2_with fail
     refine ⟨?_, ?_⟩
     ·rw [HI3.out]
      exact ⟨_, _, _, _, _, _, _, _, _, _, _, _, _, _, _, _, _, _, _, _, _, _, _, _, _, _, _, _, _, _, _, _, _, _, _, _, _, _, _, _, _, _, _, _, _, _, _, _, _, _, _, _, _, _, _, _, _, _, _, _, _, _, _, _, _, _, _, _, _, _, _, _, _, _, _, _, _, _, _, _, _, _, _, _, _, _, _, _, _, _, Ds2, k + 1, rows2, hlt, ⟨_, rfl, by first | exact HF9.out | simpa using HF9.out⟩, K9, B9, R9, D9, rfl⟩
     ·simp [intOf]
      omega
   ·obtain ⟨g, hg, rfl⟩ := mem_grps (HI.out.sub p hp)
    have hgl5 := hI5.gleft
    dsimp only at hnx hen hI5 hlen hgl5
    have HKEY := Lib.hid (fun x => mem_filter_key (l := left) (p := g.call) (a := x))
    have HGL : Hid (g.call ∈ left.map (·.1)) := List.mem_map.2 ⟨_, hp, rfl⟩
    have HLT : Hid (gleft W5 (W6.heap.size + 1) < gleft wo (W6.heap.size + 1)) := by unfold Hid; rw [hgl5, hgl]; omega
    obtain ⟨left5, hl5⟩ : ∃ q, left.filter (fun q => !decide (q.1 = g.call)) = q := ⟨_, rfl⟩
    rw [hl5] at hI5 HKEY
    have HI5 := Lib.hid hI5
    have E5 := Lib.hid (hst.below EE.out (by omega))
    have HM5 : Hid (GMap gptr W5 W6.heap.size (entL es)) := HM.out.of_block (hst.keep _ (gne HM.out HI.out))
    have HE5 : Hid (∀ e ∈ es, EntOk W5 e ∧ W6.heap.size < e.mb) := fun e he => ⟨(HE.out e he).1.step HI.out hst, (HE.out e he).2⟩
    have X5 := Lib.hid ((HXr.out.ext E6.out).ext E5.out)
    have XB5 : Hid (W5.heap[xb]? = some (Obj.cells X.cells.toArray 78 (0, 0))) := Below.cellsB E5.out (Below.cellsB E6.out (HKB.out.cell HXB.out (by decide)))
    have H5 : Hid (W5.heap[hb]? = some (Obj.cells #[.slice y.A y.l.length y.c] 39 (0, 0))) := Below.cellsB E5.out H6.out
    have HG := Lib.hid hg
    have HVC := Lib.hid (vectors_of X g y.A y.c y.l W5 hg X5.out (by rw [HN.out.hl y HYM.out]; exact HN.out) ((X5.out.h1 y HYM.out).slc (fun _ => rfl) (by decide)) (HN.out.hb y HYM.out) (HROW.out g hg))
    have y0 : W5.cell? ⟨xb, 0, none⟩ = some (X.sv) := cellAt XB5.out 0 rfl
    have y1 : W5.cell? ⟨xb, 1, none⟩ = some (.map (some X.m)) := cellAt XB5.out 1 rfl
    have y2 : W5.cell? ⟨xb, 2, none⟩ = some (.int .i64 X.lost.a) := cellAt XB5.out 2 rfl
    have y3 : W5.cell? ⟨xb, 3, none⟩ = some (.int .i64 X.lost.b) := cellAt XB5.out 3 rfl
    have y4 : W5.cell? ⟨xb, 4, none⟩ = some (.int .i64 X.lost.c) := cellAt XB5.out 4 rfl
    have y5 : W5.cell? ⟨xb, 5, none⟩ = some (.int .i64 X.lost.d) := cellAt XB5.out 5 rfl
    have y6 : W5.cell? ⟨xb, 6, none⟩ = some (.int .i64 X.bud.a) := cellAt XB5.out 6 rfl
    have y7 : W5.cell? ⟨xb, 7, none⟩ = some (.int .i64 X.bud.b) := cellAt XB5.out 7 rfl
    have y8 : W5.cell? ⟨xb, 8, none⟩ = some (.int .i64 X.bud.c) := cellAt XB5.out 8 rfl
    have y9 : W5.cell? ⟨xb, 9, none⟩ = some (.int .i64 X.bud.d) := cellAt XB5.out 9 rfl
    have y10 : W5.cell? ⟨xb, 10, none⟩ = some (X.hv) := cellAt XB5.out 10 rfl
    have yh : W5.cell? ⟨hb, 0, none⟩ = some (.slice y.A y.l.length y.c) := cellAt H5.out 0 rfl
    clear hgl hgl5 hp hI5 hlen hst hl5 hg HI HM HE EE
    gi_wp2_with fail
    refine ⟨trivial, (callsIn_wide.2 HVC.out).mono ?_⟩
    rintro e w7 ⟨b, L, rfl, hb5, hML, hVS, B7⟩
    clear y0 y1 y2 y3 y4 y5 y6 y7 y8 y9 y10 yh hnx hen HVC
    have HMS := Lib.hid hML
    have HVS := Lib.hid hVS
    have E57 := Lib.hid B7
    have HM7 := HM5.out.ext B7
    have HG7 : isGrp w7 g.b := ((X5.out.ext B7).g1 g HG.out).isGrp
    obtain ⟨o2, hput, hM', ho2⟩ := HM7.upd key81 Tryz.underlying83 g.b (.map (some b)) HG7 (fun q hq => by
     obtain ⟨e, he, rfl⟩ := List.mem_map.1 hq
     exact ((HE5.out e he).1.ext B7).g)
    have hnew : g.b ∉ es.map (·.b) := bs_new HINJ.out HP.out HG.out HGL.out
    rw [entL_put (vl := L) hnew] at hM'
    have hmlt : W6.heap.size < W5.heap.size := HM5.out.lt
    have HMB : Hid (W6.heap.size < b) := by unfold Hid; omega
    have hput' : (Instr.mapUpdate 83 (.map (some W6.heap.size)) (gptr g.b) (.map (some b))).run Tryz.prog w7 = .ok () (setBlock w7 W6.heap.size o2) := hput
    have HI8 : Hid (GIter encC (setBlock w7 W6.heap.size o2) (W6.heap.size + 1) X.m X.grps left5) := by
     have h1 := HI5.out.ext B7
     have hne : X.m ≠ W6.heap.size := by have := (HXr.out.g0.ext E6.out).lt; have := (HXr.out.g0).lt; have := E6.out.size; omega
     exact h1.of_block (sb_other _ _ hne) (sb_other _ _ (by omega))
    have HM8 := Lib.hid hM'
    have HE8 : Hid (∀ e ∈ es ++ [⟨g.b, b, L⟩], EntOk (setBlock w7 W6.heap.size o2) e ∧ W6.heap.size < e.mb) := fun e he => by
     rcases List.mem_append.1 he with h1 | h1
     ·exact ⟨((HE5.out e h1).1.ext B7).sb HM7 (by have := (HE5.out e h1).2; omega) o2, (HE5.out e h1).2⟩
     ·rw [List.mem_singleton] at h1
      subst h1
      refine ⟨EntOk.sb ⟨HG7, HMS.out, fun p hp => ?_⟩ HM7 (by have := HMB.out; show b ≠ _; omega) o2, HMB.out⟩
      obtain ⟨x, _, hx, _⟩ := (HVS.out.k p.1).1 (List.mem_map.2 ⟨p, hp, rfl⟩)
      rw [← hx]
      exact (wrongV_in X.stays g.ts g.rs (nums x) y.l).mono (by have := HN.out.rl g HG.out; omega)
    have HV8 : Hid (∀ e ∈ es ++ [⟨g.b, b, L⟩], ∃ g ∈ X.G, g.b = e.b ∧ VSpec X g y.l (comb (grpM X g.ts)) e.vl) := fun e he => by
     rcases List.mem_append.1 he with h1 | h1
     ·exact HV.out e h1
     ·rw [List.mem_singleton] at h1
      subst h1
      exact ⟨g, HG.out, rfl, HVS.out⟩
    have HP8 : Hid (((es ++ [(⟨g.b, b, L⟩ : Ent)]).map (·.b)).Perm ((X.G.filter (fun g : Grp => !inBA (left5.map (·.1)) g.call)).map (·.b))) := by
     have h1 := (filter_add HND.out HG.out HGL.out HKEY.out).map (fun g : Grp => g.b)
     rw [List.map_append] at h1
     unfold Hid
     rw [List.map_append]
     exact (HP.out.append_right _).trans h1.symm
    have E8 : Hid (Below W6.heap.size W6 (setBlock w7 W6.heap.size o2)) := below_sb (E5.out.trans (B7.mono (Nat.le_of_lt hmlt))) _ _ (Nat.le_refl _)
    have HLT8 : Hid (gleft (setBlock w7 W6.heap.size o2) (W6.heap.size + 1) < gleft wo (W6.heap.size + 1)) := by unfold Hid; rw [HI8.out.gleft, ← HI5.out.gleft]; exact HLT.out
    clear hput hM' ho2 hnew hML hVS B7 HM7 HG7 hb5 hmlt
    gi_wp2_with fail
    go_roundw
    case rel => exact ⟨left5, es ++ [⟨g.b, b, L⟩], HI8, HM8, HE8, HV8, HP8, E8⟩
    case measure => exact HLT8.out
end Go.Proofs.YtjiojpoiocdnmaaGreat
