/- Possible: the loop over the groups, at one vector of shifts. -/
import Derived.Test.YtjiojpoiocdnmaaGreatMN
import Derived.Test.YtjiojpoiocdnmaaGreatU9
set_option linter.unusedSimpArgs false
set_option linter.unusedVariables false
namespace Go.Proofs.YtjiojpoiocdnmaaGreat
open Go.RowKit Go.Shelf Go.ChangeMaps
attribute [local go_sem] Oper.semAt_some
def sR : Code → Code
 | .seq _ b => b
 | c => c
def sL : Code → Code
 | .seq a _ => a
 | c => c
def bB : Code → Code
 | .block _ c => c
 | c => c
def lB : Code → Code
 | .loop c => c
 | c => c
def bodyC (f : Func) : Code := match f.body with
 | some c => c
 | none => .skip
def code3 (f : Func) : Code := sL (sR (sR (sR (sR (sR (sR (bodyC f)))))))
def code5 (f : Func) : Code := sR (sR (sR (sR (bB (sL (sR (sR (lB (bB (sR (code3 f)))))))))))
set_option maxRecDepth 100000 in
set_option maxHeartbeats 16000000 in
theorem loop5 {c5 : Code} {u0 u1 u2 u3 u4 u5 u6 u7 u9 u11 u12 u13 u14 u15 u16 u19 u20 u21 u22 u23 u24 u25 u26 u27 u28 u29 u30 u31 u32 u33 u34 u35 u36 u37 u38 u39 u40 u41 u42 u43 u44 u45 u46 u47 u48 u49 u50 u51 u52 u53 u54 u55 u56 u57 u58 u59 u60 u61 u62 u63 u64 u65 u66 u67 u68 u69 u70 u71 u72 u73 u74 u75 u76 u77 u78 u79 u80 u81 u82 u83 u84 u85 u86 u87 u88 u89 u90 u91 u92 u96 u97 u98 u99 u100 u101 u102 u103 u104 u105 u106 u107 u108 u109 u110 u111 u112 u113 u114 u115 u116 u117 u118 u119 u120 u121 u122 u123 u124 u125 u126 u127 u128 u129 u130 u131 u132 u133 u134 u135 u136 u137 u138 u139 u140 u141 u142 u143 u144 u145 u146 u147 u148 u149 : Value} {Ds : List Nat} {Q : Exit → Act → World → Prop} {W3 : World} (W : World) (N B base xb hb pb m : Nat) (PA : Option Addr) (pc : Nat) (X : Scn) (h : SliceOf Int) (es : List Ent) (rows : List BR) (T : Nat → Nat → Prop)
  (hc5 : c5 = bB (sR (code5 Tryz.f11))) (hL : L5 W X xb hb pb m (.slice PA X.st.length pc) h es) (hP : L5P X h es) (hR : RS N W base (.slice PA X.st.length pc) X rows T) (hD : Dfs B Ds W) (hB : B ≤ W.heap.size) (hbase : base ≤ W.heap.size) (hNW : N ≤ W.heap.size) (hE3 : Below W.heap.size W W3) (hIt : GIter encC W3 W.heap.size X.m X.grps X.grps)
  (hQ : ∀ (v22 v23 v24 v25 v26 v27 v28 v96 v97 v98 v99 v100 v101 v102 v103 v104 v105 v106 v107 v108 v109 v110 v111 v112 v113 v114 v115 v116 v117 v118 v119 v120 v121 v122 v123 v124 v125 v126 v127 v128 v129 v130 v131 v132 v133 v134 v135 v136 v137 v138 v139 v140 v141 v142 v143 v144 v145 : Value) (Ds1 : List Nat) (rows1 : List BR) (w1 : World), KB W w1 → Below base W w1 → RS N w1 base (.slice PA X.st.length pc) X rows1 (fun n k => T n k ∨ SHit X h.l n k) → Dfs B Ds1 w1 → Q (.exit 8) { tmps := #[u0, u1, u2, u3, u4, u5, u6, u7, .pointer (some ⟨pb, 0, none⟩), u9, .pointer (some ⟨xb, 0, none⟩), u11, u12, u13, u14, u15, u16, .pointer (some ⟨hb, 0, none⟩), .map (some m), u19, u20, u21, v22, v23, v24, v25, v26, v27, v28, u29, u30, u31, u32, u33, u34, u35, u36, u37, u38, u39, u40, u41, u42, u43, u44, u45, u46, u47, u48, u49, u50, u51, u52, u53, u54, u55, u56, u57, u58, u59, u60, u61, u62, u63, u64, u65, u66, u67, u68, u69, u70, u71, u72, u73, u74, u75, u76, u77, u78, u79, u80, u81, u82, u83, u84, u85, u86, u87, u88, u89, u90, u91, u92, .pointer (some ⟨xb, 1, none⟩), .map (some X.m), .pointer (some ⟨W.heap.size, 0, none⟩), v96, v97, v98, v99, v100, v101, v102, v103, v104, v105, v106, v107, v108, v109, v110, v111, v112, v113, v114, v115, v116, v117, v118, v119, v120, v121, v122, v123, v124, v125, v126, v127, v128, v129, v130, v131, v132, v133, v134, v135, v136, v137, v138, v139, v140, v141, v142, v143, v144, v145, u146, u147, u148, u149], defers := Ds1.map mark } w1) :
  c5.wpIn Fence.wide 5 Tryz.prog Q { tmps := #[u0, u1, u2, u3, u4, u5, u6, u7, .pointer (some ⟨pb, 0, none⟩), u9, .pointer (some ⟨xb, 0, none⟩), u11, u12, u13, u14, u15, u16, .pointer (some ⟨hb, 0, none⟩), .map (some m), u19, u20, u21, u22, u23, u24, u25, u26, u27, u28, u29, u30, u31, u32, u33, u34, u35, u36, u37, u38, u39, u40, u41, u42, u43, u44, u45, u46, u47, u48, u49, u50, u51, u52, u53, u54, u55, u56, u57, u58, u59, u60, u61, u62, u63, u64, u65, u66, u67, u68, u69, u70, u71, u72, u73, u74, u75, u76, u77, u78, u79, u80, u81, u82, u83, u84, u85, u86, u87, u88, u89, u90, u91, u92, .pointer (some ⟨xb, 1, none⟩), .map (some X.m), .pointer (some ⟨W.heap.size, 0, none⟩), u96, u97, u98, u99, u100, u101, u102, u103, u104, u105, u106, u107, u108, u109, u110, u111, u112, u113, u114, u115, u116, u117, u118, u119, u120, u121, u122, u123, u124, u125, u126, u127, u128, u129, u130, u131, u132, u133, u134, u135, u136, u137, u138, u139, u140, u141, u142, u143, u144, u145, u146, u147, u148, u149], defers := Ds.map mark } W3 := by
 have HQ := Lib.hid hQ
 have HL := Lib.hid hL
 have HP := Lib.hid hP
 have HR := Lib.hid hR
 have HD := Lib.hid hD
 have HN := Lib.hid hP.n
 have HROW : Hid (∀ g ∈ X.G, ∀ i ∈ g.ts, ∃ r, X.st[i]? = some r ∧ 0 < r.l.length ∧ r.l.length ≤ 4096) := fun g hg i hi => by
  have hlt := hP.n.tn g hg i hi
  exact ⟨X.st[i], by simp [hlt], hP.n.sp _ (by simp), hP.n.sl _ (by simp)⟩
 have hpl : pb < W.heap.size := (Array.getElem?_eq_some_iff.1 hL.pb).1
 have E3 := Lib.hid hE3
 have HIT := Lib.hid hIt
 clear hQ hL hP hR hD hIt hE3
 subst hc5
 simp only [code5, code3, bodyC, Tryz.f11, sR, sL, bB, lB]
 refine wpIn_loop (fun a1 w1 => ∃ (v22 v23 v24 v25 v26 v27 v28 v96 v97 v98 v99 v100 v101 v102 v103 v104 v105 v106 v107 v108 v109 v110 v111 v112 v113 v114 v115 v116 v117 v118 v119 v120 v121 v122 v123 v124 v125 v126 v127 v128 v129 v130 v131 v132 v133 v134 v135 v136 v137 v138 v139 v140 v141 v142 v143 v144 v145 : Value) (Ds1 : List Nat) (left : List (ByteArray × Value)) (rows1 : List BR), Hid (GIter encC w1 W.heap.size X.m X.grps left) ∧ Hid (KB W w1) ∧ Hid (Below base W w1) ∧ Hid (RS N w1 base (.slice PA X.st.length pc) X rows1 (fun n k => T n k ∨ ∃ q ∈ X.G, q.call ∉ left.map (·.1) ∧ GHit X h.l q n k)) ∧ Hid (Dfs B Ds1 w1) ∧ a1 = { tmps := #[u0, u1, u2, u3, u4, u5, u6, u7, .pointer (some ⟨pb, 0, none⟩), u9, .pointer (some ⟨xb, 0, none⟩), u11, u12, u13, u14, u15, u16, .pointer (some ⟨hb, 0, none⟩), .map (some m), u19, u20, u21, v22, v23, v24, v25, v26, v27, v28, u29, u30, u31, u32, u33, u34, u35, u36, u37, u38, u39, u40, u41, u42, u43, u44, u45, u46, u47, u48, u49, u50, u51, u52, u53, u54, u55, u56, u57, u58, u59, u60, u61, u62, u63, u64, u65, u66, u67, u68, u69, u70, u71, u72, u73, u74, u75, u76, u77, u78, u79, u80, u81, u82, u83, u84, u85, u86, u87, u88, u89, u90, u91, u92, .pointer (some ⟨xb, 1, none⟩), .map (some X.m), .pointer (some ⟨W.heap.size, 0, none⟩), v96, v97, v98, v99, v100, v101, v102, v103, v104, v105, v106, v107, v108, v109, v110, v111, v112, v113, v114, v115, v116, v117, v118, v119, v120, v121, v122, v123, v124, v125, v126, v127, v128, v129, v130, v131, v132, v133, v134, v135, v136, v137, v138, v139, v140, v141, v142, v143, v144, v145, u146, u147, u148, u149], defers := Ds1.map mark }) (fun _ w1 => gleft w1 W.heap.size) ?_ ?_
 ·refine ⟨u22, u23, u24, u25, u26, u27, u28, u96, u97, u98, u99, u100, u101, u102, u103, u104, u105, u106, u107, u108, u109, u110, u111, u112, u113, u114, u115, u116, u117, u118, u119, u120, u121, u122, u123, u124, u125, u126, u127, u128, u129, u130, u131, u132, u133, u134, u135, u136, u137, u138, u139, u140, u141, u142, u143, u144, u145, Ds, X.grps, rows, HIT, KB.below E3.out, E3.out.mono hbase, (HR.out.below E3.out hNW).congr (grp_none (fun g hg => List.mem_map.2 ⟨(g.call, gptr g.b), List.mem_map.2 ⟨g, hg, rfl⟩, rfl⟩)), HD.out.ext E3.out, rfl⟩
 intro a1 wr hinv
 obtain ⟨v22, hinv⟩ := hinv
 obtain ⟨v23, hinv⟩ := hinv
 obtain ⟨v24, hinv⟩ := hinv
 obtain ⟨v25, hinv⟩ := hinv
 obtain ⟨v26, hinv⟩ := hinv
 obtain ⟨v27, hinv⟩ := hinv
 obtain ⟨v28, hinv⟩ := hinv
 obtain ⟨v96, hinv⟩ := hinv
 obtain ⟨v97, hinv⟩ := hinv
 obtain ⟨v98, hinv⟩ := hinv
 obtain ⟨v99, hinv⟩ := hinv
 obtain ⟨v100, hinv⟩ := hinv
 obtain ⟨v101, hinv⟩ := hinv
 obtain ⟨v102, hinv⟩ := hinv
 obtain ⟨v103, hinv⟩ := hinv
 obtain ⟨v104, hinv⟩ := hinv
 obtain ⟨v105, hinv⟩ := hinv
 obtain ⟨v106, hinv⟩ := hinv
 obtain ⟨v107, hinv⟩ := hinv
 obtain ⟨v108, hinv⟩ := hinv
 obtain ⟨v109, hinv⟩ := hinv
 obtain ⟨v110, hinv⟩ := hinv
 obtain ⟨v111, hinv⟩ := hinv
 obtain ⟨v112, hinv⟩ := hinv
 obtain ⟨v113, hinv⟩ := hinv
 obtain ⟨v114, hinv⟩ := hinv
 obtain ⟨v115, hinv⟩ := hinv
 obtain ⟨v116, hinv⟩ := hinv
 obtain ⟨v117, hinv⟩ := hinv
 obtain ⟨v118, hinv⟩ := hinv
 obtain ⟨v119, hinv⟩ := hinv
 obtain ⟨v120, hinv⟩ := hinv
 obtain ⟨v121, hinv⟩ := hinv
 obtain ⟨v122, hinv⟩ := hinv
 obtain ⟨v123, hinv⟩ := hinv
 obtain ⟨v124, hinv⟩ := hinv
 obtain ⟨v125, hinv⟩ := hinv
 obtain ⟨v126, hinv⟩ := hinv
 obtain ⟨v127, hinv⟩ := hinv
 obtain ⟨v128, hinv⟩ := hinv
 obtain ⟨v129, hinv⟩ := hinv
 obtain ⟨v130, hinv⟩ := hinv
 obtain ⟨v131, hinv⟩ := hinv
 obtain ⟨v132, hinv⟩ := hinv
 obtain ⟨v133, hinv⟩ := hinv
 obtain ⟨v134, hinv⟩ := hinv
 obtain ⟨v135, hinv⟩ := hinv
 obtain ⟨v136, hinv⟩ := hinv
 obtain ⟨v137, hinv⟩ := hinv
 obtain ⟨v138, hinv⟩ := hinv
 obtain ⟨v139, hinv⟩ := hinv
 obtain ⟨v140, hinv⟩ := hinv
 obtain ⟨v141, hinv⟩ := hinv
 obtain ⟨v142, hinv⟩ := hinv
 obtain ⟨v143, hinv⟩ := hinv
 obtain ⟨v144, hinv⟩ := hinv
 obtain ⟨v145, hinv⟩ := hinv
 obtain ⟨Ds1, left, rows1, HI, HKB, HBE, HRS, HDS, ha⟩ := hinv
 subst ha
 try dsimp only
 have hgl := HI.out.gleft
 rcases HI.out.step (keyStr (P := Tryz.prog) Tryz.underlying9) 0 with ⟨rfl, hnx⟩ | ⟨p, W5, hp, hnx, hen, hI5, hlen, hst⟩
 ·clear hgl HIT E3 HR HD
  have HR9 : Hid (RS N wr base (.slice PA X.st.length pc) X rows1 (fun n k => T n k ∨ SHit X h.l n k)) := HRS.out.congr (fun n k => grp_all n k)
  gi_wp2_with fail
  exact HQ.out _ _ _ _ _ _ _ _ _ _ _ _ _ _ _ _ _ _ _ _ _ _ _ _ _ _ _ _ _ _ _ _ _ _ _ _ _ _ _ _ _ _ _ _ _ _ _ _ _ _ _ _ _ _ _ _ _ Ds1 rows1 wr HKB.out HBE.out HR9.out HDS.out
 ·obtain ⟨g, hg, rfl⟩ := mem_grps (HI.out.sub p hp)
  have hgl5 := hI5.gleft
  dsimp only at hnx hen hI5 hlen hgl5
  have HKEY := Lib.hid (fun x => mem_filter_key (l := left) (p := g.call) (a := x))
  have HGL : Hid (g.call ∈ left.map (·.1)) := List.mem_map.2 ⟨_, hp, rfl⟩
  have HLT : Hid (gleft W5 W.heap.size < gleft wr W.heap.size) := by unfold Hid; rw [hgl5, hgl]; omega
  obtain ⟨left5, hl5⟩ : ∃ q, left.filter (fun q => !decide (q.1 = g.call)) = q := ⟨_, rfl⟩
  rw [hl5] at hI5 HKEY
  have HI5 := Lib.hid hI5
  have K5 := Lib.hid (HKB.out.step hst (Nat.le_refl _))
  have B5 := Lib.hid (hst.below HBE.out hbase)
  have R5 := Lib.hid (HRS.out.low (W' := W5) (fun k hk => hst.keep k (by omega)))
  have D5 := Lib.hid (HDS.out.step HI.out hst)
  have L5 := Lib.hid (HL.out.kb K5.out)
  have HG := Lib.hid hg
  clear hgl hgl5 hp hI5 hlen hst hl5 hg HI HKB HBE HRS HDS HIT E3 HR HD
  obtain ⟨W6, hW6⟩ : ∃ W6, W5.alloc (.cells #[gptr g.b] 81) = W6 := ⟨_, rfl⟩
  have E6 : Hid (Below W5.heap.size W5 W6) := by rw [← hW6]; exact ext_alloc (ext_refl _) _
  have G6 : Hid (W6.heap[W5.heap.size]? = some (Obj.cells #[gptr g.b] 81 (0, 0))) := by rw [← hW6]; exact World.alloc_heap_new W5 _
  have L6 := Lib.hid (L5.out.ext E6.out)
  have y0 : W6.cell? ⟨xb, 0, none⟩ = some (X.sv) := cellAt L6.out.xb 0 rfl
  have y1 : W6.cell? ⟨xb, 1, none⟩ = some (.map (some X.m)) := cellAt L6.out.xb 1 rfl
  have y2 : W6.cell? ⟨xb, 2, none⟩ = some (.int .i64 X.lost.a) := cellAt L6.out.xb 2 rfl
  have y3 : W6.cell? ⟨xb, 3, none⟩ = some (.int .i64 X.lost.b) := cellAt L6.out.xb 3 rfl
  have y4 : W6.cell? ⟨xb, 4, none⟩ = some (.int .i64 X.lost.c) := cellAt L6.out.xb 4 rfl
  have y5 : W6.cell? ⟨xb, 5, none⟩ = some (.int .i64 X.lost.d) := cellAt L6.out.xb 5 rfl
  have y6 : W6.cell? ⟨xb, 6, none⟩ = some (.int .i64 X.bud.a) := cellAt L6.out.xb 6 rfl
  have y7 : W6.cell? ⟨xb, 7, none⟩ = some (.int .i64 X.bud.b) := cellAt L6.out.xb 7 rfl
  have y8 : W6.cell? ⟨xb, 8, none⟩ = some (.int .i64 X.bud.c) := cellAt L6.out.xb 8 rfl
  have y9 : W6.cell? ⟨xb, 9, none⟩ = some (.int .i64 X.bud.d) := cellAt L6.out.xb 9 rfl
  have y10 : W6.cell? ⟨xb, 10, none⟩ = some (X.hv) := cellAt L6.out.xb 10 rfl
  have yg : W6.cell? ⟨W5.heap.size, 0, none⟩ = some (gptr g.b) := cellAt G6.out 0 rfl
  have HRE := Lib.hid (rest_of X m es (gptr g.b) (fun b => decide (b = g.b)) W6 L6.out.m L6.out.e HP.out.nd (HN.out.lo.mono (by omega)) (HN.out.bu.mono (by omega)) (fun e he u hu => eqlP ((L6.out.e e he).g.ext hu) ((L6.out.x.g1 g HG.out).isGrp.ext hu)))
  gi_wp2_with fail
  refine ⟨trivial, (callsIn_wide.2 HRE.out).mono ?_⟩
  rintro e w7 ⟨S, L, done, rfl, hS, hML, hPE, hSU, B7⟩
  clear hnx hen hW6 y0 y1 y2 y3 y4 y5 y6 y7 y8 y9 y10 yg HRE
  have HKL : Hid (∀ v, v ∈ L.map (·.1) ↔ SumF X.lost X.bud (VecP X h.l) ((keysG X).filter (fun b => !decide (b = g.b))) v) := fun v => (hSU v).trans (HP.out.rest g hPE v)
  have E7 := Lib.hid (E6.out.trans (B7.mono E6.out.size))
  obtain ⟨W8, hW8⟩ : ∃ W8, w7.alloc (.cells #[.map (some S)] 84) = W8 := ⟨_, rfl⟩
  have E8 : Hid (Below W5.heap.size W5 W8) := by rw [← hW8]; exact ext_alloc E7.out _
  have G8 : Hid (W8.heap[W5.heap.size]? = some (Obj.cells #[gptr g.b] 81 (0, 0))) := by rw [← hW8]; exact ((ext_alloc B7 _).block _ (Array.getElem?_eq_some_iff.1 G6.out).1).trans G6.out
  have S8 : Hid (W8.heap[w7.heap.size]? = some (Obj.cells #[.map (some S)] 84 (0, 0))) := by rw [← hW8]; exact World.alloc_heap_new w7 _
  have M8 : Hid (GMap V4.v W8 S L) := by rw [← hW8]; exact hML.ext (ext_alloc (ext_refl _) _)
  have L8 := Lib.hid (L5.out.ext E8.out)
  obtain ⟨sb, hsb⟩ : ∃ sb, w7.heap.size = sb := ⟨_, rfl⟩
  rw [hsb] at S8
  obtain ⟨gb, hgb⟩ : ∃ gb, W5.heap.size = gb := ⟨_, rfl⟩
  rw [hgb] at G8
  have y0 : W8.cell? ⟨xb, 0, none⟩ = some (X.sv) := cellAt L8.out.xb 0 rfl
  have y1 : W8.cell? ⟨xb, 1, none⟩ = some (.map (some X.m)) := cellAt L8.out.xb 1 rfl
  have y2 : W8.cell? ⟨xb, 2, none⟩ = some (.int .i64 X.lost.a) := cellAt L8.out.xb 2 rfl
  have y3 : W8.cell? ⟨xb, 3, none⟩ = some (.int .i64 X.lost.b) := cellAt L8.out.xb 3 rfl
  have y4 : W8.cell? ⟨xb, 4, none⟩ = some (.int .i64 X.lost.c) := cellAt L8.out.xb 4 rfl
  have y5 : W8.cell? ⟨xb, 5, none⟩ = some (.int .i64 X.lost.d) := cellAt L8.out.xb 5 rfl
  have y6 : W8.cell? ⟨xb, 6, none⟩ = some (.int .i64 X.bud.a) := cellAt L8.out.xb 6 rfl
  have y7 : W8.cell? ⟨xb, 7, none⟩ = some (.int .i64 X.bud.b) := cellAt L8.out.xb 7 rfl
  have y8 : W8.cell? ⟨xb, 8, none⟩ = some (.int .i64 X.bud.c) := cellAt L8.out.xb 8 rfl
  have y9 : W8.cell? ⟨xb, 9, none⟩ = some (.int .i64 X.bud.d) := cellAt L8.out.xb 9 rfl
  have y10 : W8.cell? ⟨xb, 10, none⟩ = some (X.hv) := cellAt L8.out.xb 10 rfl
  have yg : W8.cell? ⟨gb, 0, none⟩ = some (gptr g.b) := cellAt G8.out 0 rfl
  clear hS hML hPE hSU B7 G6 E7 L6 E6
  rw [hgb]
  gi_wp2_with fail
  refine ⟨trivial, (callsIn_wide.2 (combs_at X g.b _)).mono ?_⟩
  rintro e w2' ⟨rfl, rfl⟩
  clear hW8 y0 y1 y2 y3 y4 y5 y6 y7 y8 y9 y10 yg
  gi_wp2_with fail
  have HCP := Lib.hid (L8.out.x.cap HG.out)
  obtain ⟨w2, hw2⟩ : ∃ w2, (W8.alloc (.cells X.cells.toArray 78)).alloc (.cells #[gptr g.b] 81) = w2 := ⟨_, rfl⟩
  have EZ : Hid (Below W8.heap.size W8 w2) := by rw [← hw2]; exact ext_alloc (ext_alloc (ext_refl W8) _) _
  rw [hw2] at HCP
  try rw [hw2]
  clear hw2
  have E9 : Hid (Below W5.heap.size W5 w2) := E8.out.trans (EZ.out.mono E8.out.size)
  have G9 : Hid (w2.heap[gb]? = some (Obj.cells #[gptr g.b] 81 (0, 0))) := (EZ.out.block _ (Array.getElem?_eq_some_iff.1 G8.out).1).trans G8.out
  have S9 : Hid (w2.heap[sb]? = some (Obj.cells #[.map (some S)] 84 (0, 0))) := (EZ.out.block _ (Array.getElem?_eq_some_iff.1 S8.out).1).trans S8.out
  have M9 : Hid (GMap V4.v w2 S L) := M8.out.ext EZ.out
  have L9 := Lib.hid (L5.out.ext E9.out)
  have hW9 : W.heap.size ≤ w2.heap.size := Nat.le_trans K5.out.1 E9.out.size
  have hN9 : N ≤ w2.heap.size := Nat.le_trans hNW (Nat.le_trans K5.out.1 E9.out.size)
  have R9 := Lib.hid (R5.out.below E9.out (Nat.le_trans hNW K5.out.1))
  obtain ⟨T5, hT5⟩ : ∃ T5 : Nat → Nat → Prop, (fun n k => T n k ∨ ∃ q ∈ X.G, q.call ∉ left.map (·.1) ∧ GHit X h.l q n k) = T5 := ⟨_, rfl⟩
  have HT5 := Lib.hid hT5
  have R9' : Hid (RS N w2 base (.slice PA X.st.length pc) X rows1 T5) := by rw [← hT5]; exact R9.out
  clear hT5 R9 G8 S8 M8 L8 EZ
  refine wpIn_rangeFunc_buf (F := Fence.wide) rfl (by decide) (gf := 52) (lb := #[.pointer (some ⟨W8.heap.size + 1, 0, none⟩), .pointer (some ⟨W8.heap.size, 0, none⟩)]) rfl trivial (enters_of Tryz.func52 (by kernel_rfl) rfl)
   (comb_seq 4 (by decide) (W8.heap.size + 1) W8.heap.size X g (by have := HN.out.tl g HG.out; omega) (HROW.out g HG.out) w2 HCP.out) rfl
   (fun pre V => Hid (KB w2 V) ∧ Hid (Below base w2 V) ∧ ∃ rows2, Hid (RS N V base (.slice PA X.st.length pc) X rows2 (fun n k => T5 n k ∨ ∃ y ∈ pre, HitAt X h.l g y ∧ AtP g y n k)))
   (fun s V V' hs hV hb => by
    obtain ⟨h1, h2, rows2, h3⟩ := hs
    exact ⟨⟨Nat.le_trans h1.out.1 hb.size, fun k hk hn => (hb.block k hk).trans (h1.out.2 k hk hn)⟩, h2.out.trans (hb.mono (by have := E9.out.size; have := K5.out.1; omega)), rows2, h3.out.below hb hN9⟩)
   ⟨KB.refl _, Below.refl _ _, rows1, R9'.out.congr (fun n k => by simp)⟩
   ?round ?done
  case round =>
   rintro l pre x W0 V K hl hlr ⟨HKV, HBV, rows2, HRV⟩ hpre hsz hrow hK
   have HPRE := Lib.hid (prefix_mem hpre)
   have LV := Lib.hid (L9.out.kb HKV.out)
   have GV : Hid (V.heap[gb]? = some (Obj.cells #[gptr g.b] 81 (0, 0))) := HKV.out.cell G9.out (by decide)
   have SV : Hid (V.heap[sb]? = some (Obj.cells #[.map (some S)] 84 (0, 0))) := HKV.out.cell S9.out (by decide)
   have MV : Hid (GMap V4.v V S L) := M9.out.kb HKV.out
   have ROWV := Lib.hid hrow
   have HXL : Hid (x.length = g.ts.length) := own_lenN hrow
   have HWC := Lib.hid (wrong_any X g HG.out (some ⟨w2.heap.size + 2, 0, none⟩) g.ts.length g.ts.length (nums x) h.A h.l.length h.c h.l V (own_lenN hrow ▸ by simp [nums]) rfl LV.out.x (hrow.slc (fun _ => rfl) (by decide)) ((LV.out.x.h1 h HP.out.hm).slc (fun _ => rfl) (by decide)) (comb_pks (HN.out.tn g HG.out) HPRE.out) (HN.out.rs g HG.out) (HN.out.hb h HP.out.hm) (by have := HN.out.tl g HG.out; omega) (by have := HN.out.rl g HG.out; omega))
   obtain ⟨z, hz⟩ : ∃ z, wrongV X.stays g.ts g.rs (nums x) h.l = z := ⟨_, rfl⟩
   have HZ := Lib.hid hz
   have HZI : Hid (z.In 100) := by rw [← hz]; exact (wrongV_in X.stays g.ts g.rs (nums x) h.l).mono (by have := HN.out.rl g HG.out; omega)
   rw [hz] at HWC
   have HSZ := Lib.hid hsz
   have HKK := Lib.hid hK
   clear hpre hrow hz hl hlr hsz hK
   have y0 : V.cell? ⟨xb, 0, none⟩ = some (X.sv) := cellAt LV.out.xb 0 rfl
   have y1 : V.cell? ⟨xb, 1, none⟩ = some (.map (some X.m)) := cellAt LV.out.xb 1 rfl
   have y2 : V.cell? ⟨xb, 2, none⟩ = some (.int .i64 X.lost.a) := cellAt LV.out.xb 2 rfl
   have y3 : V.cell? ⟨xb, 3, none⟩ = some (.int .i64 X.lost.b) := cellAt LV.out.xb 3 rfl
   have y4 : V.cell? ⟨xb, 4, none⟩ = some (.int .i64 X.lost.c) := cellAt LV.out.xb 4 rfl
   have y5 : V.cell? ⟨xb, 5, none⟩ = some (.int .i64 X.lost.d) := cellAt LV.out.xb 5 rfl
   have y6 : V.cell? ⟨xb, 6, none⟩ = some (.int .i64 X.bud.a) := cellAt LV.out.xb 6 rfl
   have y7 : V.cell? ⟨xb, 7, none⟩ = some (.int .i64 X.bud.b) := cellAt LV.out.xb 7 rfl
   have y8 : V.cell? ⟨xb, 8, none⟩ = some (.int .i64 X.bud.c) := cellAt LV.out.xb 8 rfl
   have y9 : V.cell? ⟨xb, 9, none⟩ = some (.int .i64 X.bud.d) := cellAt LV.out.xb 9 rfl
   have y10 : V.cell? ⟨xb, 10, none⟩ = some (X.hv) := cellAt LV.out.xb 10 rfl
   have yg : V.cell? ⟨gb, 0, none⟩ = some (gptr g.b) := cellAt GV.out 0 rfl
   have yh : V.cell? ⟨hb, 0, none⟩ = some (.slice h.A h.l.length h.c) := cellAt LV.out.hb 0 rfl
   gi_wp2_with fail
   refine HKK.out _ ?_
   clear HKK K
   gi_wp2_with fail
   refine ⟨trivial, (CallsIn.inRound l (callsIn_wide.2 HWC.out)).mono ?_⟩
   rintro e f1 ⟨rfl, B1⟩
   clear y0 y1 y2 y3 y4 y5 y6 y7 y8 y9 y10 yg yh HWC
   obtain ⟨V1, hV1⟩ : ∃ V1, f1.alloc (.cells #[.int .i64 z.a, .int .i64 z.b, .int .i64 z.c, .int .i64 z.d] 76) = V1 := ⟨_, rfl⟩
   have E1 : Hid (Below V.heap.size V V1) := by rw [← hV1]; exact ext_alloc B1 _
   have BZ1 : Hid (Blk V1 f1.heap.size z.cells) := by rw [← hV1]; exact Blk.newH f1 z.cells 76 f1.heap.size rfl
   obtain ⟨o7, hrg7, -, hIt7⟩ := (MV.out.ext E1.out).range Tryz.underlying84
   obtain ⟨V2, hV2⟩ : ∃ V2, V1.alloc o7 = V2 := ⟨_, rfl⟩
   rw [hV2] at hrg7 hIt7
   have E2 : Hid (Below V1.heap.size V1 V2) := by rw [← hV2]; exact ext_alloc (ext_refl V1) o7
   have IT2 := Lib.hid hIt7
   have ys : V1.cell? ⟨sb, 0, none⟩ = some (.map (some S)) := cellAt (Below.cellsB E1.out SV.out) 0 rfl
   clear hIt7 B1
   gi_wp2_with fail
   obtain ⟨vb, hvb⟩ : ∃ vb, f1.heap.size = vb := ⟨_, rfl⟩
   rw [hvb] at BZ1 ⊢
   clear hV1 hV2 hrg7 ys hvb
   gi_loopw [116] (fun _ wr => ∃ left1 : List (V4 × Value), Hid (GIter V4.v wr V1.heap.size S L left1) ∧ Hid (Below V1.heap.size V1 wr) ∧ Hid (∀ a ∈ L.map (·.1), a ∉ left1.map (·.1) → (z.plus a).leB X.bud = false)) (fun _ wr => gleft wr V1.heap.size)
   case atStart => exact ⟨L, IT2, E2, fun a h1 h2 => absurd h1 h2⟩
   case round =>
    obtain ⟨left1, HI1, EE1, HMISS⟩ := hrel
    obtain ⟨wo, rfl⟩ : ∃ wo, wo = wr := ⟨_, rfl⟩
    have EV := Lib.hid (E1.out.trans (EE1.out.mono E1.out.size))
    clear IT2 E2
    have hgl := HI1.out.gleft
    rcases HI1.out.step key76 0 with ⟨rfl, hnx⟩ | ⟨p, V3, hp, hnx, hen, hI8, hlen, hst⟩
    ·have HOUT : Hid (bufPost w2.heap.size (fun pre V => Hid (KB w2 V) ∧ Hid (Below base w2 V) ∧ ∃ rows2, Hid (RS N V base (.slice PA X.st.length pc) X rows2 (fun n k => T5 n k ∨ ∃ y ∈ pre, HitAt X h.l g y ∧ AtP g y n k))) (pre ++ [x]) V Exit.normal { tmps := #[], defers := [] } wo) :=
      ⟨kf_below EV.out, KC.below EV.out, HKV.out.t (KB.below EV.out), HBV.out.trans (EV.out.mono (by have := HKV.out.1; omega)), rows2, (HRV.out.below EV.out (Nat.le_trans hN9 HKV.out.1)).congr (fun n k => hit_miss HZ.out HKL.out (fun a ha => HMISS.out a ha (by simp)) n k)⟩
     clear hgl
     gi_wp2_with fail
     exact HOUT.out
    ·have hgl8 := hI8.gleft
     obtain ⟨a, av⟩ := p
     dsimp only at hnx hen hI8 hlen hgl8
     have HKE := Lib.hid (fun q => mem_filter_key (l := left1) (p := a) (a := q))
     have HAL : Hid (a ∈ L.map (·.1)) := List.mem_map.2 ⟨_, HI1.out.sub _ hp, rfl⟩
     have HAI : Hid (a.In 3) := (sumF_in vecP_pos HN.out.lo.pos HN.out.bu _ _ ((HKL.out a).1 HAL.out)).2
     have HLT8 : Hid (gleft V3 V1.heap.size < gleft wo V1.heap.size) := by unfold Hid; rw [hgl8, hgl]; omega
     obtain ⟨left8, hl8⟩ : ∃ q, left1.filter (fun q => !decide (q.1 = a)) = q := ⟨_, rfl⟩
     rw [hl8] at hI8 HKE
     have HI8 := Lib.hid hI8
     have E3 := Lib.hid (hst.below EE1.out (Nat.le_refl _))
     obtain ⟨W7, hW7⟩ : ∃ W7, V3.alloc (.cells #[.int .i64 a.a, .int .i64 a.b, .int .i64 a.c, .int .i64 a.d] 76) = W7 := ⟨_, rfl⟩
     have E37 : Hid (Below V3.heap.size V3 W7) := by rw [← hW7]; exact ext_alloc (ext_refl _) _
     have BA7 : Hid (Blk W7 V3.heap.size a.cells) := by rw [← hW7]; exact Blk.newH V3 a.cells 76 V3.heap.size rfl
     have E7 := Lib.hid (E3.out.trans (E37.out.mono E3.out.size))
     have EV7 := Lib.hid (E1.out.trans (E7.out.mono E1.out.size))
     have BZ7 := Lib.hid (BZ1.out.ext E7.out)
     have BX7 : Hid (Blk W7 xb X.cells) := Blk.of (Below.cellsB EV7.out LV.out.xb)
     have HI7 := Lib.hid (HI8.out.ext E37.out)
     have HLT7 : Hid (gleft W7 V1.heap.size < gleft wo V1.heap.size) := by unfold Hid; rw [HI7.out.gleft, ← HI8.out.gleft]; exact HLT8.out
     obtain ⟨zz, hzz⟩ : ∃ zz, z.plus a = zz := ⟨_, rfl⟩
     obtain ⟨r, hr⟩ : ∃ r, zz.leB X.bud = r := ⟨_, rfl⟩
     have HPL := Lib.hid (fun u => vplus_any z a u (HZI.out.mono (by omega)) (HAI.out.mono (by omega)))
     rw [hzz] at HPL
     have HVI := Lib.hid (fun u => vin_at (w := u) r hr)
     have HZZ := Lib.hid hzz
     have HRR := Lib.hid hr
     obtain ⟨ab, hab⟩ : ∃ ab, V3.heap.size = ab := ⟨_, rfl⟩
     rw [hab] at BA7
     clear hgl hgl8 hp hI8 hlen hst hl8 hzz hr HI1 EE1 EV E37 HI8 HLT8 E3
     gi_wp2_with fail
     try rw [hab]
     clear hnx hen hW7 hab
     have SS := Lib.hid (show ∀ w', Below W7.heap.size W7 w' → (fun w' => Below W7.heap.size W7 w' ∧ w'.cell? ⟨vb, 0, none⟩ = some (.int .i64 z.a) ∧ w'.cell? ⟨vb, 1, none⟩ = some (.int .i64 z.b) ∧ w'.cell? ⟨vb, 2, none⟩ = some (.int .i64 z.c) ∧ w'.cell? ⟨vb, 3, none⟩ = some (.int .i64 z.d) ∧ w'.cell? ⟨ab, 0, none⟩ = some (.int .i64 a.a) ∧ w'.cell? ⟨ab, 1, none⟩ = some (.int .i64 a.b) ∧ w'.cell? ⟨ab, 2, none⟩ = some (.int .i64 a.c) ∧ w'.cell? ⟨ab, 3, none⟩ = some (.int .i64 a.d) ∧ w'.cell? ⟨xb, 6, none⟩ = some (.int .i64 X.bud.a) ∧ w'.cell? ⟨xb, 7, none⟩ = some (.int .i64 X.bud.b) ∧ w'.cell? ⟨xb, 8, none⟩ = some (.int .i64 X.bud.c) ∧ w'.cell? ⟨xb, 9, none⟩ = some (.int .i64 X.bud.d)) w' from fun w' h => ⟨h, (BZ7.out.ext h).c 0 _ rfl, (BZ7.out.ext h).c 1 _ rfl, (BZ7.out.ext h).c 2 _ rfl, (BZ7.out.ext h).c 3 _ rfl, (BA7.out.ext h).c 0 _ rfl, (BA7.out.ext h).c 1 _ rfl, (BA7.out.ext h).c 2 _ rfl, (BA7.out.ext h).c 3 _ rfl, (BX7.out.ext h).c 6 _ rfl, (BX7.out.ext h).c 7 _ rfl, (BX7.out.ext h).c 8 _ rfl, (BX7.out.ext h).c 9 _ rfl⟩)
     refine rg_beginR (S := (fun w' => Below W7.heap.size W7 w' ∧ w'.cell? ⟨vb, 0, none⟩ = some (.int .i64 z.a) ∧ w'.cell? ⟨vb, 1, none⟩ = some (.int .i64 z.b) ∧ w'.cell? ⟨vb, 2, none⟩ = some (.int .i64 z.c) ∧ w'.cell? ⟨vb, 3, none⟩ = some (.int .i64 z.d) ∧ w'.cell? ⟨ab, 0, none⟩ = some (.int .i64 a.a) ∧ w'.cell? ⟨ab, 1, none⟩ = some (.int .i64 a.b) ∧ w'.cell? ⟨ab, 2, none⟩ = some (.int .i64 a.c) ∧ w'.cell? ⟨ab, 3, none⟩ = some (.int .i64 a.d) ∧ w'.cell? ⟨xb, 6, none⟩ = some (.int .i64 X.bud.a) ∧ w'.cell? ⟨xb, 7, none⟩ = some (.int .i64 X.bud.b) ∧ w'.cell? ⟨xb, 8, none⟩ = some (.int .i64 X.bud.c) ∧ w'.cell? ⟨xb, 9, none⟩ = some (.int .i64 X.bud.d))) 7 (by kernel_rfl) (by intro d; cases d <;> intro _ _ _ _ h <;> exact h) ?_ (fun Q7 hQ7 hN7 hHeld => ?_)
     ·exact SS.out _ (ext_drew (ext_refl _))
     refine rgT 0 (some 119) hQ7 hHeld ?_; refine rgT 1 (some 120) hQ7 hHeld ?_; refine rgT 3 (some 122) hQ7 hHeld ?_; refine rgT 4 (some 123) hQ7 hHeld ?_
     refine rg_one (i := 2) (by kernel_rfl) (rg_step rfl (by rfl) (fun K hK => ?_))
     go_simp
     refine (HPL.out _).mono ?_
     rintro e1 f1 ⟨rfl, B1⟩
     go_wp2_with fail
     refine hK.out _ _ ?_ (fun hHeld2 => ?_)
     ·exact SS.out _ (ext_trans hHeld.1 B1)
     clear hHeld
     have hHeld := hHeld2
     clear hHeld2
     clear hK K
     try simp only [Act.put, List.setIfInBounds_toArray, List.set_cons_zero, List.set_cons_succ]
     refine rg_one (i := 5) (by kernel_rfl) (rg_step rfl (by rfl) (fun K hK => ?_))
     go_simp
     refine (HVI.out _).mono ?_
     rintro e1 f1 ⟨rfl, B1⟩
     go_wp2_with fail
     refine hK.out _ _ ?_ (fun hHeld2 => ?_)
     ·exact SS.out _ (ext_trans hHeld.1 B1)
     clear hHeld
     have hHeld := hHeld2
     clear hHeld2
     clear hK K
     try simp only [Act.put, List.setIfInBounds_toArray, List.set_cons_zero, List.set_cons_succ]
     refine rgT 6 (some 125) hQ7 hHeld ?_
     refine rg_end (by kernel_rfl) (hN7 _ _ ?_) _
     clear hQ7 hN7 Q7
     have BX := hHeld.1
     clear SS
     refine onlyN ?_
     obtain ⟨V8, hV8⟩ : ∃ V8, f1 = V8 := ⟨_, rfl⟩
     rw [hV8] at BX ⊢
     have E8 := Lib.hid (E7.out.trans (BX.mono E7.out.size))
     have HI9 := Lib.hid (HI7.out.ext BX)
     have HLT9 : Hid (gleft V8 V1.heap.size < gleft wo V1.heap.size) := by unfold Hid; rw [HI9.out.gleft, ← HI7.out.gleft]; exact HLT7.out
     clear hV8 BX B1 E7 EV7 HI7 HLT7 BA7 BZ7 BX7
     obtain ⟨nr, hnr⟩ : ∃ nr, (!r) = nr := ⟨_, rfl⟩
     rw [hnr]
     cases r
     case false =>
      obtain rfl : nr = true := hnr.symm
      gi_wp2_with fail
      go_roundw
      case rel => exact ⟨left8, HI9, E8, fun b hb hn => by
       by_cases e : b = a
       ·subst e; rw [HZZ.out]; exact HRR.out
       ·exact HMISS.out b hb (fun hm => hn ((HKE.out b).2 ⟨hm, e⟩))⟩
      case measure => exact HLT9.out
     case true =>
      obtain rfl : nr = false := hnr.symm
      have EV8 := Lib.hid (E1.out.trans (E8.out.mono E1.out.size))
      have HG8 := Lib.hid ((LV.out.x.ext EV8.out).g1 g HG.out)
      obtain ⟨TA, hTA⟩ : ∃ TA, g.tA = TA := ⟨_, rfl⟩
      obtain ⟨tc, htc⟩ : ∃ tc, g.tc = tc := ⟨_, rfl⟩
      have g0 : V8.cell? ⟨g.b, 0, none⟩ = some (.slice TA g.ts.length tc) := by rw [← hTA, ← htc]; exact cellAt HG8.out.b 0 rfl
      have yg : V8.cell? ⟨gb, 0, none⟩ = some (gptr g.b) := cellAt (Below.cellsB EV8.out GV.out) 0 rfl
      have HTS : Hid (Slc V8 ic 1 TA (nums g.ts)) := by rw [← hTA]; exact (show Slc V8 ic 1 g.tA (nums g.ts) from Own.slc (n := (nums g.ts).length) (c := g.tc) (fun _ => rfl) (by decide) (by have := HG8.out.t; simpa [nums] using this))
      have HR8 := Lib.hid (HRV.out.below EV8.out (Nat.le_trans hN9 HKV.out.1))
      have L8 := Lib.hid (LV.out.ext EV8.out)
      obtain ⟨T6, hT6⟩ : ∃ T6 : Nat → Nat → Prop, (fun n k => T5 n k ∨ ∃ y ∈ pre, HitAt X h.l g y ∧ AtP g y n k) = T6 := ⟨_, rfl⟩
      rw [hT6] at HR8
      have HT6 := Lib.hid hT6
      have PX8 : Hid (Own V8 0 3 ic 1 (.slice (some ⟨w2.heap.size + 2, 0, none⟩) g.ts.length g.ts.length) (nums x)) := ROWV.out.ext EV8.out
      have HTA := Lib.hid hTA
      have HTC := Lib.hid htc
      have HGO := Lib.hid HG8.out
      clear hTA htc hT6 HG8 HTS HMISS HKE HI9 HLT9
      gi_wp2_with fail
      clear g0 yg
      gi_loopw [131] (fun i wr => ∃ (k : Nat) (rows3 : List BR), k ≤ g.ts.length ∧ i = .int .i64 k ∧ Hid (RS N wr base (.slice PA X.st.length pc) X rows3 (fun n j => T6 n j ∨ AtK g x k n j)) ∧ Hid (KB V8 wr) ∧ Hid (Below base V8 wr) ∧ Hid (KeepsFrom w2.heap.size V8 wr)) (fun i _ => g.ts.length - (intOf i).toNat)
      case atStart => exact ⟨0, rows2, by omega, rfl, HR8.out.congr (fun n j => ⟨.inl, fun q => q.elim id (fun q => (atK_zero g x n j q).elim)⟩), KB.refl _, Below.refl _ _, KeepsFrom.refl _ _⟩
      case round =>
       obtain ⟨k, rows3, hk, rfl, HR3, K3, B3, F3⟩ := hrel
       obtain ⟨wa, rfl⟩ : ∃ wa, wa = wr := ⟨_, rfl⟩
       by_cases hlt : k < g.ts.length
       rotate_left
       ·have hkn : ¬ (k : Int) < (g.ts.length : Int) := by omega
        have HOUT : Hid (bufPost w2.heap.size (fun pre V => Hid (KB w2 V) ∧ Hid (Below base w2 V) ∧ ∃ rows2, Hid (RS N V base (.slice PA X.st.length pc) X rows2 (fun n k => T5 n k ∨ ∃ y ∈ pre, HitAt X h.l g y ∧ AtP g y n k))) (pre ++ [x]) V Exit.normal { tmps := #[], defers := [] } wa) :=
         ⟨(kf_below EV8.out).trans F3.out, (KC.below EV8.out).t (KC.kb K3.out), (HKV.out.t (KB.below EV8.out)).t K3.out, (HBV.out.trans (EV8.out.mono (by have := HKV.out.1; omega))).trans B3.out, rows3, HR3.out.congr (fun n j => by
          rw [atK_all (by omega), ← HT6.out]
          exact hit_add HZ.out HKL.out HAL.out (by rw [HZZ.out]; exact HRR.out) n j)⟩
        gi_wp2_with fail
        exact HOUT.out
       ·obtain ⟨nn, hnn⟩ : ∃ nn, g.ts[k]? = some nn := ⟨_, List.getElem?_eq_getElem hlt⟩
        have hkx : k < x.length := by rw [HXL.out]; exact hlt
        obtain ⟨jj, hjj⟩ : ∃ jj, x[k]? = some jj := ⟨_, List.getElem?_eq_getElem hkx⟩
        have hns : nn < X.st.length := HN.out.tn g HG.out nn (List.mem_of_getElem? hnn)
        have hjr : jj < rowN X nn := (comb_choice HPRE.out).2 k _ jj (by simp [grpM, hnn]) hjj
        obtain ⟨r, hr, hrl⟩ := HR3.out.row hns
        have hrk : BR.ok wa r := (HR3.out.r.r r (List.mem_of_getElem? hr)).2
        have HTS : Slc wa ic 1 TA (nums g.ts) := by
         have HG9 := (HGO.out.kb K3.out).t
         rw [← HTA.out]; exact (show Slc wa ic 1 g.tA (nums g.ts) from Own.slc (n := (nums g.ts).length) (c := g.tc) (fun _ => rfl) (by decide) (by simpa [nums] using HG9))
        obtain ⟨y1, tb, to, hy1, hTA, htb, hc1⟩ := HTS.at_ (k := k) (by simpa [nums] using hlt)
        obtain rfl : y1 = (nn : Int) := by rw [nums_at hnn] at hy1; cases hy1; rfl
        have hPS : Slc wa BR.enc 1 PA rows3 := HR3.out.r.o.slc (fun _ => rfl) (by decide)
        obtain ⟨y2, qb, qo, hy2, hPA, hqb, hc2⟩ := hPS.at_ (k := nn) (List.getElem?_eq_some_iff.1 hr).1
        obtain rfl : y2 = r := Option.some.inj (hy2.symm.trans hr)
        have d0 : wa.cell? ⟨tb, to + k, none⟩ = some (.int .i64 nn) := by have := hc1 0 _ rfl; simpa using this
        have q8 : wa.cell? ⟨qb, qo + nn, none⟩ = some (.slice (some ⟨y2.b, 0, none⟩) y2.l.length y2.l.length) := by have := hc2 0 _ rfl; simpa using this
        have p8 : wa.cell? ⟨pb, 0, none⟩ = some (.slice PA X.st.length pc) := cellAt (L8.out.kb K3.out).pb 0 rfl
        have p8l : pb < wa.heap.size := (Array.getElem?_eq_some_iff.1 (L8.out.kb K3.out).pb).1
        have j8 := own_getN (PX8.out.kb K3.out (by decide)) hjj
        have j8l : w2.heap.size + 2 < wa.heap.size := (((PX8.out.kb K3.out (by decide)).lt _ rfl).1)
        have hrd : BR.ok wa.drew y2 := Below.cellsB (ext_drew (ext_refl wa)) hrk
        have hjl : jj < y2.l.length := by rw [hrl]; exact hjr
        obtain ⟨bb, hbb⟩ : ∃ bb, y2.l[jj]? = some bb := ⟨_, List.getElem?_eq_getElem hjl⟩
        have s8 := BR.cell hrd hbb
        have s8f := BR.frozen hrd jj
        have s8l := BR.lt hrd
        have hz3 : N ≤ wa.heap.size := by have := HKV.out.1; have := EV8.out.size; have := K3.out.1; omega
        have hzs : (wa.setCell ⟨y2.b, jj, none⟩ (.bool true)).heap.size = wa.heap.size := by simp [World.setCell]
        have RD := Lib.hid ((HR3.out.set (k := jj) hr).below (ext_drew (ext_refl _)) (by rw [hzs]; exact hz3))
        have KD : Hid (KB V8 (wa.setCell ⟨y2.b, jj, none⟩ (.bool true)).drew) := (K3.out.t (KB.set (a := ⟨y2.b, jj, none⟩) hrk)).t (KB.below (ext_drew (ext_refl _)))
        have BD : Hid (Below base V8 (wa.setCell ⟨y2.b, jj, none⟩ (.bool true)).drew) := (B3.out.trans (below_set (Below.refl _ _) _ _ (HR3.out.r.r y2 (List.mem_of_getElem? hr)).1)).trans ((ext_drew (ext_refl _)).mono (by rw [hzs]; have := HKV.out.1; have := EV8.out.size; have := K3.out.1; have := E9.out.size; have := K5.out.1; omega))
        have FD : Hid (KeepsFrom w2.heap.size V8 (wa.setCell ⟨y2.b, jj, none⟩ (.bool true)).drew) := (F3.out.trans (KF.set (b := y2.b) (k := jj) hrk)).trans (kf_below (ext_drew (ext_refl _)))
        clear hzs hz3
        have htl9 : g.ts.length ≤ 12 := HN.out.tl g HG.out
        have hki : (k : Int) < (g.ts.length : Int) := by omega
        have hnl : (nn : Int) < (X.st.length : Int) := by omega
        have hjl2 : (jj : Int) < (y2.l.length : Int) := by omega
        have HNN := Lib.hid hnn
        have HJJ := Lib.hid hjj
        obtain ⟨rl, hrl2⟩ : ∃ rl, y2.l.length = rl := ⟨_, rfl⟩
        obtain ⟨rb, hrb2⟩ : ∃ rb, y2.b = rb := ⟨_, rfl⟩
        rw [hrl2] at hjl2 q8
        rw [hrb2] at q8 s8 s8f s8l RD KD BD FD
        subst hTA
        subst hPA
        clear hy1 hy2 hc1 hc2 hPS HTS hrk hrd hr hrl hjr hns hkx hjj hnn hjl hbb hrl2 hrb2 HR3 K3 B3 F3 HGO
        gi_wp2_with fail
        clear d0
        have SS := Lib.hid (show ∀ w', Below wa.heap.size wa w' → (fun w' => Below wa.heap.size wa w' ∧ w'.cell? ⟨pb, 0, none⟩ = some (.slice (some ⟨qb, qo, none⟩) X.st.length pc) ∧ w'.cell? ⟨qb, qo + nn, none⟩ = some (.slice (some ⟨rb, 0, none⟩) rl rl) ∧ w'.cell? ⟨w2.heap.size + 2, k, none⟩ = some (.int .i64 jj)) w' from fun w' h => ⟨h, (h.cell (p := ⟨pb, 0, none⟩) p8l).trans p8, (h.cell (p := ⟨qb, qo + nn, none⟩) hqb).trans q8, (h.cell (p := ⟨w2.heap.size + 2, k, none⟩) j8l).trans j8⟩)
        refine rg_beginR (S := (fun w' => Below wa.heap.size wa w' ∧ w'.cell? ⟨pb, 0, none⟩ = some (.slice (some ⟨qb, qo, none⟩) X.st.length pc) ∧ w'.cell? ⟨qb, qo + nn, none⟩ = some (.slice (some ⟨rb, 0, none⟩) rl rl) ∧ w'.cell? ⟨w2.heap.size + 2, k, none⟩ = some (.int .i64 jj))) 9 (by kernel_rfl) (by intro d; cases d <;> intro _ _ _ _ h <;> exact h) ?_ (fun Q7 hQ7 hN7 hHeld => ?_)
        ·exact SS.out _ (ext_drew (ext_refl _))
        refine rgT 0 (some 136) hQ7 hHeld ?_; refine rgT 1 (some 137) hQ7 hHeld ?_; refine rgT 2 (some 138) hQ7 hHeld ?_; refine rgT 3 (some 139) hQ7 hHeld ?_; refine rgT 4 (some 140) hQ7 hHeld ?_; refine rgT 5 (some 141) hQ7 hHeld ?_; refine rgT 6 (some 142) hQ7 hHeld ?_; refine rgT 7 (some 143) hQ7 hHeld ?_; refine rgT 8 (some 144) hQ7 hHeld ?_
        refine rg_one (i := 9) (by kernel_rfl) (rg_late rfl (by rfl) (by kernel_rfl) (fun K hK => ?_))
        go_simp
        refine hK.out _ _ ?_
        clear hK K
        try simp only [Act.put, List.setIfInBounds_toArray, List.set_cons_zero, List.set_cons_succ]
        refine rg_end (by kernel_rfl) (hN7 _ _ ?_) _
        clear hQ7 hN7 Q7
        have BX := hHeld.1
        clear SS
        refine onlyN ?_
        gi_wp2_with fail
        go_roundw
        case rel => exact ⟨k + 1, _, hlt, by go_num, RD.out.congr (fun n j => by rw [atK_succ HNN.out HJJ.out]; exact or_assoc), KD, BD, FD⟩
        case measure => simp [intOf]; (try omega)

  case done =>
   rintro D V hDD hsz ⟨HK9, HB9, rows2, HR9⟩ hK
   have HD9 : Hid (Dfs B (D :: Ds1) V) := by
    have h1 := (D5.out.ext E9.out).kb HK9.out
    refine h1.add (fun hm => ?_) (by rw [hDD]; omega) hK
    have := ((D5.out.ext E9.out).ok D hm).2.1
    omega
   have HI9 : Hid (GIter encC V W.heap.size X.m X.grps left5) := (HI5.out.ext E9.out).kb HK9.out
   have HK10 : Hid (KB W V) := (K5.out.t (KB.below E9.out)).t HK9.out
   have HB10 : Hid (Below base W V) := (B5.out.trans (E9.out.mono (by have := K5.out.1; omega))).trans HB9.out
   have HR10 : Hid (RS N V base (.slice PA X.st.length pc) X rows2 (fun n k => T n k ∨ ∃ q ∈ X.G, q.call ∉ left5.map (·.1) ∧ GHit X h.l q n k)) := HR9.out.congr (fun n k => by
    rw [← HT5.out]; exact grp_step HG.out HP.out.ndc HKEY.out HGL.out n k)
   have HM10 : Hid (gleft V W.heap.size < gleft wr W.heap.size) := by unfold Hid; rw [HI9.out.gleft, ← HI5.out.gleft]; exact HLT.out
   gi_wp2_with fail
   refine ⟨?_, HM10.out⟩
   exact ⟨_, _, _, _, _, _, _, _, _, _, _, _, _, _, _, _, _, _, _, _, _, _, _, _, _, _, _, _, _, _, _, _, _, _, _, _, _, _, _, _, _, _, _, _, _, _, _, _, _, _, _, _, _, _, _, _, _, D :: Ds1, left5, rows2, HI9, HK10, HB10, HR10, HD9, rfl⟩
end Go.Proofs.YtjiojpoiocdnmaaGreat
