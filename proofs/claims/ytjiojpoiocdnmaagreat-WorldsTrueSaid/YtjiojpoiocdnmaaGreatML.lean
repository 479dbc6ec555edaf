/- Possible: which choices belong to a world. -/
import Derived.Test.YtjiojpoiocdnmaaGreatMP
set_option linter.unusedSimpArgs false
set_option linter.unusedVariables false
namespace Go.Proofs.YtjiojpoiocdnmaaGreat
open Go.RowKit Go.Shelf Go.ChangeMaps
attribute [local go_sem] Oper.semAt_some
/-- What Possible answers. -/
def PossW (w : World) (t : Tab) (s : List Stn) (R : List Rep) (l : List Trk) (e : Ending) (w' : World) : Prop :=
  Below w.heap.size w w' ∧ ((askE t s R l ≠ 0 ∧ e = .returned (.tuple #[.slice none 0 0, .int .i64 (askE t s R l)])) ∨
    (askE t s R l = 0 ∧ ∃ X : Scn, SceneSpec t s R l X ∧ (X.G.map (·.b)).Nodup ∧
      (((∃ g ∈ X.G, 4096 < cnt (grpM X g.ts)) ∧ e = .returned (.tuple #[.slice none 0 0, .int .i64 2])) ∨
       ((∀ g ∈ X.G, cnt (grpM X g.ts) ≤ 4096) ∧ (¬ ∃ h ∈ X.sh, FoundAt X h.l) ∧ e = .returned (.tuple #[.slice none 0 0, .int .i64 240])) ∨
       ((∀ g ∈ X.G, cnt (grpM X g.ts) ≤ 4096) ∧ (∃ h ∈ X.sh, FoundAt X h.l) ∧ ∃ A c rows, e = .returned (.tuple #[.slice A rows.length c, .int .i64 0]) ∧ Rows w' w.heap.size (.slice A rows.length c) rows ∧
         rows.map (fun r => r.l.length) = l.map (fun y => y.ps.l.length) ∧ Holds rows (fun n k => ∃ h ∈ X.sh, SHit X h.l n k)))))
theorem grp_row {X : Scn} {ns : Nat} (h : SceneN X ns) {g : Grp} (hg : g ∈ X.G) : ∀ i ∈ g.ts, ∃ r, X.st[i]? = some r ∧ 0 < r.l.length ∧ r.l.length ≤ 4096 := fun i hi => by
  have hlt := h.tn g hg i hi
  exact ⟨X.st[i], by simp [hlt], h.sp _ (by simp), h.sl _ (by simp)⟩
theorem grp_inj {t : Tab} {s : List Stn} {R : List Rep} {l : List Trk} {X : Scn} {W : World} {ns : Nat} (hX : SceneOk W X) (hS : SceneSpec t s R l X) (hN : SceneN X ns) {g g' : Grp} (hg : g ∈ X.G) (hg' : g' ∈ X.G) (hb : g.b = g'.b) : g = g' := by
  have h1 := hX.g1 g hg
  have h2 := hX.g1 g' hg'
  have e := h1.b
  rw [hb, h2.b] at e
  simp only [Option.some.injEq, Obj.cells.injEq, Array.mk.injEq, List.cons.injEq, Value.slice.injEq, and_true] at e
  obtain ⟨⟨eA, en, ec⟩, _⟩ := e
  have s1 : Slc W ic 1 g.tA (nums g.ts) := Own.slc (n := (nums g.ts).length) (c := g.tc) (fun _ => rfl) (by decide) (by have := h1.t; simpa [nums] using this)
  have s2 : Slc W ic 1 g'.tA (nums g'.ts) := Own.slc (n := (nums g'.ts).length) (c := g'.tc) (fun _ => rfl) (by decide) (by have := h2.t; simpa [nums] using this)
  have hp := hN.tp g hg
  obtain ⟨y1, b1, o1, hy1, hA1, _, hc1⟩ := s1.at_ (k := 0) (by simpa [nums] using hp)
  obtain ⟨y2, b2, o2, hy2, hA2, _, hc2⟩ := s2.at_ (k := 0) (by simp [nums, en, hp])
  rw [eA, hA1] at hA2
  injection hA2 with hA2
  injection hA2 with e1 e2
  subst e1 e2
  have q := (hc1 0 _ rfl).symm.trans (hc2 0 _ rfl)
  obtain ⟨n, hn⟩ : ∃ n, g.ts[0]? = some n := ⟨_, List.getElem?_eq_getElem hp⟩
  obtain ⟨n', hn'⟩ : ∃ n, g'.ts[0]? = some n := ⟨_, List.getElem?_eq_getElem (by omega)⟩
  rw [nums_at hn] at hy1
  rw [nums_at hn'] at hy2
  cases hy1
  cases hy2
  have hnn : n = n' := by
    simp only [Option.some.injEq, Value.int.injEq, true_and] at q
    omega
  subst hnn
  have m1 := List.mem_of_getElem? hn
  have m2 := List.mem_of_getElem? hn'
  rw [hS.G.ts g hg] at m1
  rw [hS.G.ts g' hg'] at m2
  obtain ⟨_, x, hx, hc⟩ := mem_idxs.1 m1
  obtain ⟨_, x', hx', hc'⟩ := mem_idxs.1 m2
  rw [hx] at hx'
  cases hx'
  exact nodup_map_eq hS.G.nd hg hg' (hc.symm.trans hc')
theorem nodup_of_inj {α β : Type} {f : α → β} : ∀ {l : List α}, l.Nodup → (∀ a ∈ l, ∀ b ∈ l, f a = f b → a = b) → (l.map f).Nodup
  | [], _, _ => List.nodup_nil
  | x :: r, h, hi => by
    simp only [List.map_cons, List.nodup_cons] at h ⊢
    refine ⟨fun hm => ?_, nodup_of_inj h.2 (fun a ha b hb => hi a (by simp [ha]) b (by simp [hb]))⟩
    obtain ⟨y, hy, e⟩ := List.mem_map.1 hm
    exact h.1 (hi y (by simp [hy]) x (by simp) e ▸ hy)
theorem nodup_of_map {α β : Type} {f : α → β} : ∀ {l : List α}, (l.map f).Nodup → l.Nodup
  | [], _ => List.nodup_nil
  | x :: r, h => by
    simp only [List.map_cons, List.nodup_cons] at h ⊢
    exact ⟨fun hm => h.1 (List.mem_map.2 ⟨x, hm, rfl⟩), nodup_of_map h.2⟩
set_option maxRecDepth 100000 in
set_option maxHeartbeats 16000000 in
theorem poss_head (t : Tab) (SA : Option Addr) (sc : Nat) (sl : List Stn) (RA : Option Addr) (rc : Nat) (R : List Rep) (LA : Option Addr) (lc : Nat) (ll : List Trk) (w : World) (ht : Tab.ok w t) (hs : SliceOf.ok Stn.cells 3 Stn.ok w ⟨SA, sc, sl⟩) (hr : Slc w Rep.cells 6 RA R) (hl : SliceOf.ok Trk.cells 14 Trk.ok w ⟨LA, lc, ll⟩)
    (hsn : sl.length ≤ 100) (hrn : R.length ≤ 100) (hln : ll.length ≤ 100) : Calls Tryz.prog 11 #[t.v, .slice SA sl.length sc, .slice RA R.length rc, .slice LA ll.length lc] w (PossW w t sl R ll) := by
  have HT := Lib.hid ht
  have HS := Lib.hid hs
  have HR := Lib.hid hr
  have HL := Lib.hid hl
  obtain ⟨W0, hW0⟩ : ∃ W0, (w.alloc (.cells #[.int .i64 t.n, .slice t.ss.A t.ss.l.length t.ss.c, .slice t.cs.A t.cs.l.length t.cs.c, .slice t.ws.A t.ws.l.length t.ws.c, .slice t.ms.A t.ms.l.length t.ms.c, .slice t.ks.A t.ks.l.length t.ks.c] 28)).alloc (.cells #[.slice none 0 0] 34) = W0 := ⟨_, rfl⟩
  have E0 : Hid (Below w.heap.size w W0) := by rw [← hW0]; exact ext_alloc (ext_alloc (ext_refl w) _) _
  have BT : Hid (Blk W0 w.heap.size t.cells) := by rw [← hW0]; exact (Blk.newH w t.cells 28 w.heap.size rfl).alloc _
  have BP : Hid (Boxed W0 (w.heap.size + 1) 34 (.slice none 0 0)) := by
    rw [← hW0]
    have q := Boxed.new (w.alloc (.cells #[.int .i64 t.n, .slice t.ss.A t.ss.l.length t.ss.c, .slice t.cs.A t.cs.l.length t.cs.c, .slice t.ws.A t.ws.l.length t.ws.c, .slice t.ms.A t.ms.l.length t.ms.c, .slice t.ks.A t.ks.l.length t.ks.c] 28)) 34 (.slice none 0 0)
    rw [World.size_alloc] at q; exact q
  clear ht hs hr hl
  refine (callsIn_wide (n := 5)).1 ?_
  refine callsIn_of_wp_marks Tryz.func11 rfl trivial ?_ rfl
  simp only [Tryz.ntmps11, List.size_toArray, List.length_cons, List.length_nil, Nat.reduceAdd, Nat.reduceSub, Array.replicate_succ, Array.replicate_zero, List.push_toArray, List.append_toArray, List.nil_append, List.cons_append]
  have c0 := BT.out.c 0 _ rfl
  have c1 := BT.out.c 1 _ rfl
  have c2 := BT.out.c 2 _ rfl
  have c3 := BT.out.c 3 _ rfl
  have c4 := BT.out.c 4 _ rfl
  have c5 := BT.out.c 5 _ rfl
  have cl := BT.out.lt
  gi_wp2_with fail
  clear hW0 c0 c1 c2 c3 c4 c5 cl
  refine ⟨trivial, (callsIn_wide.2 (set_of t SA sc sl RA rc R LA lc ll W0 (HT.out.ext E0.out) (SliceOf.ok.ext HS.out E0.out (fun _ k => k.ext E0.out)) (HR.out.below (Nat.le_refl _) E0.out) (SliceOf.ok.ext HL.out E0.out (fun _ k => k.ext E0.out)) hsn (by omega) hln)).mono ?_⟩
  rintro e w1 ⟨B, (⟨he, rfl⟩ | ⟨he, X, rfl, hX, hSP⟩)⟩
  · obtain ⟨E, hE⟩ : ∃ E, askE t sl R ll = E := ⟨_, rfl⟩
    rw [hE] at he ⊢
    have HE := Lib.hid hE
    have HB := Lib.hid (ext_trans E0.out B)
    obtain ⟨W2, hW2⟩ : ∃ W2, w1.alloc (.cells #[.slice none 0 0, .map none, .int .i64 0, .int .i64 0, .int .i64 0, .int .i64 0, .int .i64 0, .int .i64 0, .int .i64 0, .int .i64 0, .slice none 0 0] 78) = W2 := ⟨_, rfl⟩
    have E2 : Hid (Below w.heap.size w W2) := by rw [← hW2]; exact ext_alloc HB.out _
    have BP2 : Hid (Boxed W2 (w.heap.size + 1) 34 (.slice none 0 0)) := by rw [← hW2]; exact Boxed.alloc ((B.block _ BP.out.lt).trans BP.out) _
    have p0 := BP2.out.cell
    have pf := BP2.out.frozen
    have pl := BP2.out.lt
    have ps := setCell_self p0
    have BZ : Blk W2 w1.heap.size [.slice none 0 0, .map none, .int .i64 0, .int .i64 0, .int .i64 0, .int .i64 0, .int .i64 0, .int .i64 0, .int .i64 0, .int .i64 0, .slice none 0 0] := by rw [← hW2]; exact Blk.newH w1 [.slice none 0 0, .map none, .int .i64 0, .int .i64 0, .int .i64 0, .int .i64 0, .int .i64 0, .int .i64 0, .int .i64 0, .int .i64 0, .slice none 0 0] 78 w1.heap.size rfl
    have z0 := BZ.c 0 _ rfl
    have s0 := setCell_self z0
    have z1 := BZ.c 1 _ rfl
    have s1 := setCell_self z1
    have z2 := BZ.c 2 _ rfl
    have s2 := setCell_self z2
    have z3 := BZ.c 3 _ rfl
    have s3 := setCell_self z3
    have z4 := BZ.c 4 _ rfl
    have s4 := setCell_self z4
    have z5 := BZ.c 5 _ rfl
    have s5 := setCell_self z5
    have z6 := BZ.c 6 _ rfl
    have s6 := setCell_self z6
    have z7 := BZ.c 7 _ rfl
    have s7 := setCell_self z7
    have z8 := BZ.c 8 _ rfl
    have s8 := setCell_self z8
    have z9 := BZ.c 9 _ rfl
    have s9 := setCell_self z9
    have z10 := BZ.c 10 _ rfl
    have s10 := setCell_self z10
    have zf := BZ.f
    have zl := BZ.lt
    clear hE B BZ
    unfold zScn
    gi_wp2_with fail
    refine ⟨.tuple #[.slice none 0 0, .int .i64 E], by simp [results, Tryz.results11, go_sem, *], ?_⟩
    exact ⟨E2.out, .inl ⟨by rw [HE.out]; exact he, by rw [HE.out]⟩⟩
  have HB1 := Lib.hid (ext_trans E0.out B)
  have HA := Lib.hid he
  have HX := Lib.hid hX
  have HSP := Lib.hid hSP
  have HN := Lib.hid (scene_num hSP he hrn)
  have HINJ : Hid (∀ g ∈ X.G, ∀ g' ∈ X.G, g.b = g'.b → g = g') := fun g hg g' hg' hb => grp_inj hX hSP HN.out hg hg' hb
  have HNDC : Hid (∀ g ∈ X.G, ∀ g' ∈ X.G, g.call = g'.call → g = g') := fun g hg g' hg' hb => nodup_map_eq hSP.G.nd hg hg' hb
  have HNDB : Hid ((X.G.map (·.b)).Nodup) := nodup_of_inj (nodup_of_map hSP.G.nd) HINJ.out
  obtain ⟨W2, hW2⟩ : ∃ W2, w1.alloc (.cells #[X.sv, .map (some X.m), .int .i64 X.lost.a, .int .i64 X.lost.b, .int .i64 X.lost.c, .int .i64 X.lost.d, .int .i64 X.bud.a, .int .i64 X.bud.b, .int .i64 X.bud.c, .int .i64 X.bud.d, X.hv] 78) = W2 := ⟨_, rfl⟩
  have E2 : Hid (Below w.heap.size w W2) := by rw [← hW2]; exact ext_alloc HB1.out _
  have HX2 : Hid (SceneOk W2 X) := by rw [← hW2]; exact HX.out.ext (ext_alloc (ext_refl _) _)
  have BX2 : Hid (Blk W2 w1.heap.size X.cells) := by rw [← hW2]; exact Blk.newH w1 X.cells 78 w1.heap.size rfl
  have BP2 : Hid (Boxed W2 (w.heap.size + 1) 34 (.slice none 0 0)) := by rw [← hW2]; exact Boxed.alloc ((B.block _ BP.out.lt).trans BP.out) _
  have XR2 : Hid (W2.heap[w1.heap.size]? = some (Obj.cells X.cells.toArray 78 (0, 0))) := by rw [← hW2]; exact World.alloc_heap_new w1 _
  have HBSZ : Hid (w.heap.size + 1 < w1.heap.size) := by have := BP.out.lt; have := B.size; unfold Hid; omega
  obtain ⟨bs, hbs⟩ : ∃ bs, w1.heap.size = bs := ⟨_, rfl⟩
  rw [hbs] at BX2 HBSZ XR2
  have x1 := BX2.out.c 1 _ rfl
  have xl := BX2.out.lt
  obtain ⟨o, hrg, -, hIt⟩ := HX2.out.g0.range Tryz.underlying74
  obtain ⟨W3, hW3⟩ : ∃ W3, W2.alloc o = W3 := ⟨_, rfl⟩
  rw [hW3] at hIt hrg
  have E3 : Hid (Below w.heap.size w W3) := by rw [← hW3]; exact ext_alloc E2.out _
  have E23 : Hid (Below W2.heap.size W2 W3) := by rw [← hW3]; exact ext_alloc (ext_refl _) _
  have HIT := Lib.hid hIt
  clear he hX hSP B HB1 HX E0 BT BP hIt
  gi_wp2_with fail
  clear hW2 hW3 hrg x1 xl
  gi_loopw [44] (fun _ wr => ∃ left : List (ByteArray × Value), Hid (GIter encC wr W2.heap.size X.m X.grps left) ∧ Hid (Below W2.heap.size W2 wr) ∧ Hid (∀ g ∈ X.G, g.call ∉ left.map (·.1) → cnt (grpM X g.ts) ≤ 4096)) (fun _ wr => gleft wr W2.heap.size)
  case atStart => exact ⟨X.grps, HIT, E23, fun g hg hn => absurd (List.mem_map.2 ⟨(g.call, gptr g.b), List.mem_map.2 ⟨g, hg, rfl⟩, rfl⟩) hn⟩
  case round =>
    obtain ⟨left, HI, EL, HC⟩ := hrel
    obtain ⟨wo, rfl⟩ : ∃ wo, wo = wr := ⟨_, rfl⟩
    clear HIT E23 E3
    have hgl := HI.out.gleft
    rcases HI.out.step (keyStr (P := Tryz.prog) Tryz.underlying9) 0 with ⟨rfl, hnx⟩ | ⟨p, W5, hp, hnx, hen, hI5, hlen, hst⟩
    · have HNB : Hid (∀ g ∈ X.G, cnt (grpM X g.ts) ≤ 4096) := fun g hg => HC.out g hg (by simp)
      clear hgl HI HC
      gi_wp2_with fail
      clear hnx
      have BPo : Hid (Boxed wo (w.heap.size + 1) 34 (.slice none 0 0)) := (EL.out.block _ BP2.out.lt).trans BP2.out
      have HXo := Lib.hid (HX2.out.ext EL.out)
      have BXo := Lib.hid (BX2.out.ext EL.out)
      have XRo : Hid (wo.heap[bs]? = some (Obj.cells X.cells.toArray 78 (0, 0))) := Below.cellsB EL.out XR2.out
      have Eo := Lib.hid (E2.out.trans (EL.out.mono E2.out.size))
      have hpb : w.heap.size + 1 < wo.heap.size := BPo.out.lt
      clear BP2 HX2 BX2 EL E2 XR2
      gi_loopw [52] (fun i wr => ∃ (k : Nat) (A : Option Addr) (c : Nat) (rows : List BR), k ≤ ll.length ∧ i = .int .i64 k ∧ Hid (Boxed wr (w.heap.size + 1) 34 (.slice A rows.length c)) ∧ Hid (Rows wr wo.heap.size (.slice A rows.length c) rows) ∧ Hid (rows.map (·.l) = (ll.take k).map (fun y => List.replicate y.ps.l.length false)) ∧ Hid (Below w.heap.size w wr) ∧ Hid (∀ b, b < wo.heap.size → b ≠ w.heap.size + 1 → wr.heap[b]? = wo.heap[b]?) ∧ Hid (wo.heap.size ≤ wr.heap.size)) (fun i _ => ll.length - (intOf i).toNat)
      case atStart => exact ⟨0, none, 0, [], by omega, rfl, BPo, ⟨Own.nil _ _ _ _ _, by simp, List.nodup_nil⟩, rfl, Eo, fun _ _ _ => rfl, Nat.le_refl _⟩
      case round =>
        obtain ⟨k, A, c, rows, hk, rfl, BPr, HRW, HLS, Er, HOL, HSZ⟩ := hrel
        obtain ⟨wa, rfl⟩ : ∃ wa, wa = wr := ⟨_, rfl⟩
        by_cases hlt : k < ll.length
        rotate_left
        · obtain rfl : k = ll.length := by omega
          have hkn : ¬ ((ll.length : Nat) : Int) < ll.length := by omega
          have hsl : X.st.map (fun r => r.l.length) = ll.map (fun y => y.ps.l.length) := by
            have := congrArg (List.map List.length) HSP.out.st
            simp only [Scn.stays, List.map_map, Function.comp_def, List.length_map] at this
            exact this
          have hrs : rows.map (·.l) = ll.map (fun y => List.replicate y.ps.l.length false) := by have := HLS.out; rwa [List.take_length] at this
          have hrl : rows.map (fun r => r.l.length) = X.st.map (fun r => r.l.length) := by
            have := congrArg (List.map List.length) hrs
            simp only [List.map_map, Function.comp_def, List.length_replicate] at this
            rw [hsl]; exact this
          have hrn : rows.length = X.st.length := by simpa using congrArg List.length hrl
          have hold : Holds rows (fun _ _ => False) := fun n r k x h1 h2 => by
            have hm : r.l ∈ rows.map (·.l) := List.mem_map.2 ⟨r, List.mem_of_getElem? h1, rfl⟩
            rw [hrs] at hm
            obtain ⟨y, _, e⟩ := List.mem_map.1 hm
            rw [← e] at h2
            have := List.mem_of_getElem? h2
            have := List.eq_of_mem_replicate this
            simp [this]
          have KT3 : KT wo wa := ⟨HSZ.out, fun b hb hn => by
            by_cases e : b = w.heap.size + 1
            · subst e
              exact absurd (hn _ _ _ BPo.out).2.1 (by simp)
            · exact HOL.out b hb e⟩
          have X3 : Hid (SceneOk wa X) := HXo.out.kt KT3
          have XR3 : Hid (wa.heap[bs]? = some (Obj.cells X.cells.toArray 78 (0, 0))) := (HOL.out bs (Array.getElem?_eq_some_iff.1 XRo.out).1 (by have := HBSZ.out; omega)).trans XRo.out
          have BP3 : Hid (wa.heap[w.heap.size + 1]? = some (Obj.cells #[.slice A X.st.length c] 34 (0, 0))) := by have h := BPr.out; rw [hrn] at h; exact h
          have RS3 : Hid (RS wa.heap.size wa wo.heap.size (.slice A X.st.length c) X rows (fun _ _ => False)) :=
            ⟨by have h := HRW.out; rw [hrn] at h; exact h, hrl, hold, fun b e => by have h := HRW.out; rw [hrn] at h; exact (h.o.lt b e).1, fun x hx => BR.lt (HRW.out.r x hx).2⟩
          have HSL := Lib.hid hsl
          have z4 : wa.cell? ⟨bs, 10, none⟩ = some X.hv := cellAt XR3.out 10 rfl
          have HZW : Hid (wo.heap.size ≤ wa.heap.size) := HSZ
          have HZO : Hid (w.heap.size + 1 < wo.heap.size) := hpb
          clear hsl hrs hrl hrn hold KT3 BPr HRW HLS HOL HSZ XRo HXo BXo BPo hpb
          gi_wp2_with fail
          clear z4
          refine loop3 (hc3 := by simp only [code5, code3, bodyC, Tryz.f11, sR, sL, bB, lB]) wa wa.heap.size wo.heap.size bs (w.heap.size + 1) sl.length A X.hA c X.hc X rows (hX := X3.out) (hxb := XR3.out) (hpb := BP3.out) (hN := HN.out) (hinj := HINJ.out) (hnd := HSP.out.G.nd) (hndb := HNDB.out) (hSA := rfl) (hSC := rfl) (hR := RS3.out) (hB := Nat.le_refl _) (hbase := HZW.out) (hQ := ?_)
          intro q17 q18 q20 q22 q23 q24 q25 q26 q27 q28 q67 q68 q69 q70 q71 q72 q73 q74 q75 q76 q77 q78 q79 q80 q81 q82 q83 q84 q85 q86 q87 q88 q89 q90 q91 q92 q93 q94 q95 q96 q97 q98 q99 q100 q101 q102 q103 q104 q105 q106 q107 q108 q109 q110 q111 q112 q113 q114 q115 q116 q117 q118 q119 q120 q121 q122 q123 q124 q125 q126 q127 q128 q129 q130 q131 q132 q133 q134 q135 q136 q137 q138 q139 q140 q141 q142 q143 q144 q145 q146 Ds9 rows9 w9 fd hF9 hK9 hB9 hR9 hD9
          have HF9 := Lib.hid hF9
          have HR9 := Lib.hid hR9
          have HD9 := Lib.hid hD9
          have hzw := HZW.out
          have hzo := HZO.out
          have P9 : Boxed w9 (w.heap.size + 1) 34 (.slice A X.st.length c) := hK9.cell BP3.out (by decide)
          have E9 : Hid (Below w.heap.size w w9) := Er.out.trans (hB9.mono (by omega))
          have hwz : wa.heap.size ≤ w9.heap.size := hK9.1
          clear hF9 hR9 hD9 hK9 hB9 X3 XR3 BP3 RS3
          cases fd with
          | false =>
            have p0 := P9.cell
            have pf := P9.frozen
            have pl := P9.lt
            have P10 := Lib.hid (P9.set (.slice none 0 0))
            have D10 : Hid (Dfs wa.heap.size Ds9 (w9.setCell ⟨w.heap.size + 1, 0, none⟩ (.slice none 0 0))) := by
              refine ⟨HD9.out.nd, fun D hD => ?_⟩
              obtain ⟨h1, h2, h3⟩ := HD9.out.ok D hD
              exact ⟨h1, by simpa [World.setCell] using h2, (Below.heap_setCell w9 _ _ D (by show D ≠ w.heap.size + 1; omega)).trans h3⟩
            have E10 : Hid (Below w.heap.size w (w9.setCell ⟨w.heap.size + 1, 0, none⟩ (.slice none 0 0))) := below_set E9.out _ _ (by show w.heap.size ≤ w.heap.size + 1; omega)
            have HNF : Hid (¬ ∃ h ∈ X.sh, FoundAt X h.l) := fun h => by simpa using HF9.out.2 h
            clear P9
            gi_wp2_with fail
            refine leaves_marks Ds9 _ D10.out (fun w' hb => ?_)
            have P11 : Boxed w' (w.heap.size + 1) 34 (.slice none 0 0) := (hb.block _ (by omega)).trans P10.out
            have p1 := P11.cell
            refine ⟨.tuple #[.slice none 0 0, .int .i64 240], by simp [results, Tryz.results11, go_sem, *], ?_⟩
            exact ⟨E10.out.trans (hb.mono (by omega)), .inr ⟨HA.out, X, HSP.out, HNDB.out, .inr (.inl ⟨HNB.out, HNF.out, rfl⟩)⟩⟩
          | true =>
            have p0 := P9.cell
            have pf := P9.frozen
            have pl := P9.lt
            have ps := setCell_self p0
            have P10 := Lib.hid P9
            have HFF : Hid (∃ h ∈ X.sh, FoundAt X h.l) := HF9.out.1 rfl
            clear P9
            gi_wp2_with fail
            refine leaves_marks Ds9 _ HD9.out (fun w' hb => ?_)
            have P11 : Boxed w' (w.heap.size + 1) 34 (.slice A X.st.length c) := (hb.block _ (by omega)).trans P10.out
            have R11 := HR9.out.low (W' := w') (fun k hk => hb.block k hk)
            have p1 := P11.cell
            have hrn := R11.len
            have hrs := R11.s
            refine ⟨.tuple #[.slice A X.st.length c, .int .i64 0], by simp [results, Tryz.results11, go_sem, *], ?_⟩
            exact ⟨E9.out.trans (hb.mono (by omega)), .inr ⟨HA.out, X, HSP.out, HNDB.out, .inr (.inr ⟨HNB.out, HFF.out, A, c, rows9, by rw [hrn], by
              rw [hrn]
              exact ⟨R11.r.o.low (by omega), fun x hx => ⟨by have := (R11.r.r x hx).1; omega, (R11.r.r x hx).2⟩, R11.r.nd⟩, by rw [hrs]; exact HSL.out, R11.h⟩)⟩⟩
        · have hTK := (show Slc w Trk.cells 14 LA ll from HL.out.slc).below (Nat.le_refl _) Er.out
          obtain ⟨y, yb, yo, hy, rfl, hyb, hyc⟩ := hTK.at_ hlt
          have d0 := hyc 0 _ rfl
          have d1 := hyc 1 _ rfl
          have d2 := hyc 2 _ rfl
          have d3 := hyc 3 _ rfl
          have d4 := hyc 4 _ rfl
          have d5 := hyc 5 _ rfl
          have d6 := hyc 6 _ rfl
          have d7 := hyc 7 _ rfl
          have d8 := hyc 8 _ rfl
          have d9 := hyc 9 _ rfl
          have d10 := hyc 10 _ rfl
          have d11 := hyc 11 _ rfl
          have d12 := hyc 12 _ rfl
          have d13 := hyc 13 _ rfl
          simp only [Nat.add_zero] at d0
          have hki : (k : Int) < ll.length := by omega
          have HY := Lib.hid hy
          obtain ⟨W6, hW6⟩ : ∃ W6, wa.alloc (.cells #[.int .i64 y.fl.id, .int .i64 y.fl.al, .int .i64 y.fl.cl, .string y.fl.call, .slice y.fl.ws.A y.fl.ws.n y.fl.ws.c, .int .i64 y.fl.wi.f, .int .i64 y.fl.wi.t, .bool y.fl.cn, .int .i64 y.op.de, .int .i64 y.op.way, .int .i64 y.op.ho, .bool y.op.cn, .slice y.ps.A y.ps.l.length y.ps.c, .slice y.po.A y.po.n y.po.c] 52) = W6 := ⟨_, rfl⟩
          have E6 : Hid (Below wa.heap.size wa W6) := by rw [← hW6]; exact ext_alloc (ext_refl _) _
          have BY6 : Hid (W6.heap[wa.heap.size]? = some (Obj.cells #[.int .i64 y.fl.id, .int .i64 y.fl.al, .int .i64 y.fl.cl, .string y.fl.call, .slice y.fl.ws.A y.fl.ws.n y.fl.ws.c, .int .i64 y.fl.wi.f, .int .i64 y.fl.wi.t, .bool y.fl.cn, .int .i64 y.op.de, .int .i64 y.op.way, .int .i64 y.op.ho, .bool y.op.cn, .slice y.ps.A y.ps.l.length y.ps.c, .slice y.po.A y.po.n y.po.c] 52 (0, 0))) := by rw [← hW6]; exact World.alloc_heap_new wa _
          clear hyc hy hTK
          gi_wp2_with fail
          clear hW6 d0 d1 d2 d3 d4 d5 d6 d7 d8 d9 d10 d11 d12 d13
          have hbr : w.heap.size + 1 < wa.heap.size := BPr.out.lt
          have B6 : Hid (Boxed W6 (w.heap.size + 1) 34 (.slice A rows.length c)) := (E6.out.block _ hbr).trans BPr.out
          have p6 := B6.out.cell
          have pl6 := B6.out.lt
          have t6 := cellAt BY6.out 12 (v := .slice y.ps.A y.ps.l.length y.ps.c) rfl
          have tl6 : wa.heap.size < W6.heap.size := (Array.getElem?_eq_some_iff.1 BY6.out).1
          have HPN : Hid (y.ps.l.length ≤ 4096) := by
            have := (wchk_trk (ask_ok HA.out).1).2.2 y (List.mem_of_getElem? HY.out)
            simp only [trkB, Bool.and_eq_true, decide_eq_true_eq] at this
            exact this.1.2
          have HRL : Hid (rows.length = k) := by have := congrArg List.length HLS.out; simp at this; unfold Hid; omega
          have hmk := mk50 y.ps.l.length (by have := HPN.out; omega)
          have HR6 := Lib.hid (HRW.out.ext E6.out)
          have K12 : ∀ {w9 : World}, (lit50 W6.drew y.ps.l.length).grownBy w9 (Value.slice A rows.length c).ownBlock → (w9.cell? ⟨w.heap.size + 1, 0, none⟩ = some (.slice A rows.length c) ∧ w9.cell? ⟨wa.heap.size, 12, none⟩ = some (.slice y.ps.A y.ps.l.length y.ps.c)) := fun hg => by
            have hE : Below W6.heap.size W6 (lit50 W6.drew y.ps.l.length) := ext_alloc (ext_alloc (ext_drew (ext_refl W6)) _) _
            have h1 : Boxed (lit50 W6.drew y.ps.l.length) (w.heap.size + 1) 34 (.slice A rows.length c) := (hE.block _ pl6).trans B6.out
            have h2 := (hE.block _ tl6).trans BY6.out
            have hO := (HR6.out.ext hE).o
            exact ⟨Boxed.cell (show Boxed _ _ _ _ from (hg.block _ (Nat.lt_of_lt_of_le pl6 hE.size) (fun e => hO.neB h1 (by decide) e.symm)).trans h1), cellAt ((hg.block _ (Nat.lt_of_lt_of_le tl6 hE.size) (fun e => hO.neB h2 (by decide) e.symm)).trans h2) 12 rfl⟩
          have K13 : ∀ {w9 : World}, (lit50 W6.drew y.ps.l.length).grownBy w9 (Value.slice A rows.length c).ownBlock → Boxed w9 (w.heap.size + 1) 34 (.slice A rows.length c) := fun hg => by
            have hE : Below W6.heap.size W6 (lit50 W6.drew y.ps.l.length) := ext_alloc (ext_alloc (ext_drew (ext_refl W6)) _) _
            have h1 : Boxed (lit50 W6.drew y.ps.l.length) (w.heap.size + 1) 34 (.slice A rows.length c) := (hE.block _ pl6).trans B6.out
            exact (hg.block _ (Nat.lt_of_lt_of_le pl6 hE.size) (fun e => (HR6.out.ext hE).o.neB h1 (by decide) e.symm)).trans h1
          refine region_in ?_
          refine rg_begin (S := (fun w' => w'.cell? ⟨w.heap.size + 1, 0, none⟩ = some (.slice A rows.length c) ∧ w'.cell? ⟨wa.heap.size, 12, none⟩ = some (.slice y.ps.A y.ps.l.length y.ps.c))) 7 (by kernel_rfl) (by intro d; cases d <;> intro _ _ _ _ h <;> exact h) ?_ (fun Q7 hQ7 hN7 hHeld => ?_)
          · exact ⟨(Below.cell (ext_drew (ext_refl W6)) (p := ⟨w.heap.size + 1, 0, none⟩) pl6).trans p6, (Below.cell (ext_drew (ext_refl W6)) (p := ⟨wa.heap.size, 12, none⟩) tl6).trans t6⟩
          refine rgT 0 (some 56) hQ7 hHeld ?_; refine rgT 1 (some 57) hQ7 hHeld ?_; refine rgT 2 (some 58) hQ7 hHeld ?_; refine rgT 3 (some 59) hQ7 hHeld ?_
          refine rg_one (i := 4) (by kernel_rfl) (rg_step rfl (by rfl) (fun K hK => ?_))
          go_simp
          refine hK.out _ _ ?_ (fun hHeld2 => ?_)
          · exact ⟨(Below.cell (ext_alloc (ext_drew (ext_refl W6)) _) (p := ⟨w.heap.size + 1, 0, none⟩) pl6).trans p6, (Below.cell (ext_alloc (ext_drew (ext_refl W6)) _) (p := ⟨wa.heap.size, 12, none⟩) tl6).trans t6⟩
          clear hHeld
          have hHeld := hHeld2
          clear hHeld2
          clear hK K
          try simp only [Act.put, List.setIfInBounds_toArray, List.set_cons_zero, List.set_cons_succ]
          refine rg_one (i := 5) (by kernel_rfl) (rg_step rfl (by rfl) (fun K hK => ?_))
          go_simp
          refine hK.out _ _ ?_ (fun hHeld2 => ?_)
          · exact ⟨(Below.cell (ext_alloc (ext_alloc (ext_drew (ext_refl W6)) _) _) (p := ⟨w.heap.size + 1, 0, none⟩) pl6).trans p6, (Below.cell (ext_alloc (ext_alloc (ext_drew (ext_refl W6)) _) _) (p := ⟨wa.heap.size, 12, none⟩) tl6).trans t6⟩
          clear hHeld
          have hHeld := hHeld2
          clear hHeld2
          clear hK K
          try simp only [Act.put, List.setIfInBounds_toArray, List.set_cons_zero, List.set_cons_succ]
          refine rg_one (i := 6) (by kernel_rfl) (rg_step rfl (by rfl) (fun K hK => ?_))
          refine rg_append (some 62) _ _ 34 34 rfl rfl rfl _ _ rfl rfl (rows_push (W := W6.drew) (HR6.out.ext (ext_drew (ext_refl W6))) (by rw [HRL.out]; omega) y.ps.l.length (Nat.le_trans HSZ.out E6.out.size)) ?_
          rintro _ w9 ⟨A9, c9, rfl, hR9, hg9, hE9⟩
          refine hK.out _ _ ?_ (fun hHeld2 => ?_)
          · exact K12 hg9
          clear hHeld
          have hHeld := hHeld2
          clear hHeld2
          clear hK K
          try simp only [Act.put, List.setIfInBounds_toArray, List.set_cons_zero, List.set_cons_succ]
          have hB9 := K13 hg9
          have y0 := hB9.cell
          have yf := hB9.frozen
          have yl := hB9.lt
          refine rg_one (i := 7) (by kernel_rfl) (rg_late rfl (by rfl) (by kernel_rfl) (fun K hK => ?_))
          go_simp
          refine hK.out _ _ ?_
          clear hK K
          try simp only [Act.put, List.setIfInBounds_toArray, List.set_cons_zero, List.set_cons_succ]
          refine rg_end (by kernel_rfl) (hN7 _ _ ?_) _
          clear hQ7 hN7 Q7
          refine onlyN ?_
          have hE : Below W6.heap.size W6 (lit50 W6.drew y.ps.l.length) := ext_alloc (ext_alloc (ext_drew (ext_refl W6)) _) _
          have hown : ∀ r, (Value.slice A rows.length c).ownBlock = some r → wo.heap.size ≤ r := fun r e => (HRW.out.o.lt r e).2
          have hpo : w.heap.size ≤ wo.heap.size := Eo.out.size
          have hsz := HSZ.out
          have hs6 := E6.out.size
          have B10 := Lib.hid (hB9.set (.slice A9 (rows.length + 1) c9))
          have R10 := Lib.hid (hR9.far_set (p := ⟨w.heap.size + 1, 0, none⟩) (u := .slice A9 (rows.length + 1) c9) hpb)
          have L10 : Hid ((rows ++ [(⟨W6.drew.heap.size, List.replicate y.ps.l.length false⟩ : BR)]).map (·.l) = (ll.take (k + 1)).map (fun y => List.replicate y.ps.l.length false)) := by
            unfold Hid
            rw [take_snoc2 HY.out, List.map_append, List.map_append, HLS.out]; rfl
          have E10 : Hid (Below w.heap.size w (w9.setCell ⟨w.heap.size + 1, 0, none⟩ (.slice A9 (rows.length + 1) c9))) :=
            below_set (((Er.out.trans (E6.out.mono Er.out.size)).trans (hE.mono (by have := Er.out.size; omega))).grown hg9 (by have := hE.size; have := Er.out.size; omega) (fun r e => Nat.le_trans hpo (hown r e))) _ _ (by show w.heap.size ≤ w.heap.size + 1; omega)
          have O10 : Hid (∀ b, b < wo.heap.size → b ≠ w.heap.size + 1 → (w9.setCell ⟨w.heap.size + 1, 0, none⟩ (.slice A9 (rows.length + 1) c9)).heap[b]? = wo.heap[b]?) := fun b hb hne =>
            (Below.heap_setCell _ _ _ b hne).trans ((hg9.block b (by have := hE.size; omega) (fun e => by have := hown b e.symm; omega)).trans ((hE.block b (by omega)).trans ((E6.out.block b (by omega)).trans (HOL.out b hb hne))))
          have Z10 : Hid (wo.heap.size ≤ (w9.setCell ⟨w.heap.size + 1, 0, none⟩ (.slice A9 (rows.length + 1) c9)).heap.size) := by
            have := hg9.size; have := hE.size; unfold Hid; simp [World.setCell]; omega
          clear hE hB9 hR9 hg9 hE9 y0 yf yl K12 K13 hmk p6 pl6 t6 tl6
          gi_wp2_with fail
          go_roundw
          case rel => exact ⟨k + 1, A9, c9, rows ++ [⟨W6.drew.heap.size, List.replicate y.ps.l.length false⟩], hlt, by go_num, by rw [List.length_append]; exact B10.out, by rw [List.length_append]; exact R10.out, L10, E10, O10, Z10⟩
          case measure => simp [intOf]; omega
    · obtain ⟨g, hg, rfl⟩ := mem_grps (HI.out.sub p hp)
      have hgl5 := hI5.gleft
      dsimp only at hnx hen hI5 hlen hgl5
      have HKEY := Lib.hid (fun x => mem_filter_key (l := left) (p := g.call) (a := x))
      have HLT : Hid (gleft W5 W2.heap.size < gleft wo W2.heap.size) := by unfold Hid; rw [hgl5, hgl]; omega
      obtain ⟨left5, hl5⟩ : ∃ q, left.filter (fun q => !decide (q.1 = g.call)) = q := ⟨_, rfl⟩
      rw [hl5] at hI5 HKEY
      have HI5 := Lib.hid hI5
      have E5 := Lib.hid (hst.below EL.out (Nat.le_refl _))
      have HX5 := Lib.hid (HX2.out.ext E5.out)
      have BX5 := BX2.out.ext E5.out
      have y0 := BX5.c 0 _ rfl
      have y1 := BX5.c 1 _ rfl
      have y2 := BX5.c 2 _ rfl
      have y3 := BX5.c 3 _ rfl
      have y4 := BX5.c 4 _ rfl
      have y5 := BX5.c 5 _ rfl
      have y6 := BX5.c 6 _ rfl
      have y7 := BX5.c 7 _ rfl
      have y8 := BX5.c 8 _ rfl
      have y9 := BX5.c 9 _ rfl
      have y10 := BX5.c 10 _ rfl
      obtain ⟨B, hB⟩ : ∃ B, decide (4096 < cnt (grpM X g.ts)) = B := ⟨_, rfl⟩
      have HBB := Lib.hid hB
      have HMA := Lib.hid (many_of X g.b g.tA g.rA g.tc g.rc g.call g.ts g.rs W5 HX5.out hg (by have := HN.out.tl g hg; omega) (grp_row HN.out hg) B hB)
      have HG := Lib.hid hg
      clear hgl hgl5 hp hI5 hlen hst hl5 BX5 hB hg HI EL
      gi_wp2_with fail
      refine ⟨trivial, (callsIn_wide.2 HMA.out).mono ?_⟩
      rintro e W6 ⟨rfl, B6⟩
      clear y0 y1 y2 y3 y4 y5 y6 y7 y8 y9 y10 hnx hen HMA
      have E6 := Lib.hid (E5.out.trans (B6.mono E5.out.size))
      cases B with
      | true =>
        have BP6 : Hid (Boxed W6 (w.heap.size + 1) 34 (.slice none 0 0)) := (E6.out.block _ BP2.out.lt).trans BP2.out
        have p0 := BP6.out.cell
        have pf := BP6.out.frozen
        have pl := BP6.out.lt
        have ps := setCell_self p0
        gi_wp2_with fail
        refine ⟨.tuple #[.slice none 0 0, .int .i64 2], by simp [results, Tryz.results11, go_sem, *], ?_⟩
        exact ⟨E2.out.trans (E6.out.mono E2.out.size), .inr ⟨HA.out, X, HSP.out, HNDB.out, .inl ⟨⟨g, HG.out, of_decide_eq_true HBB.out⟩, rfl⟩⟩⟩
      | false =>
        have HI6 := Lib.hid (HI5.out.ext B6)
        have HM6 : Hid (gleft W6 W2.heap.size < gleft wo W2.heap.size) := by
          unfold Hid; rw [HI6.out.gleft, ← HI5.out.gleft]; exact HLT.out
        gi_wp2_with fail
        go_roundw
        case rel => exact ⟨left5, HI6, E6, fun q hq hn => by
          by_cases hc : q.call = g.call
          · obtain rfl := HNDC.out q hq g HG.out hc
            exact Nat.le_of_not_lt (of_decide_eq_false HBB.out)
          · exact HC.out q hq (fun h => hn ((HKEY.out q.call).2 ⟨h, hc⟩))⟩
        case measure => exact HM6.out
end Go.Proofs.YtjiojpoiocdnmaaGreat
