/- vectors: the counts of a group that fit the budget. -/
import Derived.Test.YtjiojpoiocdnmaaGreatME
set_option linter.unusedSimpArgs false
set_option linter.unusedVariables false
namespace Go.Proofs.YtjiojpoiocdnmaaGreat
open Go.RowKit Go.Shelf Go.ChangeMaps
attribute [local go_sem] Oper.semAt_some
/-- What a map of vectors holds when the choices of pre have been tried. -/
structure VSpec (X : Scn) (g : Grp) (shs : List Int) (pre : List (List Nat)) (L : List (V4 × Value)) : Prop where
  t : ∀ p ∈ L, p.2 = .bool true
  k : ∀ v, v ∈ L.map (·.1) ↔ ∃ x ∈ pre, wrongV X.stays g.ts g.rs (nums x) shs = v ∧ v.leB X.bud = true
theorem VSpec.nil (X : Scn) (g : Grp) (shs : List Int) : VSpec X g shs [] [] := ⟨by simp, by simp⟩
theorem VSpec.skip {X : Scn} {g : Grp} {shs : List Int} {pre : List (List Nat)} {L : List (V4 × Value)} (h : VSpec X g shs pre L) {x : List Nat} {z : V4} (hz : wrongV X.stays g.ts g.rs (nums x) shs = z) (hn : z.leB X.bud = false) : VSpec X g shs (pre ++ [x]) L :=
  ⟨h.t, fun v => by
    rw [h.k]
    constructor
    · rintro ⟨y, hy, e⟩; exact ⟨y, by simp [hy], e⟩
    · rintro ⟨y, hy, e1, e2⟩
      rcases List.mem_append.1 hy with h1 | h1
      · exact ⟨y, h1, e1, e2⟩
      · rw [List.mem_singleton] at h1; subst h1; rw [hz] at e1; subst e1; rw [hn] at e2; cases e2⟩
theorem VSpec.add {X : Scn} {g : Grp} {shs : List Int} {pre : List (List Nat)} {L : List (V4 × Value)} (h : VSpec X g shs pre L) (hnd : (L.map (·.1)).Nodup) {x : List Nat} {z : V4} (hz : wrongV X.stays g.ts g.rs (nums x) shs = z) (hn : z.leB X.bud = true) : VSpec X g shs (pre ++ [x]) (put L z (.bool true)) :=
  ⟨fun p hp => by
    rcases (mem_put hnd).1 hp with rfl | ⟨h1, _⟩
    · rfl
    · exact h.t p h1, fun v => by
    rw [put_keys]
    have hk : ∀ l : List V4, (v ∈ (if z ∈ L.map (·.1) then L.map (·.1) else L.map (·.1) ++ [z])) ↔ (v ∈ L.map (·.1) ∨ v = z) := fun _ => by
      split
      · rename_i h1
        exact ⟨.inl, fun e => e.elim id (fun e => e ▸ h1)⟩
      · simp
    rw [hk [], h.k]
    constructor
    · rintro (⟨y, hy, e⟩ | rfl)
      · exact ⟨y, by simp [hy], e⟩
      · exact ⟨x, by simp, hz, hn⟩
    · rintro ⟨y, hy, e1, e2⟩
      rcases List.mem_append.1 hy with h1 | h1
      · exact .inl ⟨y, h1, e1, e2⟩
      · rw [List.mem_singleton] at h1; subst h1; exact .inr (e1.symm.trans hz)⟩
theorem comb_pks {X : Scn} {ts : List Nat} (hn : ∀ n ∈ ts, n < X.st.length) {x : List Nat} (h : x ∈ comb (grpM X ts)) : Pks X.stays ts (nums x) := by
  have hc := comb_choice h
  refine ⟨by simp [nums, hc.1, grpM], fun i n k h1 h2 => ?_⟩
  unfold nums at h2
  rw [List.getElem?_map] at h2
  obtain ⟨q, hq, rfl⟩ := Option.map_eq_some_iff.1 h2
  have hlt := hn n (List.mem_of_getElem? h1)
  refine ⟨by omega, X.st[n].l.map (·.l), by simp [Scn.stays, hlt], ?_⟩
  have := hc.2 i (rowN X n) q (by simp [grpM, h1]) hq
  simp [rowN, hlt] at this
  simp; omega
theorem prefix_mem {α : Type} {pre es : List α} {x : α} (h : pre ++ [x] <+: es) : x ∈ es := h.subset (by simp)
theorem kf_below {B : Nat} {W W' : World} (h : Below W.heap.size W W') : KeepsFrom B W W' := ⟨h.size, fun k o _ hk _ => (h.block k (Array.getElem?_eq_some_iff.1 hk).1).trans hk⟩
theorem KC.sb {W : World} {b : Nat} {ob : Obj} (o : Obj) (h : W.heap[b]? = some ob) (hc : ob.isCells = false) : KC W (setBlock W b o) :=
  ⟨by rw [sb_size]; exact Nat.le_refl _, fun k c e f hk _ => by
    by_cases q : k = b
    · subst q; rw [h] at hk; cases hk; cases hc
    · exact (sb_other W o q).trans hk⟩
set_option maxRecDepth 100000 in
set_option maxHeartbeats 16000000 in
theorem vectors_of (X : Scn) (g : Grp) (A : Option Addr) (c : Nat) (shs : List Int) (w : World) (hg : g ∈ X.G) (hX : SceneOk w X) (hN : SceneN X shs.length) (hs : Slc w ic 1 A shs) (hsh : ∀ s ∈ shs, -3 ≤ s ∧ s ≤ 3) (hrow : ∀ i ∈ g.ts, ∃ r, X.st[i]? = some r ∧ 0 < r.l.length ∧ r.l.length ≤ 4096) :
    Calls Tryz.prog 25 #[.agg #[X.sv, .map (some X.m), .int .i64 X.lost.a, .int .i64 X.lost.b, .int .i64 X.lost.c, .int .i64 X.lost.d, .int .i64 X.bud.a, .int .i64 X.bud.b, .int .i64 X.bud.c, .int .i64 X.bud.d, X.hv], gptr g.b, .slice A shs.length c] w fun e w' => ∃ b L, e = .returned (.map (some b)) ∧ w.heap.size ≤ b ∧ GMap V4.v w' b L ∧ VSpec X g shs (comb (grpM X g.ts)) L ∧ Below w.heap.size w w' := by
  have HX := Lib.hid hX
  have HN := Lib.hid hN
  have HS := Lib.hid hs
  have HSH := Lib.hid hsh
  have HROW := Lib.hid hrow
  have HG := Lib.hid hg
  clear hX hN hs hsh hrow hg
  obtain ⟨W, hW⟩ : ∃ W, ((((w.alloc (.cells #[X.sv, .map (some X.m), .int .i64 X.lost.a, .int .i64 X.lost.b, .int .i64 X.lost.c, .int .i64 X.lost.d, .int .i64 X.bud.a, .int .i64 X.bud.b, .int .i64 X.bud.c, .int .i64 X.bud.d, X.hv] 78)).alloc (.cells #[gptr g.b] 81)).alloc (.cells #[.slice A shs.length c] 39)).alloc (.map #[] 0)).alloc (.cells #[.map (some (w.heap.size + 1 + 1 + 1))] 84) = W := ⟨_, rfl⟩
  have BX : Hid (Blk W w.heap.size X.cells) := by rw [← hW]; exact ((((Blk.newH w X.cells 78 w.heap.size rfl).alloc _).alloc _).alloc _).alloc _
  have BG : Hid (Boxed W (w.heap.size + 1) 81 (gptr g.b)) := by
    rw [← hW]
    have q := Boxed.new (w.alloc (.cells #[X.sv, .map (some X.m), .int .i64 X.lost.a, .int .i64 X.lost.b, .int .i64 X.lost.c, .int .i64 X.lost.d, .int .i64 X.bud.a, .int .i64 X.bud.b, .int .i64 X.bud.c, .int .i64 X.bud.d, X.hv] 78)) 81 (gptr g.b)
    rw [World.size_alloc] at q; exact ((q.alloc _).alloc _).alloc _
  have BS : Hid (Boxed W (w.heap.size + 1 + 1) 39 (.slice A shs.length c)) := by
    rw [← hW]
    have q := Boxed.new ((w.alloc (.cells #[X.sv, .map (some X.m), .int .i64 X.lost.a, .int .i64 X.lost.b, .int .i64 X.lost.c, .int .i64 X.lost.d, .int .i64 X.bud.a, .int .i64 X.bud.b, .int .i64 X.bud.c, .int .i64 X.bud.d, X.hv] 78)).alloc (.cells #[gptr g.b] 81)) 39 (.slice A shs.length c)
    rw [World.size_alloc, World.size_alloc] at q; exact (q.alloc _).alloc _
  have BL : Hid (GMap V4.v W (w.heap.size + 1 + 1 + 1) []) := by
    rw [← hW]
    have q := GMap.made (enc := V4.v) (((w.alloc (.cells #[X.sv, .map (some X.m), .int .i64 X.lost.a, .int .i64 X.lost.b, .int .i64 X.lost.c, .int .i64 X.lost.d, .int .i64 X.bud.a, .int .i64 X.bud.b, .int .i64 X.bud.c, .int .i64 X.bud.d, X.hv] 78)).alloc (.cells #[gptr g.b] 81)).alloc (.cells #[.slice A shs.length c] 39))
    simp only [World.size_alloc] at q; exact q.ext (ext_alloc (ext_refl _) _)
  have BM : Hid (Boxed W (w.heap.size + 1 + 1 + 1 + 1) 84 (.map (some (w.heap.size + 1 + 1 + 1)))) := by
    rw [← hW]
    have q := Boxed.new ((((w.alloc (.cells #[X.sv, .map (some X.m), .int .i64 X.lost.a, .int .i64 X.lost.b, .int .i64 X.lost.c, .int .i64 X.lost.d, .int .i64 X.bud.a, .int .i64 X.bud.b, .int .i64 X.bud.c, .int .i64 X.bud.d, X.hv] 78)).alloc (.cells #[gptr g.b] 81)).alloc (.cells #[.slice A shs.length c] 39)).alloc (.map #[] 0)) 84 (.map (some (w.heap.size + 1 + 1 + 1)))
    simp only [World.size_alloc] at q; exact q
  have EW : Hid (Below w.heap.size w W) := by rw [← hW]; exact ext_alloc (ext_alloc (ext_alloc (ext_alloc (ext_alloc (ext_refl w) _) _) _) _) _
  have hzW : W.heap.size = w.heap.size + 1 + 1 + 1 + 1 + 1 := by rw [← hW]; simp
  have x0 := BX.out.c 0 _ rfl
  have x1 := BX.out.c 1 _ rfl
  have x2 := BX.out.c 2 _ rfl
  have x3 := BX.out.c 3 _ rfl
  have x4 := BX.out.c 4 _ rfl
  have x5 := BX.out.c 5 _ rfl
  have x6 := BX.out.c 6 _ rfl
  have x7 := BX.out.c 7 _ rfl
  have x8 := BX.out.c 8 _ rfl
  have x9 := BX.out.c 9 _ rfl
  have x10 := BX.out.c 10 _ rfl
  have x11 := BG.out.cell
  have HZW := Lib.hid hzW
  clear hzW
  refine (callsIn_wide (n := 5)).1 ?_
  refine callsIn_of_wp_marks Tryz.func25 rfl trivial ?_ rfl
  simp only [Tryz.ntmps25, List.size_toArray, List.length_cons, List.length_nil, Nat.reduceAdd, Nat.reduceSub, Array.replicate_succ, Array.replicate_zero, List.push_toArray, List.append_toArray, List.nil_append, List.cons_append]
  have hmk := mk84
  gi_wp2_with fail
  refine ⟨trivial, (callsIn_wide.2 (combs_at X g.b _)).mono ?_⟩
  rintro e w2' ⟨rfl, rfl⟩
  clear hmk hW x0 x1 x2 x3 x4 x5 x6 x7 x8 x9 x10 x11
  gi_wp2_with fail
  have HCP := Lib.hid ((HX.out.ext EW.out).cap HG.out)
  obtain ⟨w2, hw2⟩ : ∃ w2, (W.alloc (.cells X.cells.toArray 78)).alloc (.cells #[gptr g.b] 81) = w2 := ⟨_, rfl⟩
  have EZ : Hid (Below W.heap.size W w2) := by rw [← hw2]; exact ext_alloc (ext_alloc (ext_refl W) _) _
  have hz2 : w2.heap.size = W.heap.size + 2 := by rw [← hw2]; simp
  rw [hw2] at HCP
  try rw [hw2]
  clear hw2
  have hzW := HZW.out
  refine wpIn_rangeFunc_buf (F := Fence.wide) rfl (by decide) (gf := 52) (lb := #[.pointer (some ⟨W.heap.size + 1, 0, none⟩), .pointer (some ⟨W.heap.size, 0, none⟩)]) rfl trivial (enters_of Tryz.func52 (by kernel_rfl) rfl)
    (comb_seq 4 (by decide) (W.heap.size + 1) W.heap.size X g (by have := HN.out.tl g HG.out; omega) HROW.out w2 HCP.out) rfl
    (fun pre V => Hid (Below w.heap.size w V) ∧ Hid (Blk V w.heap.size X.cells) ∧ Hid (Boxed V (w.heap.size + 1) 81 (gptr g.b)) ∧ Hid (Boxed V (w.heap.size + 1 + 1) 39 (.slice A shs.length c)) ∧ Hid (Boxed V (w.heap.size + 1 + 1 + 1 + 1) 84 (.map (some (w.heap.size + 1 + 1 + 1)))) ∧ ∃ L, Hid (GMap V4.v V (w.heap.size + 1 + 1 + 1) L) ∧ Hid (VSpec X g shs pre L))
    (fun s V V' hs hV hb => by
      obtain ⟨h1, h2, h3, h4, h5, L, h6, h7⟩ := hs
      exact ⟨h1.out.trans (hb.mono (by omega)), h2.out.keepB (hb.block _ (by omega)), (hb.block _ (by omega)).trans h3.out, (hb.block _ (by omega)).trans h4.out, (hb.block _ (by omega)).trans h5.out, L, h6.out.of_block (hb.block _ (by omega)), h7⟩)
    ⟨EW.out.trans (EZ.out.mono EW.out.size), BX.out.ext EZ.out, (EZ.out.block _ (by omega)).trans BG.out, (EZ.out.block _ (by omega)).trans BS.out, (EZ.out.block _ (by omega)).trans BM.out, [], BL.out.ext EZ.out, VSpec.nil X g shs⟩
    ?round ?done
  case round =>
    rintro l pre x W0 V K hl hlr ⟨E, BX2, BG2, BS2, BM2, L, HL, HV⟩ hpre hsz hrow hK
    have HPRE := Lib.hid hpre
    have HZ2 := Lib.hid hz2
    have HXV := Lib.hid (HX.out.ext E.out)
    have HWC := Lib.hid (wrong_any X g HG.out (some ⟨w2.heap.size + 2, 0, none⟩) g.ts.length g.ts.length (nums x) A shs.length c shs V (own_lenN hrow ▸ by simp [nums]) rfl HXV.out (hrow.slc (fun _ => rfl) (by decide)) (HS.out.ext E.out) (comb_pks (HN.out.tn g HG.out) (prefix_mem hpre)) (HN.out.rs g HG.out) HSH.out (by have := HN.out.tl g HG.out; omega) (by have := HN.out.rl g HG.out; omega))
    obtain ⟨z, hz⟩ : ∃ z, wrongV X.stays g.ts g.rs (nums x) shs = z := ⟨_, rfl⟩
    have HZ := Lib.hid hz
    rw [hz] at HWC
    obtain ⟨r, hr⟩ : ∃ r, z.leB X.bud = r := ⟨_, rfl⟩
    have HR := Lib.hid hr
    have HSZ := Lib.hid hsz
    clear hpre hrow hz hr hl hlr hz2 hzW hsz
    have x0 := BX2.out.c 0 _ rfl
    have x1 := BX2.out.c 1 _ rfl
    have x2 := BX2.out.c 2 _ rfl
    have x3 := BX2.out.c 3 _ rfl
    have x4 := BX2.out.c 4 _ rfl
    have x5 := BX2.out.c 5 _ rfl
    have x6 := BX2.out.c 6 _ rfl
    have x7 := BX2.out.c 7 _ rfl
    have x8 := BX2.out.c 8 _ rfl
    have x9 := BX2.out.c 9 _ rfl
    have x10 := BX2.out.c 10 _ rfl
    have x11 := BG2.out.cell
    have x12 := BS2.out.cell
    have HK := Lib.hid hK
    clear hK
    gi_wp2_with fail
    refine HK.out _ ?_
    clear HK K
    gi_wp2_with fail
    refine ⟨trivial, (CallsIn.inRound l (callsIn_wide.2 HWC.out)).mono ?_⟩
    rintro e u1 ⟨rfl, B1⟩
    clear x0 x1 x2 x3 x4 x5 x6 x7 x8 x9 x10 x11 x12 HWC
    obtain ⟨V1, hV1⟩ : ∃ V1, u1.alloc (.cells #[.int .i64 z.a, .int .i64 z.b, .int .i64 z.c, .int .i64 z.d] 76) = V1 := ⟨_, rfl⟩
    have EV1 : Hid (Below V.heap.size V V1) := by rw [← hV1]; exact ext_alloc B1 _
    have BZ : Hid (Blk V1 u1.heap.size z.cells) := by rw [← hV1]; exact Blk.newH u1 z.cells 76 u1.heap.size rfl
    have BXV := BX2.out.ext EV1.out
    have BZZ := BZ.out
    have y0 := BZZ.c 0 _ rfl
    have y1 := BZZ.c 1 _ rfl
    have y2 := BZZ.c 2 _ rfl
    have y3 := BZZ.c 3 _ rfl
    have x6 := BXV.c 6 _ rfl
    have x7 := BXV.c 7 _ rfl
    have x8 := BXV.c 8 _ rfl
    have x9 := BXV.c 9 _ rfl
    clear BXV BZZ B1
    gi_wp2_with fail
    refine ⟨trivial, (CallsIn.inRound l (callsIn_wide.2 (vin_at r HR.out))).mono ?_⟩
    rintro e u2 ⟨rfl, B2⟩
    clear y0 y1 y2 y3 x6 x7 x8 x9 hV1
    have E2 := Lib.hid (EV1.out.trans (B2.mono EV1.out.size))
    have BZ2 := BZ.out.ext B2
    have y0 := BZ2.c 0 _ rfl
    have y1 := BZ2.c 1 _ rfl
    have y2 := BZ2.c 2 _ rfl
    have y3 := BZ2.c 3 _ rfl
    clear BZ2
    have x13 := Boxed.cell (show Boxed u2 (w.heap.size + 1 + 1 + 1 + 1) 84 (.map (some (w.heap.size + 1 + 1 + 1))) from (E2.out.block _ BM2.out.lt).trans BM2.out)
    have hwm : w.heap.size + 1 + 1 + 1 < w2.heap.size := by have := HZ2.out; have := HZW.out; omega
    cases r with
    | false =>
      have HOUT : Hid (bufPost w2.heap.size (fun pre V => Hid (Below w.heap.size w V) ∧ Hid (Blk V w.heap.size X.cells) ∧ Hid (Boxed V (w.heap.size + 1) 81 (gptr g.b)) ∧ Hid (Boxed V (w.heap.size + 1 + 1) 39 (.slice A shs.length c)) ∧ Hid (Boxed V (w.heap.size + 1 + 1 + 1 + 1) 84 (.map (some (w.heap.size + 1 + 1 + 1)))) ∧ ∃ L, Hid (GMap V4.v V (w.heap.size + 1 + 1 + 1) L) ∧ Hid (VSpec X g shs pre L)) (pre ++ [x]) V Exit.normal { tmps := #[], defers := [] } u2) :=
        ⟨kf_below E2.out, KC.below E2.out, E.out.trans (E2.out.mono E.out.size), BX2.out.ext E2.out, (E2.out.block _ BG2.out.lt).trans BG2.out, (E2.out.block _ BS2.out.lt).trans BS2.out, (E2.out.block _ BM2.out.lt).trans BM2.out, L, HL.out.ext E2.out, HV.out.skip HZ.out HR.out⟩
      clear y0 y1 y2 y3 x13
      gi_wp2_with fail
      exact HOUT.out
    | true =>
      obtain ⟨o, hput, hM', ho⟩ := (HL.out.ext E2.out).upd key76 Tryz.underlying84 z (.bool true) trivial (fun _ _ => trivial)
      have hput' : (Instr.mapUpdate 84 (.map (some (w.heap.size + 1 + 1 + 1))) (.agg #[.int .i64 z.a, .int .i64 z.b, .int .i64 z.c, .int .i64 z.d]) (.bool true)).run Tryz.prog u2 = .ok () (setBlock u2 (w.heap.size + 1 + 1 + 1) o) := hput
      obtain ⟨ob, hob, hoc⟩ := gmap_obj (HL.out.ext E2.out)
      have HOUT : Hid (bufPost w2.heap.size (fun pre V => Hid (Below w.heap.size w V) ∧ Hid (Blk V w.heap.size X.cells) ∧ Hid (Boxed V (w.heap.size + 1) 81 (gptr g.b)) ∧ Hid (Boxed V (w.heap.size + 1 + 1) 39 (.slice A shs.length c)) ∧ Hid (Boxed V (w.heap.size + 1 + 1 + 1 + 1) 84 (.map (some (w.heap.size + 1 + 1 + 1)))) ∧ ∃ L, Hid (GMap V4.v V (w.heap.size + 1 + 1 + 1) L) ∧ Hid (VSpec X g shs pre L)) (pre ++ [x]) V Exit.normal { tmps := #[], defers := [] } (setBlock u2 (w.heap.size + 1 + 1 + 1) o)) :=
        ⟨(kf_below E2.out).trans (KeepsFrom.of_grownBy (sb_grown u2 _ o) (fun j e => by cases e; exact hwm)), (KC.below E2.out).t (KC.sb o hob hoc), below_sb (E.out.trans (E2.out.mono E.out.size)) _ _ (by omega), (BX2.out.ext E2.out).sb o (by omega), (sb_other u2 o (by omega)).trans ((E2.out.block _ BG2.out.lt).trans BG2.out), (sb_other u2 o (by omega)).trans ((E2.out.block _ BS2.out.lt).trans BS2.out), (sb_other u2 o (by omega)).trans ((E2.out.block _ BM2.out.lt).trans BM2.out), _, hM', HV.out.add HL.out.nd_ HZ.out HR.out⟩
      clear hput hob hoc hM' ho
      gi_wp2_with fail
      exact HOUT.out
  case done =>
    rintro D V hD hsz ⟨E, BX2, BG2, BS2, BM2, L, HL, HV⟩ hK
    have x13 := BM2.out.cell
    gi_wp2
    refine ⟨by simp, .inl ⟨_, _, rfl, run_takeDeferred hK, ?_⟩⟩
    refine ⟨.map (some (w.heap.size + 1 + 1 + 1)), by simp [results, Tryz.results25, go_sem], ?_⟩
    exact ⟨_, L, rfl, by omega, HL.out.of_block (World.putObj_heap_other (by omega)), HV.out, E.out.trans (below_put _ _ _ (by omega))⟩
end Go.Proofs.YtjiojpoiocdnmaaGreat
/- many: whether a group has too many choices. -/
set_option linter.unusedSimpArgs false
set_option linter.unusedVariables false
namespace Go.Proofs.YtjiojpoiocdnmaaGreat
open Go.RowKit
theorem cnt_snoc : ∀ (a : List Nat) (m : Nat), cnt (a ++ [m]) = cnt a * m
  | [], m => by simp [cnt]
  | x :: a, m => by simp [cnt, cnt_snoc a m, Nat.mul_assoc]
theorem cnt_app : ∀ (a b : List Nat), cnt (a ++ b) = cnt a * cnt b
  | [], b => by simp [cnt]
  | x :: a, b => by simp [cnt, cnt_app a b, Nat.mul_assoc]
theorem cnt_take {ms : List Nat} (h : ∀ m ∈ ms, 0 < m) (k : Nat) : cnt (ms.take k) ≤ cnt ms := by
  have := cnt_app (ms.take k) (ms.drop k)
  rw [List.take_append_drop] at this
  rw [this]
  exact Nat.le_mul_of_pos_right _ (cnt_pos _ (fun m hm => h m (List.mem_of_mem_drop hm)))
set_option maxRecDepth 100000 in
set_option maxHeartbeats 16000000 in
theorem many_of (X : Scn) (gb : Nat) (TA RA : Option Addr) (tc rc : Nat) (call : ByteArray) (ts : List Nat) (rs : List Rep) (w : World) (hX : SceneOk w X) (hG : (⟨call, gb, TA, tc, ts, RA, rc, rs⟩ : Grp) ∈ X.G) (htl : ts.length ≤ 1000) (hrow : ∀ i ∈ ts, ∃ r, X.st[i]? = some r ∧ 0 < r.l.length ∧ r.l.length ≤ 4096) (B : Bool) (hB : decide (4096 < cnt (grpM X ts)) = B) :
    Calls Tryz.prog 24 #[.agg #[X.sv, .map (some X.m), .int .i64 X.lost.a, .int .i64 X.lost.b, .int .i64 X.lost.c, .int .i64 X.lost.d, .int .i64 X.bud.a, .int .i64 X.bud.b, .int .i64 X.bud.c, .int .i64 X.bud.d, X.hv], gptr gb] w (RetB w B) := by
  have HB := Lib.hid hB
  have HROW := Lib.hid hrow
  obtain ⟨ms, hms⟩ : ∃ ms, grpM X ts = ms := ⟨_, rfl⟩
  have hml : Hid (ms.length = ts.length) := by rw [← hms]; simp [grpM, Hid]
  have HPOS : Hid (∀ m ∈ ms, 0 < m) := by
    rw [← hms]
    intro m hm
    obtain ⟨i, hi, rfl⟩ := List.mem_map.1 hm
    obtain ⟨r, hr, h0, _⟩ := hrow i hi
    simp [rowN, hr, h0]
  have HMS := Lib.hid hms
  rw [hms] at HB
  obtain ⟨W, hW⟩ : ∃ W, w.alloc (.cells #[X.sv, .map (some X.m), .int .i64 X.lost.a, .int .i64 X.lost.b, .int .i64 X.lost.c, .int .i64 X.lost.d, .int .i64 X.bud.a, .int .i64 X.bud.b, .int .i64 X.bud.c, .int .i64 X.bud.d, X.hv] 78) = W := ⟨_, rfl⟩
  have EW : Hid (Below w.heap.size w W) := by rw [← hW]; exact ext_alloc (ext_refl w) _
  have BX : Hid (Blk W w.heap.size X.cells) := by rw [← hW]; exact Blk.newH w X.cells 78 w.heap.size rfl
  have hX2 := hX.ext EW.out
  have hG2 := hX2.g1 _ hG
  have HTR : Hid (Slc W ic 1 TA (nums ts)) := (show Slc W ic 1 TA (nums ts) from Own.slc (n := (nums ts).length) (c := tc) (fun _ => rfl) (by decide) (by have := hG2.t; simpa [nums] using this))
  have HST : Hid (Slc W SliceOf.enc 1 X.sA X.st) := Own.slc (fun _ => rfl) (by decide) hX2.s0
  have g0 : W.cell? ⟨gb, 0, none⟩ = some (.slice TA ts.length tc) := cellAt hG2.b 0 rfl
  obtain ⟨SA, hSA⟩ : ∃ q, X.sA = q := ⟨_, rfl⟩
  have HSA := Lib.hid hSA
  rw [hSA] at HST
  have HX0 : Hid (W.cell? ⟨w.heap.size, 0, none⟩ = some (.slice SA X.st.length X.sc)) := by have := BX.out.c 0 _ rfl; rw [← hSA]; exact this
  clear hX hG hB hrow hms hX2 hG2 hSA
  go_enter Tryz.func24, Tryz.ntmps24
  go_wp2_with fail
  clear hW g0
  go_loopw [5, 13] (fun t i wr => ∃ k : Nat, k ≤ ts.length ∧ i = .int .i64 k ∧ t = .int .i64 ((cnt (ms.take k) : Nat) : Int) ∧ Hid (cnt (ms.take k) ≤ 4096) ∧ wr = W) (fun _ i _ => ts.length - (intOf i).toNat)
  case atStart => exact ⟨0, by omega, rfl, by simp [cnt], by simp [Hid, cnt], rfl⟩
  case round =>
    obtain ⟨k, hk, rfl, rfl, HLE, rfl⟩ := hrel
    obtain ⟨wo, rfl⟩ : ∃ wo, wo = wr := ⟨_, rfl⟩
    by_cases hlt : k < ts.length
    · obtain ⟨nn, hnn⟩ : ∃ nn, ts[k]? = some nn := ⟨_, List.getElem?_eq_getElem hlt⟩
      obtain ⟨y1, tb, to, hy1, hTA, htb, hc1⟩ := HTR.out.at_ (k := k) (by simpa [nums] using hlt)
      obtain rfl : y1 = (nn : Int) := by rw [nums_at hnn] at hy1; cases hy1; rfl
      obtain ⟨r, hr, hr0, hr1⟩ := HROW.out nn (List.mem_of_getElem? hnn)
      obtain ⟨y2, sb, so, hy2, hSA, hsb, hc2⟩ := HST.out.at_ (k := nn) (List.getElem?_eq_some_iff.1 hr).1
      obtain rfl : y2 = r := Option.some.inj (hy2.symm.trans hr)
      have x0 := HX0.out
      rw [hSA] at x0
      have d0 : wo.cell? ⟨tb, to + k, none⟩ = some (.int .i64 nn) := by have := hc1 0 _ rfl; simpa using this
      have d1 : wo.cell? ⟨sb, so + nn, none⟩ = some (.slice y2.A y2.l.length y2.c) := by have := hc2 0 _ rfl; simpa using this
      have hmk : ms[k]? = some y2.l.length := by rw [← HMS.out]; simp [grpM, hnn, rowN, hr]
      have HC : Hid (cnt (ms.take (k + 1)) = cnt (ms.take k) * y2.l.length) := by rw [take_snoc2 hmk]; exact cnt_snoc _ _
      obtain ⟨c, hc⟩ : ∃ c, cnt (ms.take k) = c := ⟨_, rfl⟩
      rw [hc] at HC HLE
      rw [hc]
      have hcb : c * y2.l.length ≤ 4096 * 4096 := Nat.mul_le_mul HLE.out hr1
      have hnl : (nn : Int) < (X.st.length : Int) := by have := (List.getElem?_eq_some_iff.1 hr).1; omega
      have hki : (k : Int) < (ts.length : Int) := by omega
      have hwm : IntKind.i64.wrap ((c : Int) * (y2.l.length : Int)) = (((c * y2.l.length : Nat)) : Int) := by rw [← Int.natCast_mul]; exact IntWalk.i64_in _ (by omega)
      obtain ⟨p, hp⟩ : ∃ p, c * y2.l.length = p := ⟨_, rfl⟩
      rw [hp] at hwm HC
      have hpb : p ≤ 16777216 := by omega
      subst hTA
      clear hy1 hy2 hc1 hc2 hr hnn hmk hcb hSA hc hp HLE
      by_cases hbig : 4096 < p
      · have hb1 : (4096 : Int) < (p : Int) := by omega
        have HT : Hid (B = true) := by
          rw [← HB.out]
          have := cnt_take HPOS.out (k + 1)
          rw [HC.out] at this
          exact decide_eq_true (by omega)
        go_wp2_with fail
        refine bodyPost_ret (v := .bool B) (by rw [HT.out]; simp [results, Tryz.results24, go_sem, *]) rfl ?_
        exact ⟨rfl, EW.out⟩
      · have hb1 : ¬ (4096 : Int) < (p : Int) := by omega
        go_wp2_with fail
        go_roundw
        case rel => exact ⟨k + 1, hlt, by go_num, by rw [HC.out], by rw [HC.out]; exact Nat.le_of_not_lt hbig, by first | trivial | rfl⟩
        case measure => simp [intOf]; omega
    · obtain rfl : k = ts.length := by omega
      have HT : Hid (B = false) := by
        rw [← HB.out]
        have := HLE.out
        rw [List.take_of_length_le (by rw [hml.out]; exact Nat.le_refl _)] at this
        exact decide_eq_false (by omega)
      clear HLE
      go_wp2_with fail
      refine bodyPost_ret (v := .bool B) (by rw [HT.out]; simp [results, Tryz.results24, go_sem, *]) rfl ?_
      exact ⟨rfl, EW.out⟩
end Go.Proofs.YtjiojpoiocdnmaaGreat
