/- World: are picks a world? -/
import Derived.Test.YtjiojpoiocdnmaaGreatMA
import Derived.Test.YtjiojpoiocdnmaaGreatNZ
set_option linter.unusedSimpArgs false
set_option linter.unusedVariables false
namespace Go.Proofs.YtjiojpoiocdnmaaGreat
open Go.RowKit Go.ChangeMaps
def gleft (W : World) (r : Nat) : Nat := match W.heap[r]? with
 | some (.mapIter (some b) _ seen _) => (match W.heap[b]? with
  | some (.map es _) => (leftOf es seen).size
  | _ => 0)
 | _ => 0
theorem GIter.gleft {κ : Type} [DecidableEq κ] {enc : κ → Value} {w : World} {r b : Nat} {l left : List (κ × Value)} (h : GIter enc w r b l left) : gleft w r = left.length := by
 obtain ⟨_, es, c, s, se, c0, h1, h2, _, _, _, h3, _⟩ := h
 unfold Go.Proofs.YtjiojpoiocdnmaaGreat.gleft
 rw [h1]
 simp only [h2]
 have := congrArg List.length h3
 simpa using this
/-- A step of a range over a map: what it leaves. -/
structure Stepd (W W5 : World) (r : Nat) : Prop where
 os : W5.os = W.os
 tape : W5.tape = W.tape
 out : W5.output = W.output
 size : W5.heap.size = W.heap.size
 keep : ∀ k, k ≠ r → W5.heap[k]? = W.heap[k]?
theorem GIter.step {P : Program} {kt : TypeId} {κ : Type} [DecidableEq κ] {enc : κ → Value} {ok : World → κ → Prop} (K : KeyC P kt enc ok) {W : World} {r b : Nat} {l left : List (κ × Value)} (h : GIter enc W r b l left) (ty : TypeId) :
  (left = [] ∧ (Instr.next (.pointer (some ⟨r, 0, none⟩)) false ty).run P W = .ok (.tuple #[.bool false]) W) ∨
  ∃ (p : κ × Value) (W5 : World), p ∈ left ∧ (Instr.next (.pointer (some ⟨r, 0, none⟩)) false ty).run P W = .ok (.tuple #[.bool true, enc p.1, p.2]) W5 ∧ (Instr.entry (.pointer (some ⟨r, 0, none⟩))).run P W5 = .ok (.tuple #[enc p.1, p.2]) W5 ∧
   GIter enc W5 r b l (left.filter (fun q => !decide (q.1 = p.1))) ∧ (left.filter (fun q => !decide (q.1 = p.1))).length + 1 = left.length ∧ Stepd W W5 r := by
 rcases h.next K ty with h1 | ⟨p, w1, o, hp, hw, ho, h1, h2, h3, h4⟩
 ·exact .inl h1
 ·refine .inr ⟨p, setBlock w1 r o, hp, h1, h2, h3, h4, ?_⟩
  rcases hw with rfl | rfl
  ·exact ⟨rfl, rfl, rfl, sb_size _ _ _, fun k hk => sb_other _ o hk⟩
  ·exact ⟨rfl, rfl, rfl, sb_size _ _ _, fun k hk => sb_other W.drew o hk⟩
theorem Stepd.below {W W5 : World} {r n : Nat} {W0 : World} (h : Stepd W W5 r) (hb : Below n W0 W) (hn : n ≤ r) : Below n W0 W5 :=
 ⟨h.os.trans hb.os, h.tape.trans hb.tape, h.out.trans hb.output, by rw [h.size]; exact hb.size, fun k hk => (h.keep k (by omega)).trans (hb.block k hk)⟩
def ownP (picks : List Int) (ts : List Nat) : List Int := ts.map (fun i => picks.getD i 0)
def grpW (X : Scn) (picks shs : List Int) (g : Grp) : V4 := wrongV X.stays g.ts g.rs (ownP picks g.ts) shs
def worldAt (X : Scn) (picks shs : List Int) : Bool := (X.lost.plus (vsum (X.G.map (grpW X picks shs)))).leB X.bud
def worldB (X : Scn) (picks : List Int) : Bool := X.sh.any (fun h => worldAt X picks h.l)
/-- The number of a call sign's group. -/
def callW {β : Type} (G : List Grp) (z : β) (f : Grp → β) (c : ByteArray) : β := match G.find? (fun g => decide (g.call = c)) with
 | some g => f g
 | none => z
theorem callW_at {β : Type} {G : List Grp} {z : β} {f : Grp → β} (hn : (G.map (·.call)).Nodup) {g : Grp} (hg : g ∈ G) : callW G z f g.call = f g := by
 unfold callW
 cases hf : G.find? (fun q => decide (q.call = g.call)) with
 | none => exact absurd (List.find?_eq_none.1 hf g hg) (by simp)
 | some q =>
  have h1 := List.find?_some hf
  have h2 := List.mem_of_find?_eq_some hf
  have : q = g := nodup_map_eq hn h2 hg (by simpa using h1)
  rw [this]
theorem mem_grps {X : Scn} {p : ByteArray × Value} (h : p ∈ X.grps) : ∃ g ∈ X.G, p = (g.call, gptr g.b) := by
 obtain ⟨g, hg, e⟩ := List.mem_map.1 h
 exact ⟨g, hg, e.symm⟩
theorem grps_sum {X : Scn} (hn : (X.G.map (·.call)).Nodup) (f : Grp → V4) : vsum (X.grps.map (fun p => callW X.G V4.zero f p.1)) = vsum (X.G.map f) := by
 unfold Scn.grps
 rw [List.map_map]
 congr 1
 exact List.map_congr_left fun g hg => callW_at hn hg
def pickOk (l : List Trk) (picks : List Int) : Prop := picks.length = l.length ∧ ∀ (i : Nat) (k : Int) (y : Trk), picks[i]? = some k → l[i]? = some y → 0 ≤ k ∧ k < y.ps.l.length
def picksB (l : List Trk) (picks : List Int) : Bool := decide (picks.length = l.length) && (List.zip picks l).all (fun p => decide (0 ≤ p.1) && decide (p.1 < p.2.ps.l.length))
theorem picksB_iff {l : List Trk} {picks : List Int} : picksB l picks = true ↔ pickOk l picks := by
 simp only [picksB, Bool.and_eq_true, decide_eq_true_eq, List.all_eq_true, pickOk]
 refine and_congr_right fun hl => ⟨fun h i k y hk hy => ?_, fun h p hp => ?_⟩
 ·exact h (k, y) (List.mem_of_getElem? (List.getElem?_zip_eq_some.2 ⟨hk, hy⟩))
 ·obtain ⟨i, hi⟩ := List.mem_iff_getElem?.1 hp
  obtain ⟨h1, h2⟩ := List.getElem?_zip_eq_some.1 hi
  exact h i p.1 p.2 h1 h2
theorem stays_len {t : Tab} {s : List Stn} {R : List Rep} {l : List Trk} {X : Scn} (h : SceneSpec t s R l X) {n : Nat} {y : Trk} (hy : l[n]? = some y) : ∃ r : List (List Sty), X.stays[n]? = some r ∧ r.length = y.ps.l.length := by
 rw [h.st]
 exact ⟨_, by rw [List.getElem?_map, hy]; rfl, by simp⟩
theorem own_pks {t : Tab} {s : List Stn} {R : List Rep} {l : List Trk} {X : Scn} (h : SceneSpec t s R l X) {picks : List Int} (hp : pickOk l picks) {g : Grp} (hg : g ∈ X.G) : Pks X.stays g.ts (ownP picks g.ts) := by
 refine ⟨by simp [ownP], fun i n k hn hk => ?_⟩
 have hm : n ∈ idxs l l.length g.call := by rw [← h.G.ts g hg]; exact List.mem_of_getElem? hn
 obtain ⟨_, y, hy, _⟩ := mem_idxs.1 hm
 obtain ⟨r, hr, hrl⟩ := stays_len h hy
 have hpn : n < picks.length := by rw [hp.1]; exact (List.getElem?_eq_some_iff.1 hy).1
 have hpk : picks[n]? = some (picks.getD n 0) := by rw [List.getD_eq_getElem?_getD, List.getElem?_eq_getElem hpn]; rfl
 have : k = picks.getD n 0 := by
  simp only [ownP, List.getElem?_map, hn, Option.map_some, Option.some.injEq] at hk
  exact hk.symm
 subst this
 obtain ⟨h1, h2⟩ := hp.2 n _ y hpk hy
 exact ⟨h1, r, hr, by omega⟩
def WorldR (w : World) (t : Tab) (s : List Stn) (R : List Rep) (l : List Trk) (picks : List Int) (e : Ending) (w' : World) : Prop :=
 Below w.heap.size w w' ∧ ((askE t s R l ≠ 0 ∧ e = .returned (.tuple #[.bool false, .int .i64 (askE t s R l)])) ∨ (askE t s R l = 0 ∧ picksB l picks = false ∧ e = .returned (.tuple #[.bool false, .int .i64 240])) ∨
  (askE t s R l = 0 ∧ picksB l picks = true ∧ ∃ X, SceneSpec t s R l X ∧ e = .returned (.tuple #[.bool (worldB X picks), .int .i64 0])))
set_option maxRecDepth 100000 in
set_option maxHeartbeats 16000000 in
theorem world_of (t : Tab) (SA : Option Addr) (sc : Nat) (sl : List Stn) (RA : Option Addr) (rc : Nat) (R : List Rep) (LA : Option Addr) (lc : Nat) (ll : List Trk) (PA : Option Addr) (pc : Nat) (picks : List Int) (w : World) (ht : Tab.ok w t) (hs : SliceOf.ok Stn.cells 3 Stn.ok w ⟨SA, sc, sl⟩) (hr : Slc w Rep.cells 6 RA R) (hl : SliceOf.ok Trk.cells 14 Trk.ok w ⟨LA, lc, ll⟩)
  (hp : Slc w ic 1 PA picks) (hpl : picks.length ≤ maxLen) (hsn : sl.length ≤ 100) (hrn : R.length ≤ 100) (hln : ll.length ≤ 100) : Calls Tryz.prog 15 #[t.v, .slice SA sl.length sc, .slice RA R.length rc, .slice LA ll.length lc, .slice PA picks.length pc] w (WorldR w t sl R ll picks) := by
 have HT := Lib.hid ht
 have HS := Lib.hid hs
 have HR := Lib.hid hr
 have HL := Lib.hid hl
 have HP := Lib.hid hp
 obtain ⟨W0, hW0⟩ : ∃ W0, w.alloc (.cells #[.int .i64 t.n, .slice t.ss.A t.ss.l.length t.ss.c, .slice t.cs.A t.cs.l.length t.cs.c, .slice t.ws.A t.ws.l.length t.ws.c, .slice t.ms.A t.ms.l.length t.ms.c, .slice t.ks.A t.ks.l.length t.ks.c] 28) = W0 := ⟨_, rfl⟩
 have E0 : Hid (Below w.heap.size w W0) := by rw [← hW0]; exact ext_alloc (ext_refl w) _
 have BT : Hid (Blk W0 w.heap.size t.cells) := by rw [← hW0]; exact Blk.newH w t.cells 28 w.heap.size rfl
 unfold maxLen at hpl
 clear ht hs hr hl hp
 go_enter Tryz.func15, Tryz.ntmps15
 have c0 := BT.out.c 0 _ rfl
 have c1 := BT.out.c 1 _ rfl
 have c2 := BT.out.c 2 _ rfl
 have c3 := BT.out.c 3 _ rfl
 have c4 := BT.out.c 4 _ rfl
 have c5 := BT.out.c 5 _ rfl
 have cl := BT.out.lt
 go_wp2_with fail
 clear hW0 c0 c1 c2 c3 c4 c5 cl
 refine (set_of t SA sc sl RA rc R LA lc ll W0 (HT.out.ext E0.out) (SliceOf.ok.ext HS.out E0.out (fun _ k => k.ext E0.out)) (HR.out.below (Nat.le_refl _) E0.out) (SliceOf.ok.ext HL.out E0.out (fun _ k => k.ext E0.out)) hsn (by omega) hln).mono ?_
 rintro e w1 ⟨B, (⟨he, rfl⟩ | ⟨he, X, rfl, hX, hSP⟩)⟩
 ·obtain ⟨E, hE⟩ : ∃ E, askE t sl R ll = E := ⟨_, rfl⟩
  rw [hE] at he ⊢
  have HE := Lib.hid hE
  have HB := Lib.hid (ext_trans E0.out B)
  clear hE B
  unfold zScn
  go_wp2_with fail
  go_ret2
  exact ⟨ext_alloc HB.out _, .inl ⟨by rw [HE.out]; exact he, by rw [HE.out]; rfl⟩⟩
 have HB1 := Lib.hid (ext_trans E0.out B)
 have HA := Lib.hid he
 have HX := Lib.hid hX
 have HSP := Lib.hid hSP
 have HN := Lib.hid (scene_num hSP he hrn)
 obtain ⟨W2, hW2⟩ : ∃ W2, w1.alloc (.cells #[X.sv, .map (some X.m), .int .i64 X.lost.a, .int .i64 X.lost.b, .int .i64 X.lost.c, .int .i64 X.lost.d, .int .i64 X.bud.a, .int .i64 X.bud.b, .int .i64 X.bud.c, .int .i64 X.bud.d, X.hv] 78) = W2 := ⟨_, rfl⟩
 have E2 : Hid (Below w.heap.size w W2) := by rw [← hW2]; exact ext_alloc HB1.out _
 have HX2 : Hid (SceneOk W2 X) := by rw [← hW2]; exact HX.out.ext (ext_alloc (ext_refl _) _)
 have BX2 : Hid (Blk W2 w1.heap.size X.cells) := by rw [← hW2]; exact Blk.newH w1 X.cells 78 w1.heap.size rfl
 obtain ⟨bs, hbs⟩ : ∃ bs, w1.heap.size = bs := ⟨_, rfl⟩
 clear he hX hSP B HB1 HX E0 BT
 by_cases hlen : picks.length = ll.length
 rotate_left
 ·have HF : Hid (picksB ll picks = false) := by unfold picksB Hid; rw [decide_eq_false hlen]; rfl
  have hne : ((picks.length : Int) == ll.length) = false := by simp; omega
  have hne2 : ¬ (picks.length : Int) = ll.length := by omega
  go_wp2_with fail
  go_ret2
  exact ⟨E2.out, .inr (.inl ⟨HA.out, HF.out, rfl⟩)⟩
 have heq : ((picks.length : Int) == ll.length) = true := by simp; omega
 have heq2 : (picks.length == ll.length) = true := by simp; omega
 have heq3 : decide (picks.length = ll.length) = true := decide_eq_true hlen
 have HLEN := Lib.hid hlen
 clear hlen
 go_wp2_with fail
 clear hW2 heq heq2 heq3
 go_loopw [41] (fun i wr => ∃ k : Nat, k ≤ picks.length ∧ i = .int .i64 k ∧ wr = W2 ∧ Hid (∀ (i : Nat) (q : Int) (y : Trk), i < k → picks[i]? = some q → ll[i]? = some y → 0 ≤ q ∧ q < y.ps.l.length)) (fun i _ => picks.length - (intOf i).toNat)
 case atStart => exact ⟨0, by omega, rfl, rfl, fun i q y h => by omega⟩
 case round =>
  obtain ⟨k, hk, rfl, rfl, HOK⟩ := hrel
  by_cases hlt : k < picks.length
  ·obtain ⟨n, nb, no, hn, rfl, hnb, hnc⟩ := (HP.out.below (Nat.le_refl _) E2.out).at_ hlt
   obtain ⟨y, yb, yo, hy, rfl, hyb, hyc⟩ := ((show Slc w Trk.cells 14 LA ll from HL.out.slc).below (Nat.le_refl _) E2.out).at_ (k := k) (by rw [← HLEN.out]; exact hlt)
   have d0 := hnc 0 _ rfl
   simp only [Nat.mul_one, Nat.add_zero] at d0
   have d12 := hyc 12 _ rfl
   have hki : (k : Int) < picks.length := by omega
   have hkl : (k : Int) < ll.length := by have := HLEN.out; omega
   have HNN := Lib.hid hn
   have HYY := Lib.hid hy
   clear hnc hyc hn hy
   have hbad : Hid (¬ (0 ≤ n ∧ n < y.ps.l.length) → picksB ll picks = false) := fun hb => by
    cases hq : picksB ll picks with
    | false => rfl
    | true => exact absurd ((picksB_iff.1 hq).2 k n y HNN.out HYY.out) hb
   by_cases h1 : n < 0
   ·have HF := Lib.hid (hbad.out (by omega))
    go_wp2_with fail
    all_goals
     go_ret2
     exact ⟨E2.out, .inr (.inl ⟨HA.out, HF.out, rfl⟩)⟩
   by_cases h2 : (y.ps.l.length : Int) ≤ n
   ·have HF := Lib.hid (hbad.out (by omega))
    have h2' : n ≥ (y.ps.l.length : Int) := h2
    go_wp2_with fail
    all_goals
     go_ret2
     exact ⟨E2.out, .inr (.inl ⟨HA.out, HF.out, rfl⟩)⟩
   have h2' : ¬ n ≥ (y.ps.l.length : Int) := h2
   go_wp2_with fail
   go_roundw
   case rel => exact ⟨k + 1, by omega, by go_num, trivial, fun i q z hi hq hz => by
    rcases Nat.lt_or_ge i k with hik | hik
    ·exact HOK.out i q z hik hq hz
    ·obtain rfl : i = k := by omega
     rw [HNN.out] at hq; cases hq
     rw [HYY.out] at hz; cases hz
     omega⟩
   case measure => simp [intOf]; omega
  ·obtain rfl : k = picks.length := by omega
   obtain ⟨Wc, rfl⟩ : ∃ Wc, Wc = wr := ⟨_, rfl⟩
   have HPO := Lib.hid (show pickOk ll picks from ⟨HLEN.out, fun i q y hq hy => HOK.out i q y (List.getElem?_eq_some_iff.1 hq).1 hq hy⟩)
   have hkn : ¬ ((picks.length : Nat) : Int) < picks.length := by omega
   obtain ⟨HAd, hHA⟩ : ∃ q, X.hA = q := ⟨_, rfl⟩
   have hx10 : Wc.cell? ⟨bs, 10, none⟩ = some (.slice HAd X.sh.length X.hc) := by rw [← hHA, ← hbs]; exact BX2.out.c 10 _ rfl
   have hxl : bs < Wc.heap.size := by rw [← hbs]; exact BX2.out.lt
   have HH0 := Lib.hid (show Slc Wc SliceOf.enc 1 HAd X.sh by rw [← hHA]; exact HX2.out.h0.slc (fun _ => rfl) (by decide))
   have BX3 : Hid (Blk Wc bs X.cells) := by rw [← hbs]; exact BX2.out
   have HNL := Lib.hid (HN.out.hn)
   clear hHA HOK BX2
   go_wp2_with fail
   clear hx10 hxl
   have hnl := HNL.out
   go_loopw [62] (fun i wr => ∃ k : Nat, k ≤ X.sh.length ∧ i = .int .i64 k ∧ Hid (Below Wc.heap.size Wc wr) ∧ Hid (∀ h ∈ X.sh.take k, worldAt X picks h.l = false)) (fun i _ => X.sh.length - (intOf i).toNat)
   case atStart => exact ⟨0, by omega, rfl, ext_refl Wc, by simp [Hid]⟩
   case round =>
    obtain ⟨k, hk2, rfl, EW, HNO⟩ := hrel
    obtain ⟨wo, rfl⟩ : ∃ wo, wo = wr := ⟨_, rfl⟩
    have EO := Lib.hid (E2.out.trans (EW.out.mono E2.out.size))
    by_cases hlt2 : k < X.sh.length
    rotate_left
    ·obtain rfl : k = X.sh.length := by omega
     have HF : Hid (worldB X picks = false) := by
      unfold worldB Hid
      rw [List.any_eq_false]
      intro h hh
      rw [HNO.out h (by rw [List.take_length]; exact hh)]; simp
     have hkn2 : ¬ ((X.sh.length : Nat) : Int) < X.sh.length := by omega
     go_wp2_with fail
     go_ret2
     exact ⟨EO.out, .inr (.inr ⟨HA.out, picksB_iff.2 HPO.out, X, HSP.out, by rw [HF.out]; rfl⟩)⟩
    obtain ⟨h, hb, ho, hh, rfl, hhb, hhc⟩ := (HH0.out.ext EW.out).at_ hlt2
    have f0 := hhc 0 _ rfl
    simp only [Nat.mul_one, Nat.add_zero] at f0
    have hki2 : (k : Int) < X.sh.length := by omega
    have HHH := Lib.hid hh
    have hhm := List.mem_of_getElem? hh
    have HXo := Lib.hid (HX2.out.ext EW.out)
    have BXo := Lib.hid (BX3.out.ext EW.out)
    have x1 := BXo.out.c 1 _ rfl
    have x2 := BXo.out.c 2 _ rfl
    have x3 := BXo.out.c 3 _ rfl
    have x4 := BXo.out.c 4 _ rfl
    have x5 := BXo.out.c 5 _ rfl
    have xl := BXo.out.lt
    obtain ⟨W3, hW3⟩ : ∃ W3, wo.alloc (.cells #[.int .i64 X.lost.a, .int .i64 X.lost.b, .int .i64 X.lost.c, .int .i64 X.lost.d] 76) = W3 := ⟨_, rfl⟩
    have hb3 : Below wo.heap.size wo W3 := by rw [← hW3]; exact ext_alloc (ext_refl _) _
    have hz3 : W3.heap.size = wo.heap.size + 1 := by rw [← hW3]; simp
    have bv3 : Blk W3 wo.heap.size X.lost.cells := by rw [← hW3]; exact Blk.newH wo X.lost.cells 76 wo.heap.size rfl
    have x1' : W3.cell? ⟨bs, 1, none⟩ = some (.map (some X.m)) := (hb3.cell (p := ⟨bs, 1, none⟩) xl).trans x1
    have xl' : bs < W3.heap.size := by omega
    obtain ⟨o, hrg, -, hIt⟩ := (HXo.out.ext hb3).g0.range Tryz.underlying74
    rw [hz3] at hIt hrg
    obtain ⟨W4, hW4⟩ : ∃ W4, W3.alloc o = W4 := ⟨_, rfl⟩
    rw [hW4] at hIt hrg
    have E4 : Hid (Below wo.heap.size wo W4) := by rw [← hW4]; exact ext_alloc hb3 o
    have BV4 : Hid (Blk W4 wo.heap.size X.lost.cells) := by rw [← hW4]; exact bv3.alloc o
    have HIt := Lib.hid hIt
    obtain ⟨T, hT⟩ : ∃ T, X.lost.plus (vsum (X.G.map (grpW X picks h.l))) = T := ⟨_, rfl⟩
    have HT2 := Lib.hid hT
    have HND := Lib.hid (HSP.out.G.nd)
    have HSUM : Hid (X.lost.plus (vsum (X.grps.map (fun p => callW X.G V4.zero (grpW X picks h.l) p.1))) = T) := by unfold Hid; rw [grps_sum HND.out, hT]
    obtain ⟨F, hF⟩ : ∃ F : ByteArray → V4, callW X.G V4.zero (grpW X picks h.l) = F := ⟨_, rfl⟩
    have HFD := Lib.hid hF
    rw [hF] at HSUM
    have HIN0 : Hid (X.lost.In (1300 - 100 * (X.grps.length : Int))) := HN.out.lo.mono (by have := HN.out.gl; simp only [Scn.grps, List.length_map]; omega)
    clear hhc hh hIt hT hF bv3 hb3
    go_wp2_with fail
    clear hW3 hW4 hrg x1 x2 x3 x4 x5 xl x1' xl' hz3 f0
    go_loopw [72] (fun a wr => ∃ (left : List (ByteArray × Value)) (v : V4), Hid (GIter encC wr (wo.heap.size + 1) X.m X.grps left) ∧ Hid (Blk wr wo.heap.size v.cells) ∧ Hid (v.plus (vsum (left.map (fun p => F p.1))) = T) ∧ Hid (v.In (1300 - 100 * (left.length : Int))) ∧ Hid (Below wo.heap.size wo wr)) (fun _ wr => gleft wr (wo.heap.size + 1))
    case atStart => exact ⟨X.grps, X.lost, HIt, BV4, HSUM, HIN0, E4⟩
    case round =>
     obtain ⟨left, v, HI, BV, HS2, HIN, E5⟩ := hrel
     obtain ⟨wm, rfl⟩ : ∃ wm, wm = wr := ⟨_, rfl⟩
     clear HIt BV4 HSUM HIN0 E4
     have hgl := HI.out.gleft
     rcases HI.out.step (keyStr (P := Tryz.prog) Tryz.underlying9) 0 with ⟨rfl, hnx⟩ | ⟨p, W5, hp, hnx, hen, hI5, hlen, hst⟩
     ·have HVT : Hid (v = T) := by
       have := HS2.out
       rw [List.map_nil] at this
       exact (V4.plus_zero v).symm.trans this
      have bx6 := BXo.out.ext E5.out
      have v0 := BV.out.c 0 _ rfl
      have v1 := BV.out.c 1 _ rfl
      have v2 := BV.out.c 2 _ rfl
      have v3 := BV.out.c 3 _ rfl
      have vl := BV.out.lt
      have y6 := bx6.c 6 _ rfl
      have y7 := bx6.c 7 _ rfl
      have y8 := bx6.c 8 _ rfl
      have y9 := bx6.c 9 _ rfl
      have yl := bx6.lt
      have EO6 := Lib.hid (EO.out.trans (E5.out.mono EO.out.size))
      have EW6 := Lib.hid (ext_trans EW.out E5.out)
      clear bx6 hgl HS2 HIN
      go_wp2_with fail
      cases hle : v.leB X.bud
      ·refine (vin_at false hle).mono ?_
       rintro e w7 ⟨rfl, B7⟩
       have EW7 := Lib.hid (ext_trans EW6.out B7)
       have HNO2 : Hid (∀ h ∈ X.sh.take (k + 1), worldAt X picks h.l = false) := by
        rw [take_snoc2 HHH.out]
        intro q hq
        rcases List.mem_append.1 hq with hq | hq
        ·exact HNO.out q hq
        ·obtain rfl := List.mem_singleton.1 hq
         unfold worldAt; rw [HT2.out, ← HVT.out]; exact hle
       clear hle B7 v0 v1 v2 v3 vl y6 y7 y8 y9 yl hnx
       go_wp2_with fail
       go_roundw
       case rel => exact ⟨k + 1, by omega, by go_num, EW7, HNO2⟩
       case measure => simp [intOf]; omega
      ·refine (vin_at true hle).mono ?_
       rintro e w7 ⟨rfl, B7⟩
       have EO7 := Lib.hid (EO6.out.trans (B7.mono EO6.out.size))
       have HF : Hid (worldB X picks = true) := by
        unfold worldB Hid
        rw [List.any_eq_true]
        exact ⟨h, hhm, by unfold worldAt; rw [HT2.out, ← HVT.out]; exact hle⟩
       clear hle B7 v0 v1 v2 v3 vl y6 y7 y8 y9 yl hnx
       go_wp2_with fail
       go_ret2
       exact ⟨EO7.out, .inr (.inr ⟨HA.out, picksB_iff.2 HPO.out, X, HSP.out, by rw [HF.out]; rfl⟩)⟩
     obtain ⟨g, hg, rfl⟩ := mem_grps (HI.out.sub p hp)
     have hgl5 := hI5.gleft
     have hbv : wo.heap.size < wm.heap.size := BV.out.lt
     have E6 := Lib.hid (hst.below E5.out (by omega))
     have BV6 : Hid (Blk W5 wo.heap.size v.cells) := BV.out.keepB (hst.keep _ (by omega))
     have HI6 := Lib.hid hI5
     have HG := Lib.hid hg
     have HX6 := Lib.hid (HXo.out.ext E6.out)
     have BX6 := Lib.hid (BXo.out.ext E6.out)
     have HGO := HX6.out.g1 g hg
     have HLT : Hid (gleft W5 (wo.heap.size + 1) < gleft wm (wo.heap.size + 1)) := by unfold Hid; rw [hgl5, hgl]; omega
     have hFg : F g.call = grpW X picks h.l g := by rw [← HFD.out]; exact callW_at HND.out hg
     have HS6 : Hid ((v.plus (grpW X picks h.l g)).plus (vsum ((left.filter (fun q => !decide (q.1 = g.call))).map (fun p => F p.1))) = T) := by
      unfold Hid
      rw [V4.plus_assoc, ← hFg, ← sum_take F HI.out.nd hp]
      exact HS2.out
     have HLEN2 : Hid ((left.filter (fun q => !decide (q.1 = g.call))).length + 1 = left.length) := hlen
     obtain ⟨left6, hl6⟩ : ∃ q, left.filter (fun q => !decide (q.1 = g.call)) = q := ⟨_, rfl⟩
     have HI7 : Hid (GIter encC W5 (wo.heap.size + 1) X.m X.grps left6) := by rw [← hl6]; exact hI5
     rw [hl6] at HS6 HLEN2
     obtain ⟨TA, hTA⟩ : ∃ q, g.tA = q := ⟨_, rfl⟩
     have gt : W5.cell? ⟨g.b, 0, none⟩ = some (.slice TA g.ts.length g.tc) := by rw [← hTA]; exact (heap_cell HGO.b).1 0 _ rfl
     have gl := (heap_cell HGO.b).2.2
     have HTR := Lib.hid (show Slc W5 ic 1 TA (nums g.ts) by
      rw [← hTA]
      have := HGO.t
      rw [show g.tv = .slice g.tA (nums g.ts).length g.tc by simp [nums]] at this
      exact this.slc (fun _ => rfl) (by decide))
     have HTN : Hid (∀ n ∈ g.ts, n < picks.length) := fun n hn => by
      have := HSP.out.G.ts g hg
      rw [this] at hn
      rw [HPO.out.1]; exact (mem_idxs.1 hn).1
     have htl : g.ts.length ≤ 12 := HN.out.tl g hg
     clear hl6 hTA HGO hI5 hgl hgl5 hFg hst hlen hp HI6 HS2
     go_wp2_with fail
     clear hnx hen gt gl
     go_loopw [20, 80] (fun a i wr => ∃ (j : Nat) (A : Option Addr) (n c : Nat), j ≤ g.ts.length ∧ i = .int .i64 j ∧ a = .slice A n c ∧ Hid (n = j) ∧ Hid (Below W5.heap.size W5 wr) ∧ Hid (Own wr W5.heap.size 3 ic 1 (.slice A n c) ((ownP picks g.ts).take j))) (fun _ i _ => g.ts.length - (intOf i).toNat)
     case atStart => exact ⟨0, none, 0, 0, by omega, rfl, rfl, rfl, ext_refl W5, Own.nil _ _ _ _ _⟩
     case round =>
      obtain ⟨j, A5, n5, c5, hj, rfl, rfl, HN5, E8, HO8⟩ := hrel
      obtain ⟨wi, rfl⟩ : ∃ wi, wi = wr := ⟨_, rfl⟩
      by_cases hjl : j < g.ts.length
      ·obtain ⟨n0, hn0⟩ : ∃ n, g.ts[j]? = some n := ⟨_, List.getElem?_eq_getElem hjl⟩
       obtain ⟨t1, b1, o1, ht1, hTA, hb1, hc1⟩ := (HTR.out.ext E8.out).at_ (k := j) (by simpa [nums] using hjl)
       have hn1 : t1 = (n0 : Int) := by rw [nums_at hn0] at ht1; cases ht1; rfl
       subst hn1
       subst hTA
       have e1 := hc1 0 _ rfl
       simp only [Nat.mul_one, Nat.add_zero] at e1
       have hnp := HTN.out n0 (List.mem_of_getElem? hn0)
       have EP := Lib.hid (ext_trans (show Below w.heap.size w W5 from EO.out.trans (E6.out.mono EO.out.size)) E8.out)
       obtain ⟨q1, b2, o2, hq1, hPA, hb2, hc2⟩ := (HP.out.below (Nat.le_refl _) EP.out).at_ hnp
       subst hPA
       have e2 := hc2 0 _ rfl
       simp only [Nat.mul_one, Nat.add_zero] at e2
       have hjk : (j : Int) < g.ts.length := by omega
       have hnk : (n0 : Int) < picks.length := by omega
       have hown : (ownP picks g.ts)[j]? = some q1 := by
        simp only [ownP, List.getElem?_map, hn0, Option.map_some, List.getD_eq_getElem?_getD, hq1, Option.getD_some]
       obtain ⟨v', W9, hrun, A9, c9, rfl, hO9, hB9, -, _, _⟩ := Own.append_to (w0 := W5) intI 39 (HO8.out.alloc (.cells #[.int .i64 q1] 3)) (ext_alloc E8.out (.cells #[.int .i64 q1] 3)) (ys := [q1]) (m := 1) rfl 1 (slc_litH wi [q1] #[.int .i64 q1] 3 (enc := ic) (sz := 1) (fun _ => rfl) rfl wi.heap.size rfl) (by simp; omega) (by unfold maxLen; simp; omega)
       rw [← take_snoc2 hown] at hrun hO9
       obtain ⟨n9, hn9⟩ : ∃ n, ((ownP picks g.ts).take (j + 1)).length = n := ⟨_, rfl⟩
       rw [hn9] at hrun hO9
       have HN9 : Hid (n9 = j + 1) := by rw [← hn9]; unfold Hid; rw [List.length_take]; simp [ownP]; omega
       have HO9 := Lib.hid hO9
       have HB9 := Lib.hid hB9
       have HRUN := Lib.hid hrun
       clear hrun hO9 hB9 hn9 hown hc1 hc2 ht1 hq1 hn0 E8 HO8 HN5
       go_wp2_with (at_builtin; refine wpList_append_run rfl (.tmp 84) (.tmp 89) 39 rfl (.slice A5 n5 c5) (.slice (some ⟨wi.heap.size, 0, none⟩) 1 1) rfl rfl HRUN.out ?_)
       go_roundw
       case rel => exact ⟨j + 1, A9, n9, c9, by omega, by go_num, rfl, HN9, HB9, HO9⟩
       case measure => simp [intOf]; omega
      ·obtain rfl : j = g.ts.length := by omega
       have hjn : ¬ ((g.ts.length : Nat) : Int) < g.ts.length := by omega
       have hPK : Slc wi ic 1 A5 (ownP picks g.ts) := by
        have := HO8.out
        rw [List.take_of_length_le (by simp [ownP])] at this
        rw [show n5 = (ownP picks g.ts).length by rw [HN5.out]; simp [ownP]] at this
        exact this.slc (fun _ => rfl) (by decide)
       have HPK := Lib.hid hPK
       have HX9 := Lib.hid (HX6.out.ext E8.out)
       have BX9 := Lib.hid (BX6.out.ext E8.out)
       have BV9 := Lib.hid (BV6.out.ext E8.out)
       have E9 := Lib.hid (E6.out.trans (E8.out.mono E6.out.size))
       have HI9 := Lib.hid (HI7.out.ext E8.out)
       have HH9 := Lib.hid (show Slc wi ic 1 h.A h.l from (HX9.out.h1 h hhm).slc (fun _ => rfl) (by decide))
       have HWC := Lib.hid (show ∀ u, Below wi.heap.size wi u → Calls Tryz.prog 28 #[X.v, gptr g.b, .slice A5 n5 c5, .slice h.A h.l.length h.c] u fun e w' => e = .returned (grpW X picks h.l g).v ∧ Below u.heap.size u w' from fun u hu =>
        wrong_any X g HG.out A5 n5 c5 (ownP picks g.ts) h.A h.l.length h.c h.l u (by rw [HN5.out]; simp [ownP]) rfl (HX9.out.ext hu) (HPK.out.ext hu) (HH9.out.ext hu) (own_pks HSP.out HPO.out HG.out) (fun r hr => by rw [HN.out.hl h hhm]; exact HN.out.rs g HG.out r hr) (HN.out.hb h hhm) (by have := HN.out.tl g HG.out; omega) (by have := HN.out.rl g HG.out; omega))
       have HGIN : Hid ((grpW X picks h.l g).In 100) := (wrongV_in _ _ _ _ _).mono (by have := HN.out.rl g HG.out; omega)
       obtain ⟨u0, hu0⟩ : ∃ u0, grpW X picks h.l g = u0 := ⟨_, rfl⟩
       rw [hu0] at HWC HGIN HS6
       have HVI : Hid (v.In 100000) := HIN.out.mono (by omega)
       have HIN2 : Hid ((v.plus u0).In (1300 - 100 * (left6.length : Int))) := (HIN.out.plus HGIN.out).mono (by have := HLEN2.out; omega)
       obtain ⟨z, hz⟩ : ∃ z, v.plus u0 = z := ⟨_, rfl⟩
       have HZ := Lib.hid hz
       rw [hz] at HS6 HIN2
       have hGL : Hid (gleft wi (wo.heap.size + 1) = gleft W5 (wo.heap.size + 1)) := by unfold Hid; rw [HI9.out.gleft, HI7.out.gleft]
       have hbvl := BV9.out.lt
       clear hPK hu0 hz HX9 HPK HH9 HN5 HO8 HIN
       go_wp2_with fail
       have SS := Lib.hid (show ∀ w', Below wi.heap.size wi w' → (fun w' => Below wi.heap.size wi w' ∧ w'.cell? ⟨wo.heap.size, 0, none⟩ = some (.int .i64 v.a) ∧ w'.cell? ⟨wo.heap.size, 1, none⟩ = some (.int .i64 v.b) ∧ w'.cell? ⟨wo.heap.size, 2, none⟩ = some (.int .i64 v.c) ∧ w'.cell? ⟨wo.heap.size, 3, none⟩ = some (.int .i64 v.d) ∧ w'.cell? ⟨bs, 0, none⟩ = some (.slice X.sA X.st.length X.sc) ∧ w'.cell? ⟨bs, 1, none⟩ = some (.map (some X.m)) ∧ w'.cell? ⟨bs, 2, none⟩ = some (.int .i64 X.lost.a) ∧ w'.cell? ⟨bs, 3, none⟩ = some (.int .i64 X.lost.b) ∧ w'.cell? ⟨bs, 4, none⟩ = some (.int .i64 X.lost.c) ∧ w'.cell? ⟨bs, 5, none⟩ = some (.int .i64 X.lost.d) ∧ w'.cell? ⟨bs, 6, none⟩ = some (.int .i64 X.bud.a) ∧ w'.cell? ⟨bs, 7, none⟩ = some (.int .i64 X.bud.b) ∧ w'.cell? ⟨bs, 8, none⟩ = some (.int .i64 X.bud.c) ∧ w'.cell? ⟨bs, 9, none⟩ = some (.int .i64 X.bud.d) ∧ w'.cell? ⟨bs, 10, none⟩ = some (.slice X.hA X.sh.length X.hc)) w' from fun w' h => ⟨h, (BV9.out.ext h).c 0 _ rfl, (BV9.out.ext h).c 1 _ rfl, (BV9.out.ext h).c 2 _ rfl, (BV9.out.ext h).c 3 _ rfl, (BX9.out.ext h).c 0 _ rfl, (BX9.out.ext h).c 1 _ rfl, (BX9.out.ext h).c 2 _ rfl, (BX9.out.ext h).c 3 _ rfl, (BX9.out.ext h).c 4 _ rfl, (BX9.out.ext h).c 5 _ rfl, (BX9.out.ext h).c 6 _ rfl, (BX9.out.ext h).c 7 _ rfl, (BX9.out.ext h).c 8 _ rfl, (BX9.out.ext h).c 9 _ rfl, (BX9.out.ext h).c 10 _ rfl⟩)
       refine rgB 7 SS (ext_drew (ext_refl _)) (fun Q7 hQ7 hN7 hHeld => ?_)
       refine rgT 0 (some 92) hQ7 hHeld ?_; refine rgT 1 (some 93) hQ7 hHeld ?_; refine rgT 2 (some 94) hQ7 hHeld ?_; refine rgT 3 (some 95) hQ7 hHeld ?_; refine rgT 4 (some 96) hQ7 hHeld ?_
       refine rg_one (i := 5) (by kernel_rfl) (rg_step rfl (by rfl) (fun K hK => ?_))
       go_simp
       refine (HWC.out _ hHeld.1).mono ?_
       rintro e u1 ⟨rfl, B1⟩
       go_wp2_with fail
       refine hK.out _ _ ?_ (fun hHeld2 => ?_)
       ·exact SS.out _ (ext_trans hHeld.1 B1)
       clear hHeld
       have hHeld := hHeld2
       clear hHeld2
       clear hK K
       try simp only [Act.put, List.setIfInBounds_toArray, List.set_cons_zero, List.set_cons_succ]
       refine rg_one (i := 6) (by kernel_rfl) (rg_step rfl (by rfl) (fun K hK => ?_))
       go_simp
       refine ((vplus_any v u0 _ HVI.out (HGIN.out.mono (by omega)))).mono ?_
       rintro e u2 ⟨rfl, B2⟩
       go_wp2_with fail
       refine hK.out _ _ ?_ (fun hHeld2 => ?_)
       ·exact SS.out _ (ext_trans hHeld.1 B2)
       clear hHeld
       have hHeld := hHeld2
       clear hHeld2
       clear hK K
       try simp only [Act.put, List.setIfInBounds_toArray, List.set_cons_zero, List.set_cons_succ]
       rw [HZ.out]
       have HD := Lib.hid hHeld.1
       have yb := BV9.out.ext HD.out
       have y0 := yb.c 0 _ rfl
       have y1 := yb.c 1 _ rfl
       have y2 := yb.c 2 _ rfl
       have y3 := yb.c 3 _ rfl
       have yf := yb.f
       have yl := yb.lt
       clear yb
       refine rg_one (i := 7) (by kernel_rfl) (rg_late rfl (by rfl) (by kernel_rfl) (fun K hK => ?_))
       go_simp
       refine hK.out _ _ ?_
       clear hK K
       try simp only [Act.put, List.setIfInBounds_toArray, List.set_cons_zero, List.set_cons_succ]
       refine rg_end (by kernel_rfl) (hN7 _ _ ?_) _
       clear hQ7 hN7 Q7
       have BX := hHeld.1
       clear SS
       have HVF := Lib.hid ((BV9.out.ext HD.out).put4 (.int .i64 z.a) (.int .i64 z.b) (.int .i64 z.c) (.int .i64 z.d))
       have HEF := Lib.hid (ext_set4 (E9.out.trans (HD.out.mono E9.out.size)) wo.heap.size (.int .i64 z.a) (.int .i64 z.b) (.int .i64 z.c) (.int .i64 z.d) (Nat.le_refl _))
       have HIX := HI9.out.ext HD.out
       have hset : ∀ k, k ≠ wo.heap.size → (set4 u2 wo.heap.size (.int .i64 z.a) (.int .i64 z.b) (.int .i64 z.c) (.int .i64 z.d)).heap[k]? = u2.heap[k]? := fun k hk => by
        unfold set4
        rw [Below.heap_setCell _ _ _ k hk, Below.heap_setCell _ _ _ k hk, Below.heap_setCell _ _ _ k hk, Below.heap_setCell _ _ _ k hk]
       have hmb : X.m ≠ wo.heap.size := by have := HXo.out.g0.lt; omega
       have HIF := Lib.hid (HIX.of_block (hset _ hmb) (hset _ (by omega)))
       have hMF : Hid (gleft (set4 u2 wo.heap.size (.int .i64 z.a) (.int .i64 z.b) (.int .i64 z.c) (.int .i64 z.d)) (wo.heap.size + 1) < gleft wm (wo.heap.size + 1)) := by
        have h1 := HLT.out
        unfold Hid
        rw [HIF.out.gleft, ← HI7.out.gleft]; exact h1
       unfold set4 at HVF HEF HIF hMF
       clear HIX hset hmb y0 y1 y2 y3 yf yl BX
       clear HWC
       go_wp2_with fail
       go_roundw
       case rel => exact ⟨left6, z, HIF, HVF, HS6, HIN2, HEF⟩
       case measure => exact hMF.out
end Go.Proofs.YtjiojpoiocdnmaaGreat
