/- The examples hold. -/
import Derived.Test.YtjiojpoiocdnmaaGreatQE
set_option linter.unusedSimpArgs false
set_option linter.unusedVariables false
namespace Go.Proofs.YtjiojpoiocdnmaaGreat
open Go.RowKit
theorem Tab.ok.alloc {w : World} {t : Tab} (h : Tab.ok w t) (o : Obj) : Tab.ok (w.alloc o) t := h.ext (ext_alloc (ext_refl w) o)
/-- All that lay in w0 lies unchanged. -/
def Anc (w0 W : World) : Prop := Below w0.heap.size w0 W
theorem Anc.alloc {w0 W : World} (h : Anc w0 W) (o : Obj) : Anc w0 (W.alloc o) := ext_alloc h o
theorem Anc.ext {w0 W W' : World} (h : Anc w0 W) (hb : Below W.heap.size W W') : Anc w0 W' := ext_trans h hb
theorem Anc.size {w0 W : World} (h : Anc w0 W) : w0.heap.size ≤ W.heap.size := Below.size h
theorem Anc.set {w0 W : World} (h : Anc w0 W) (p : Addr) (v : Value) (hp : w0.heap.size ≤ p.block) : Anc w0 (W.setCell p v) := below_set h p v hp
def TrkS (W : World) (A : Option Addr) (c : Nat) (l : List Trk) : Prop := SliceOf.ok Trk.cells 14 Trk.ok W ⟨A, c, l⟩
theorem TrkS.ext {W W' : World} {A : Option Addr} {c : Nat} {l : List Trk} (h : TrkS W A c l) (hb : Below W.heap.size W W') : TrkS W' A c l := SliceOf.ok.ext h hb (fun _ k => k.ext hb)
theorem TrkS.alloc {W : World} {A : Option Addr} {c : Nat} {l : List Trk} (h : TrkS W A c l) (o : Obj) : TrkS (W.alloc o) A c l := h.ext (ext_alloc (ext_refl W) o)
/-- A result of Possible. -/
def PR (W : World) (base : Nat) (A : Option Addr) (r c : Nat) (L : List (List Bool)) : Prop := ∃ rows, Rows W base (.slice A r c) rows ∧ rows.map (·.l) = L ∧ r = rows.length
theorem PR.ext {W W' : World} {base : Nat} {A : Option Addr} {r c : Nat} {L : List (List Bool)} (h : PR W base A r c L) (hb : Below W.heap.size W W') : PR W' base A r c L := by
 obtain ⟨rows, h1, h2⟩ := h
 exact ⟨rows, h1.ext hb, h2⟩
theorem PR.alloc {W : World} {base : Nat} {A : Option Addr} {r c : Nat} {L : List (List Bool)} (h : PR W base A r c L) (o : Obj) : PR (W.alloc o) base A r c L := h.ext (ext_alloc (ext_refl W) o)
theorem PR.far {W : World} {base : Nat} {A : Option Addr} {r c : Nat} {L : List (List Bool)} (h : PR W base A r c L) {p : Addr} (v : Value) (hp : p.block < base) : PR (W.setCell p v) base A r c L := by
 obtain ⟨rows, h1, h2⟩ := h
 exact ⟨rows, h1.far_set hp, h2⟩
theorem PR.low {W : World} {base b2 : Nat} {A : Option Addr} {r c : Nat} {L : List (List Bool)} (h : PR W base A r c L) (hb : b2 ≤ base) : PR W b2 A r c L := by
 obtain ⟨rows, h1, h2⟩ := h
 exact ⟨rows, ⟨h1.o.low hb, fun x hx => ⟨Nat.le_trans hb (h1.r x hx).1, (h1.r x hx).2⟩, h1.nd⟩, h2⟩
/-- Rows that lie somewhere. -/
def RA (W : World) (A : Option Addr) (r : Nat) (L : List (List Bool)) : Prop := ∃ rows : List BR, Slc W BR.enc 1 A rows ∧ (∀ x ∈ rows, x.ok W) ∧ rows.map (·.l) = L ∧ r = rows.length
theorem RA.ext {W W' : World} {A : Option Addr} {r : Nat} {L : List (List Bool)} (h : RA W A r L) (hb : Below W.heap.size W W') : RA W' A r L := by
 obtain ⟨rows, h1, h2, h3⟩ := h
 exact ⟨rows, h1.ext hb, fun x hx => Below.cellsB hb (h2 x hx), h3⟩
theorem RA.alloc {W : World} {A : Option Addr} {r : Nat} {L : List (List Bool)} (h : RA W A r L) (o : Obj) : RA (W.alloc o) A r L := h.ext (ext_alloc (ext_refl W) o)
theorem PR.ra {W : World} {base : Nat} {A : Option Addr} {r c : Nat} {L : List (List Bool)} (h : PR W base A r c L) : RA W A r L := by
 obtain ⟨rows, h1, h2, h3⟩ := h
 exact ⟨rows, h1.o.slc (fun _ => rfl) (by decide), fun x hx => (h1.r x hx).2, h2, h3⟩
theorem ra_one (W : World) (q : List Bool) (cs1 cs2 : List Value) (h1 : cs1 = q.map Value.bool) (h2 : cs2 = [.slice (some ⟨W.heap.size, 0, none⟩) q.length q.length]) : RA ((W.alloc (.cells cs1.toArray 4)).alloc (.cells cs2.toArray 50)) (some ⟨W.heap.size + 1, 0, none⟩) 1 [q] := by
 subst h1 h2
 refine ⟨[⟨W.heap.size, q⟩], slc_litH _ _ _ 50 (enc := BR.enc) (sz := 1) (fun _ => rfl) rfl _ (by simp), fun x hx => ?_, rfl, rfl⟩
 rw [List.mem_singleton] at hx
 subst hx
 have q2 := World.alloc_heap_new W (.cells (q.map Value.bool).toArray 4)
 exact ((ext_alloc (ext_refl (W.alloc _)) _).block W.heap.size (by simp)).trans q2
theorem same_ra {W : World} {A A2 : Option Addr} {r r2 c c2 : Nat} {L L2 : List (List Bool)} (B : Bool) (hB : decide (L = L2) = B) (h : RA W A r L) (k : RA W A2 r2 L2) (hl : L.length ≤ 100000) (hm : ∀ x ∈ L, x.length ≤ 100000) : Calls Tryz.prog 13 #[.slice A r c, .slice A2 r2 c2] W (RetB W B) := by
 obtain ⟨rows, h1, h2, h3, h4⟩ := h
 obtain ⟨rows2, k1, k2, k3, k4⟩ := k
 refine same_at B (by rw [h3, k3]; exact hB) h4 k4 (by have := congrArg List.length h3; simp at this; omega) h1 k1 h2 k2 (fun x hx => ?_)
 have : x.l ∈ rows.map (·.l) := List.mem_map.2 ⟨x, hx, rfl⟩
 rw [h3] at this
 exact hm _ this
theorem poss_lit {t : Tab} {SA RA LA : Option Addr} {sn sc rn rc ln lc : Nat} {s : List Stn} {R : List Rep} {l : List Trk} {w : World} (E : Int) (r : Nat) (L : List (List Bool)) (hE : possErr t s R l = E) (hL : possV t s R l = L) (hr : L.length = r) (hsn : sn = s.length) (hrn : rn = R.length) (hln : ln = l.length) (ht : Tab.ok w t) (hs : SliceOf.ok Stn.cells 3 Stn.ok w ⟨SA, sc, s⟩) (hR : Slc w Rep.cells 6 RA R) (hl : TrkS w LA lc l) (h1 : s.length ≤ 100) (h2 : R.length ≤ 100) (h3 : l.length ≤ 100) :
  Calls Tryz.prog 11 #[t.v, .slice SA sn sc, .slice RA rn rc, .slice LA ln lc] w fun e w' => ∃ A c, e = .returned (.tuple #[.slice A r c, .int .i64 E]) ∧ PR w' w.heap.size A r c L ∧ Below w.heap.size w w' := by
 subst hsn hrn hln hE
 refine (possR_at t SA sc s RA rc R LA lc l w ht hs hR hl h1 h2 h3).mono ?_
 rintro e w' ⟨A, c, rows, rfl, h4, h5, h6⟩
 have hn : rows.length = r := by rw [← hr, ← hL, ← h5, List.length_map]
 refine ⟨A, c, by rw [hn], ⟨rows, by rw [hn] at h4; exact h4, by rw [h5, hL], hn.symm⟩, h6⟩
theorem world_lit {t : Tab} {SA RA LA PA : Option Addr} {sn sc rn rc ln lc pn pc : Nat} {s : List Stn} {R : List Rep} {l : List Trk} {p : List Int} {w : World} (E : Int) (b : Bool) (hE : worldErr t s R l p = E) (hb : worldV t s R l p = b) (hsn : sn = s.length) (hrn : rn = R.length) (hln : ln = l.length) (hpn : pn = p.length) (ht : Tab.ok w t) (hs : SliceOf.ok Stn.cells 3 Stn.ok w ⟨SA, sc, s⟩) (hR : Slc w Rep.cells 6 RA R) (hl : TrkS w LA lc l) (hp : Slc w ic 1 PA p) (hpl : p.length ≤ maxLen) (h1 : s.length ≤ 100) (h2 : R.length ≤ 100) (h3 : l.length ≤ 100) :
  Calls Tryz.prog 15 #[t.v, .slice SA sn sc, .slice RA rn rc, .slice LA ln lc, .slice PA pn pc] w fun e w' => e = .returned (.tuple #[.bool b, .int .i64 E]) ∧ Below w.heap.size w w' := by
 subst hsn hrn hln hpn hE hb
 exact (world_of t SA sc s RA rc R LA lc l PA pc p w ht hs hR hl hp hpl h1 h2 h3).mono (fun _ _ h => worldR_of h)
theorem slc_one {α : Type} {enc : α → List Value} {sz : Nat} {W : World} {b : Nat} {x : α} {cs : List Value} (h : Blk W b cs) (hc : cs = enc x) : Slc W enc sz (some ⟨b, 0, none⟩) [x] := by
 subst hc
 intro i y hy
 cases i with
 | zero =>
  simp only [List.getElem?_cons_zero, Option.some.injEq] at hy
  subst hy
  exact ⟨b, 0, rfl, h.lt, fun j v hj => by simpa using h.c j v hj⟩
 | succ i => simp at hy
theorem stn_one {W : World} {b : Nat} {A : Addr} {sh : Int} {cs : List Value} (h : Blk W b cs) (hc : cs = Stn.cells ⟨⟨some A, 1, [0]⟩, sh, 0⟩) (h5 : Slc W ic 1 (some A) [0]) : SliceOf.ok Stn.cells 3 Stn.ok W ⟨some ⟨b, 0, none⟩, 1, exS (some A) sh⟩ :=
 okS (slc_one h hc) rfl (by decide) (all1 (okS h5 rfl (by decide) (all1 (wf64 (by decide) (by decide)))))
theorem stn_nil {W : World} : SliceOf.ok Stn.cells 3 Stn.ok W ⟨none, 0, []⟩ := okN0
theorem trk_nil {W : World} : TrkS W none 0 [] := okN0
set_option maxRecDepth 100000 in
set_option maxHeartbeats 64000000 in
theorem sane_any (w : World) : Calls Tryz.prog 9 #[] w fun e w' => e = .returned (.bool true) ∧ Below w.heap.size w w' := by
 go_enter Tryz.func9, Tryz.ntmps9
 go_wp2_with fail
 refine (tables_any w).mono ?_
 rintro e w1 ⟨a, rfl, hT, B0⟩
 obtain ⟨t, hta⟩ : ∃ t, exT a = t := ⟨_, rfl⟩
 have HTA := Lib.hid hta
 rw [hta] at hT ⊢
 clear hta
 have E := Lib.hid B0
 have HT := Lib.hid hT
 have hwz := B0.size
 clear B0 hT
 replace E := Lib.hid (ext_alloc E.out (.cells #[.int .i64 t.n, .slice t.ss.A t.ss.l.length t.ss.c, .slice t.cs.A t.cs.l.length t.cs.c, .slice t.ws.A t.ws.l.length t.ws.c, .slice t.ms.A t.ms.l.length t.ms.c, .slice t.ks.A t.ks.l.length t.ks.c] 28))
 replace HT := Lib.hid (HT.out.alloc (.cells #[.int .i64 t.n, .slice t.ss.A t.ss.l.length t.ss.c, .slice t.cs.A t.cs.l.length t.cs.c, .slice t.ws.A t.ws.l.length t.ws.c, .slice t.ms.A t.ms.l.length t.ms.c, .slice t.ks.A t.ks.l.length t.ks.c] 28))
 have T1 := Lib.hid (Blk.newH w1 [.int .i64 t.n, .slice t.ss.A t.ss.l.length t.ss.c, .slice t.cs.A t.cs.l.length t.cs.c, .slice t.ws.A t.ws.l.length t.ws.c, .slice t.ms.A t.ms.l.length t.ms.c, .slice t.ks.A t.ks.l.length t.ks.c] 28 (w1.heap.size) (by first | rfl | simp))
 replace E := Lib.hid (ext_alloc E.out (.cells #[.int .i64 60, .int .i64 67] 3))
 replace HT := Lib.hid (HT.out.alloc (.cells #[.int .i64 60, .int .i64 67] 3))
 replace T1 := Lib.hid (T1.out.alloc (.cells #[.int .i64 60, .int .i64 67] 3))
 have S1 := Lib.hid (slc_litH (w1.alloc (.cells #[.int .i64 t.n, .slice t.ss.A t.ss.l.length t.ss.c, .slice t.cs.A t.cs.l.length t.cs.c, .slice t.ws.A t.ws.l.length t.ws.c, .slice t.ms.A t.ms.l.length t.ms.c, .slice t.ks.A t.ks.l.length t.ks.c] 28)) ([60, 67] : List Int) #[.int .i64 60, .int .i64 67] 3 (enc := ic) (sz := 1) (fun _ => rfl) rfl (w1.heap.size + 1) (by simp))
 replace E := Lib.hid (ext_alloc E.out (.cells #[.int .i64 62, .int .i64 70] 3))
 replace HT := Lib.hid (HT.out.alloc (.cells #[.int .i64 62, .int .i64 70] 3))
 replace T1 := Lib.hid (T1.out.alloc (.cells #[.int .i64 62, .int .i64 70] 3))
 replace S1 := Lib.hid (S1.out.alloc (.cells #[.int .i64 62, .int .i64 70] 3))
 have S2 := Lib.hid (slc_litH ((w1.alloc (.cells #[.int .i64 t.n, .slice t.ss.A t.ss.l.length t.ss.c, .slice t.cs.A t.cs.l.length t.cs.c, .slice t.ws.A t.ws.l.length t.ws.c, .slice t.ms.A t.ms.l.length t.ms.c, .slice t.ks.A t.ks.l.length t.ks.c] 28)).alloc (.cells #[.int .i64 60, .int .i64 67] 3)) ([62, 70] : List Int) #[.int .i64 62, .int .i64 70] 3 (enc := ic) (sz := 1) (fun _ => rfl) rfl (w1.heap.size + 1 + 1) (by simp))
 replace E := Lib.hid (ext_alloc E.out (.cells #[.int .i64 0, .slice (some ⟨w1.heap.size + 1, 0, none⟩) 2 2, .int .i64 0, .slice (some ⟨w1.heap.size + 1 + 1, 0, none⟩) 2 2] 71))
 replace HT := Lib.hid (HT.out.alloc (.cells #[.int .i64 0, .slice (some ⟨w1.heap.size + 1, 0, none⟩) 2 2, .int .i64 0, .slice (some ⟨w1.heap.size + 1 + 1, 0, none⟩) 2 2] 71))
 replace T1 := Lib.hid (T1.out.alloc (.cells #[.int .i64 0, .slice (some ⟨w1.heap.size + 1, 0, none⟩) 2 2, .int .i64 0, .slice (some ⟨w1.heap.size + 1 + 1, 0, none⟩) 2 2] 71))
 replace S1 := Lib.hid (S1.out.alloc (.cells #[.int .i64 0, .slice (some ⟨w1.heap.size + 1, 0, none⟩) 2 2, .int .i64 0, .slice (some ⟨w1.heap.size + 1 + 1, 0, none⟩) 2 2] 71))
 replace S2 := Lib.hid (S2.out.alloc (.cells #[.int .i64 0, .slice (some ⟨w1.heap.size + 1, 0, none⟩) 2 2, .int .i64 0, .slice (some ⟨w1.heap.size + 1 + 1, 0, none⟩) 2 2] 71))
 have S3 := Lib.hid (slc_litH (((w1.alloc (.cells #[.int .i64 t.n, .slice t.ss.A t.ss.l.length t.ss.c, .slice t.cs.A t.cs.l.length t.cs.c, .slice t.ws.A t.ws.l.length t.ws.c, .slice t.ms.A t.ms.l.length t.ms.c, .slice t.ks.A t.ks.l.length t.ks.c] 28)).alloc (.cells #[.int .i64 60, .int .i64 67] 3)).alloc (.cells #[.int .i64 62, .int .i64 70] 3)) ([⟨0, ⟨(some ⟨w1.heap.size + 1, 0, none⟩), 2, [60, 67]⟩⟩, ⟨0, ⟨(some ⟨w1.heap.size + 1 + 1, 0, none⟩), 2, [62, 70]⟩⟩] : List Pth) #[.int .i64 0, .slice (some ⟨w1.heap.size + 1, 0, none⟩) 2 2, .int .i64 0, .slice (some ⟨w1.heap.size + 1 + 1, 0, none⟩) 2 2] 71 (enc := Pth.cells) (sz := 2) (fun _ => rfl) rfl (w1.heap.size + 1 + 1 + 1) (by simp))
 replace E := Lib.hid (ext_alloc E.out (.cells #[.int .i64 0, .int .i64 0, .int .i64 0, .string ⟨#[102]⟩, .slice none 0 0, .int .i64 0, .int .i64 0, .bool false, .int .i64 0, .int .i64 0, .int .i64 0, .bool false, .slice (some ⟨w1.heap.size + 1 + 1 + 1, 0, none⟩) 2 2, .slice none 0 0] 52))
 replace HT := Lib.hid (HT.out.alloc (.cells #[.int .i64 0, .int .i64 0, .int .i64 0, .string ⟨#[102]⟩, .slice none 0 0, .int .i64 0, .int .i64 0, .bool false, .int .i64 0, .int .i64 0, .int .i64 0, .bool false, .slice (some ⟨w1.heap.size + 1 + 1 + 1, 0, none⟩) 2 2, .slice none 0 0] 52))
 replace T1 := Lib.hid (T1.out.alloc (.cells #[.int .i64 0, .int .i64 0, .int .i64 0, .string ⟨#[102]⟩, .slice none 0 0, .int .i64 0, .int .i64 0, .bool false, .int .i64 0, .int .i64 0, .int .i64 0, .bool false, .slice (some ⟨w1.heap.size + 1 + 1 + 1, 0, none⟩) 2 2, .slice none 0 0] 52))
 replace S1 := Lib.hid (S1.out.alloc (.cells #[.int .i64 0, .int .i64 0, .int .i64 0, .string ⟨#[102]⟩, .slice none 0 0, .int .i64 0, .int .i64 0, .bool false, .int .i64 0, .int .i64 0, .int .i64 0, .bool false, .slice (some ⟨w1.heap.size + 1 + 1 + 1, 0, none⟩) 2 2, .slice none 0 0] 52))
 replace S2 := Lib.hid (S2.out.alloc (.cells #[.int .i64 0, .int .i64 0, .int .i64 0, .string ⟨#[102]⟩, .slice none 0 0, .int .i64 0, .int .i64 0, .bool false, .int .i64 0, .int .i64 0, .int .i64 0, .bool false, .slice (some ⟨w1.heap.size + 1 + 1 + 1, 0, none⟩) 2 2, .slice none 0 0] 52))
 replace S3 := Lib.hid (S3.out.alloc (.cells #[.int .i64 0, .int .i64 0, .int .i64 0, .string ⟨#[102]⟩, .slice none 0 0, .int .i64 0, .int .i64 0, .bool false, .int .i64 0, .int .i64 0, .int .i64 0, .bool false, .slice (some ⟨w1.heap.size + 1 + 1 + 1, 0, none⟩) 2 2, .slice none 0 0] 52))
 have S4 := Lib.hid (slc_litH ((((w1.alloc (.cells #[.int .i64 t.n, .slice t.ss.A t.ss.l.length t.ss.c, .slice t.cs.A t.cs.l.length t.cs.c, .slice t.ws.A t.ws.l.length t.ws.c, .slice t.ms.A t.ms.l.length t.ms.c, .slice t.ks.A t.ks.l.length t.ks.c] 28)).alloc (.cells #[.int .i64 60, .int .i64 67] 3)).alloc (.cells #[.int .i64 62, .int .i64 70] 3)).alloc (.cells #[.int .i64 0, .slice (some ⟨w1.heap.size + 1, 0, none⟩) 2 2, .int .i64 0, .slice (some ⟨w1.heap.size + 1 + 1, 0, none⟩) 2 2] 71)) (exL (some ⟨w1.heap.size + 1 + 1 + 1, 0, none⟩) (some ⟨w1.heap.size + 1, 0, none⟩) (some ⟨w1.heap.size + 1 + 1, 0, none⟩)) #[.int .i64 0, .int .i64 0, .int .i64 0, .string ⟨#[102]⟩, .slice none 0 0, .int .i64 0, .int .i64 0, .bool false, .int .i64 0, .int .i64 0, .int .i64 0, .bool false, .slice (some ⟨w1.heap.size + 1 + 1 + 1, 0, none⟩) 2 2, .slice none 0 0] 52 (enc := Trk.cells) (sz := 14) (fun _ => rfl) rfl (w1.heap.size + 1 + 1 + 1 + 1) (by simp))
 have iw : ∀ n : Int, 0 ≤ n → n ≤ 1000 → (Lit.int .i64 n).wf = true := fun n h0 h1 => wf64 (by omega) (by omega)
 have PT1 : Pth.ok (((((w1.alloc (.cells #[.int .i64 t.n, .slice t.ss.A t.ss.l.length t.ss.c, .slice t.cs.A t.cs.l.length t.cs.c, .slice t.ws.A t.ws.l.length t.ws.c, .slice t.ms.A t.ms.l.length t.ms.c, .slice t.ks.A t.ks.l.length t.ks.c] 28)).alloc (.cells #[.int .i64 60, .int .i64 67] 3)).alloc (.cells #[.int .i64 62, .int .i64 70] 3)).alloc (.cells #[.int .i64 0, .slice (some ⟨w1.heap.size + 1, 0, none⟩) 2 2, .int .i64 0, .slice (some ⟨w1.heap.size + 1 + 1, 0, none⟩) 2 2] 71)).alloc (.cells #[.int .i64 0, .int .i64 0, .int .i64 0, .string ⟨#[102]⟩, .slice none 0 0, .int .i64 0, .int .i64 0, .bool false, .int .i64 0, .int .i64 0, .int .i64 0, .bool false, .slice (some ⟨w1.heap.size + 1 + 1 + 1, 0, none⟩) 2 2, .slice none 0 0] 52)) ⟨0, ⟨(some ⟨w1.heap.size + 1, 0, none⟩), 2, [60, 67]⟩⟩ := okS S1.out rfl (by decide) (all2 (iw _ (by decide) (by decide)) (iw _ (by decide) (by decide)))
 have PT2 : Pth.ok (((((w1.alloc (.cells #[.int .i64 t.n, .slice t.ss.A t.ss.l.length t.ss.c, .slice t.cs.A t.cs.l.length t.cs.c, .slice t.ws.A t.ws.l.length t.ws.c, .slice t.ms.A t.ms.l.length t.ms.c, .slice t.ks.A t.ks.l.length t.ks.c] 28)).alloc (.cells #[.int .i64 60, .int .i64 67] 3)).alloc (.cells #[.int .i64 62, .int .i64 70] 3)).alloc (.cells #[.int .i64 0, .slice (some ⟨w1.heap.size + 1, 0, none⟩) 2 2, .int .i64 0, .slice (some ⟨w1.heap.size + 1 + 1, 0, none⟩) 2 2] 71)).alloc (.cells #[.int .i64 0, .int .i64 0, .int .i64 0, .string ⟨#[102]⟩, .slice none 0 0, .int .i64 0, .int .i64 0, .bool false, .int .i64 0, .int .i64 0, .int .i64 0, .bool false, .slice (some ⟨w1.heap.size + 1 + 1 + 1, 0, none⟩) 2 2, .slice none 0 0] 52)) ⟨0, ⟨(some ⟨w1.heap.size + 1 + 1, 0, none⟩), 2, [62, 70]⟩⟩ := okS S2.out rfl (by decide) (all2 (iw _ (by decide) (by decide)) (iw _ (by decide) (by decide)))
 have LT : Hid (TrkS (((((w1.alloc (.cells #[.int .i64 t.n, .slice t.ss.A t.ss.l.length t.ss.c, .slice t.cs.A t.cs.l.length t.cs.c, .slice t.ws.A t.ws.l.length t.ws.c, .slice t.ms.A t.ms.l.length t.ms.c, .slice t.ks.A t.ks.l.length t.ks.c] 28)).alloc (.cells #[.int .i64 60, .int .i64 67] 3)).alloc (.cells #[.int .i64 62, .int .i64 70] 3)).alloc (.cells #[.int .i64 0, .slice (some ⟨w1.heap.size + 1, 0, none⟩) 2 2, .int .i64 0, .slice (some ⟨w1.heap.size + 1 + 1, 0, none⟩) 2 2] 71)).alloc (.cells #[.int .i64 0, .int .i64 0, .int .i64 0, .string ⟨#[102]⟩, .slice none 0 0, .int .i64 0, .int .i64 0, .bool false, .int .i64 0, .int .i64 0, .int .i64 0, .bool false, .slice (some ⟨w1.heap.size + 1 + 1 + 1, 0, none⟩) 2 2, .slice none 0 0] 52)) (some ⟨w1.heap.size + 1 + 1 + 1 + 1, 0, none⟩) 1 (exL (some ⟨w1.heap.size + 1 + 1 + 1, 0, none⟩) (some ⟨w1.heap.size + 1, 0, none⟩) (some ⟨w1.heap.size + 1 + 1, 0, none⟩))) := okS S4.out rfl (by decide) (all1 ⟨⟨Nat.le_refl _, by show (0 : Nat) ≤ maxLen; decide, trivial⟩, trivial, okS S3.out rfl (by decide) (all2 PT1 PT2), Nat.le_refl _, by show (0 : Nat) ≤ maxLen; decide⟩)
 clear iw PT1 PT2
 have AN : Hid (Anc (((((w1.alloc (.cells #[.int .i64 t.n, .slice t.ss.A t.ss.l.length t.ss.c, .slice t.cs.A t.cs.l.length t.cs.c, .slice t.ws.A t.ws.l.length t.ws.c, .slice t.ms.A t.ms.l.length t.ms.c, .slice t.ks.A t.ks.l.length t.ks.c] 28)).alloc (.cells #[.int .i64 60, .int .i64 67] 3)).alloc (.cells #[.int .i64 62, .int .i64 70] 3)).alloc (.cells #[.int .i64 0, .slice (some ⟨w1.heap.size + 1, 0, none⟩) 2 2, .int .i64 0, .slice (some ⟨w1.heap.size + 1 + 1, 0, none⟩) 2 2] 71)).alloc (.cells #[.int .i64 0, .int .i64 0, .int .i64 0, .string ⟨#[102]⟩, .slice none 0 0, .int .i64 0, .int .i64 0, .bool false, .int .i64 0, .int .i64 0, .int .i64 0, .bool false, .slice (some ⟨w1.heap.size + 1 + 1 + 1, 0, none⟩) 2 2, .slice none 0 0] 52)) (((((w1.alloc (.cells #[.int .i64 t.n, .slice t.ss.A t.ss.l.length t.ss.c, .slice t.cs.A t.cs.l.length t.cs.c, .slice t.ws.A t.ws.l.length t.ws.c, .slice t.ms.A t.ms.l.length t.ms.c, .slice t.ks.A t.ks.l.length t.ks.c] 28)).alloc (.cells #[.int .i64 60, .int .i64 67] 3)).alloc (.cells #[.int .i64 62, .int .i64 70] 3)).alloc (.cells #[.int .i64 0, .slice (some ⟨w1.heap.size + 1, 0, none⟩) 2 2, .int .i64 0, .slice (some ⟨w1.heap.size + 1 + 1, 0, none⟩) 2 2] 71)).alloc (.cells #[.int .i64 0, .int .i64 0, .int .i64 0, .string ⟨#[102]⟩, .slice none 0 0, .int .i64 0, .int .i64 0, .bool false, .int .i64 0, .int .i64 0, .int .i64 0, .bool false, .slice (some ⟨w1.heap.size + 1 + 1 + 1, 0, none⟩) 2 2, .slice none 0 0] 52))) := ext_refl _
 clear S1 S2 S3 S4
 replace E := Lib.hid (ext_alloc E.out (.cells #[.int .i64 0] 3))
 replace T1 := Lib.hid (T1.out.alloc (.cells #[.int .i64 0] 3))
 replace AN := Lib.hid (AN.out.alloc (.cells #[.int .i64 0] 3))
 have S5 := Lib.hid (Blk.newH (((((w1.alloc (.cells #[.int .i64 t.n, .slice t.ss.A t.ss.l.length t.ss.c, .slice t.cs.A t.cs.l.length t.cs.c, .slice t.ws.A t.ws.l.length t.ws.c, .slice t.ms.A t.ms.l.length t.ms.c, .slice t.ks.A t.ks.l.length t.ks.c] 28)).alloc (.cells #[.int .i64 60, .int .i64 67] 3)).alloc (.cells #[.int .i64 62, .int .i64 70] 3)).alloc (.cells #[.int .i64 0, .slice (some ⟨w1.heap.size + 1, 0, none⟩) 2 2, .int .i64 0, .slice (some ⟨w1.heap.size + 1 + 1, 0, none⟩) 2 2] 71)).alloc (.cells #[.int .i64 0, .int .i64 0, .int .i64 0, .string ⟨#[102]⟩, .slice none 0 0, .int .i64 0, .int .i64 0, .bool false, .int .i64 0, .int .i64 0, .int .i64 0, .bool false, .slice (some ⟨w1.heap.size + 1 + 1 + 1, 0, none⟩) 2 2, .slice none 0 0] 52)) [.int .i64 0] 3 (w1.heap.size + 1 + 1 + 1 + 1 + 1) (by first | rfl | simp))
 replace E := Lib.hid (ext_alloc E.out (.cells #[.slice (some ⟨w1.heap.size + 1 + 1 + 1 + 1 + 1, 0, none⟩) 1 1, .int .i64 0, .int .i64 0] 41))
 replace T1 := Lib.hid (T1.out.alloc (.cells #[.slice (some ⟨w1.heap.size + 1 + 1 + 1 + 1 + 1, 0, none⟩) 1 1, .int .i64 0, .int .i64 0] 41))
 replace AN := Lib.hid (AN.out.alloc (.cells #[.slice (some ⟨w1.heap.size + 1 + 1 + 1 + 1 + 1, 0, none⟩) 1 1, .int .i64 0, .int .i64 0] 41))
 replace S5 := Lib.hid (S5.out.alloc (.cells #[.slice (some ⟨w1.heap.size + 1 + 1 + 1 + 1 + 1, 0, none⟩) 1 1, .int .i64 0, .int .i64 0] 41))
 have ST := Lib.hid (Blk.newH ((((((w1.alloc (.cells #[.int .i64 t.n, .slice t.ss.A t.ss.l.length t.ss.c, .slice t.cs.A t.cs.l.length t.cs.c, .slice t.ws.A t.ws.l.length t.ws.c, .slice t.ms.A t.ms.l.length t.ms.c, .slice t.ks.A t.ks.l.length t.ks.c] 28)).alloc (.cells #[.int .i64 60, .int .i64 67] 3)).alloc (.cells #[.int .i64 62, .int .i64 70] 3)).alloc (.cells #[.int .i64 0, .slice (some ⟨w1.heap.size + 1, 0, none⟩) 2 2, .int .i64 0, .slice (some ⟨w1.heap.size + 1 + 1, 0, none⟩) 2 2] 71)).alloc (.cells #[.int .i64 0, .int .i64 0, .int .i64 0, .string ⟨#[102]⟩, .slice none 0 0, .int .i64 0, .int .i64 0, .bool false, .int .i64 0, .int .i64 0, .int .i64 0, .bool false, .slice (some ⟨w1.heap.size + 1 + 1 + 1, 0, none⟩) 2 2, .slice none 0 0] 52)).alloc (.cells #[.int .i64 0] 3)) [.slice (some ⟨w1.heap.size + 1 + 1 + 1 + 1 + 1, 0, none⟩) 1 1, .int .i64 0, .int .i64 0] 41 (w1.heap.size + 1 + 1 + 1 + 1 + 1 + 1) (by first | rfl | simp))
 replace E := Lib.hid (ext_alloc E.out (.cells #[.int .i64 0, .int .i64 1, .int .i64 61, .int .i64 0, .string ⟨#[102]⟩, .int .i64 0] 55))
 replace T1 := Lib.hid (T1.out.alloc (.cells #[.int .i64 0, .int .i64 1, .int .i64 61, .int .i64 0, .string ⟨#[102]⟩, .int .i64 0] 55))
 replace AN := Lib.hid (AN.out.alloc (.cells #[.int .i64 0, .int .i64 1, .int .i64 61, .int .i64 0, .string ⟨#[102]⟩, .int .i64 0] 55))
 replace S5 := Lib.hid (S5.out.alloc (.cells #[.int .i64 0, .int .i64 1, .int .i64 61, .int .i64 0, .string ⟨#[102]⟩, .int .i64 0] 55))
 replace ST := Lib.hid (ST.out.alloc (.cells #[.int .i64 0, .int .i64 1, .int .i64 61, .int .i64 0, .string ⟨#[102]⟩, .int .i64 0] 55))
 have R1 := Lib.hid (Blk.newH (((((((w1.alloc (.cells #[.int .i64 t.n, .slice t.ss.A t.ss.l.length t.ss.c, .slice t.cs.A t.cs.l.length t.cs.c, .slice t.ws.A t.ws.l.length t.ws.c, .slice t.ms.A t.ms.l.length t.ms.c, .slice t.ks.A t.ks.l.length t.ks.c] 28)).alloc (.cells #[.int .i64 60, .int .i64 67] 3)).alloc (.cells #[.int .i64 62, .int .i64 70] 3)).alloc (.cells #[.int .i64 0, .slice (some ⟨w1.heap.size + 1, 0, none⟩) 2 2, .int .i64 0, .slice (some ⟨w1.heap.size + 1 + 1, 0, none⟩) 2 2] 71)).alloc (.cells #[.int .i64 0, .int .i64 0, .int .i64 0, .string ⟨#[102]⟩, .slice none 0 0, .int .i64 0, .int .i64 0, .bool false, .int .i64 0, .int .i64 0, .int .i64 0, .bool false, .slice (some ⟨w1.heap.size + 1 + 1 + 1, 0, none⟩) 2 2, .slice none 0 0] 52)).alloc (.cells #[.int .i64 0] 3)).alloc (.cells #[.slice (some ⟨w1.heap.size + 1 + 1 + 1 + 1 + 1, 0, none⟩) 1 1, .int .i64 0, .int .i64 0] 41)) [.int .i64 0, .int .i64 1, .int .i64 61, .int .i64 0, .string ⟨#[102]⟩, .int .i64 0] 55 (w1.heap.size + 1 + 1 + 1 + 1 + 1 + 1 + 1) (by first | rfl | simp))
 replace E := Lib.hid (ext_alloc E.out (.cells #[.int .i64 0, .int .i64 2, .int .i64 61, .int .i64 0, .string ⟨#[103]⟩, .int .i64 0] 55))
 replace T1 := Lib.hid (T1.out.alloc (.cells #[.int .i64 0, .int .i64 2, .int .i64 61, .int .i64 0, .string ⟨#[103]⟩, .int .i64 0] 55))
 replace AN := Lib.hid (AN.out.alloc (.cells #[.int .i64 0, .int .i64 2, .int .i64 61, .int .i64 0, .string ⟨#[103]⟩, .int .i64 0] 55))
 replace S5 := Lib.hid (S5.out.alloc (.cells #[.int .i64 0, .int .i64 2, .int .i64 61, .int .i64 0, .string ⟨#[103]⟩, .int .i64 0] 55))
 replace ST := Lib.hid (ST.out.alloc (.cells #[.int .i64 0, .int .i64 2, .int .i64 61, .int .i64 0, .string ⟨#[103]⟩, .int .i64 0] 55))
 replace R1 := Lib.hid (R1.out.alloc (.cells #[.int .i64 0, .int .i64 2, .int .i64 61, .int .i64 0, .string ⟨#[103]⟩, .int .i64 0] 55))
 have R2 := Lib.hid (Blk.newH ((((((((w1.alloc (.cells #[.int .i64 t.n, .slice t.ss.A t.ss.l.length t.ss.c, .slice t.cs.A t.cs.l.length t.cs.c, .slice t.ws.A t.ws.l.length t.ws.c, .slice t.ms.A t.ms.l.length t.ms.c, .slice t.ks.A t.ks.l.length t.ks.c] 28)).alloc (.cells #[.int .i64 60, .int .i64 67] 3)).alloc (.cells #[.int .i64 62, .int .i64 70] 3)).alloc (.cells #[.int .i64 0, .slice (some ⟨w1.heap.size + 1, 0, none⟩) 2 2, .int .i64 0, .slice (some ⟨w1.heap.size + 1 + 1, 0, none⟩) 2 2] 71)).alloc (.cells #[.int .i64 0, .int .i64 0, .int .i64 0, .string ⟨#[102]⟩, .slice none 0 0, .int .i64 0, .int .i64 0, .bool false, .int .i64 0, .int .i64 0, .int .i64 0, .bool false, .slice (some ⟨w1.heap.size + 1 + 1 + 1, 0, none⟩) 2 2, .slice none 0 0] 52)).alloc (.cells #[.int .i64 0] 3)).alloc (.cells #[.slice (some ⟨w1.heap.size + 1 + 1 + 1 + 1 + 1, 0, none⟩) 1 1, .int .i64 0, .int .i64 0] 41)).alloc (.cells #[.int .i64 0, .int .i64 1, .int .i64 61, .int .i64 0, .string ⟨#[102]⟩, .int .i64 0] 55)) [.int .i64 0, .int .i64 2, .int .i64 61, .int .i64 0, .string ⟨#[103]⟩, .int .i64 0] 55 (w1.heap.size + 1 + 1 + 1 + 1 + 1 + 1 + 1 + 1) (by first | rfl | simp))
 obtain ⟨W2, hW2⟩ : ∃ x, (((((((((w1.alloc (.cells #[.int .i64 t.n, .slice t.ss.A t.ss.l.length t.ss.c, .slice t.cs.A t.cs.l.length t.cs.c, .slice t.ws.A t.ws.l.length t.ws.c, .slice t.ms.A t.ms.l.length t.ms.c, .slice t.ks.A t.ks.l.length t.ks.c] 28)).alloc (.cells #[.int .i64 60, .int .i64 67] 3)).alloc (.cells #[.int .i64 62, .int .i64 70] 3)).alloc (.cells #[.int .i64 0, .slice (some ⟨w1.heap.size + 1, 0, none⟩) 2 2, .int .i64 0, .slice (some ⟨w1.heap.size + 1 + 1, 0, none⟩) 2 2] 71)).alloc (.cells #[.int .i64 0, .int .i64 0, .int .i64 0, .string ⟨#[102]⟩, .slice none 0 0, .int .i64 0, .int .i64 0, .bool false, .int .i64 0, .int .i64 0, .int .i64 0, .bool false, .slice (some ⟨w1.heap.size + 1 + 1 + 1, 0, none⟩) 2 2, .slice none 0 0] 52)).alloc (.cells #[.int .i64 0] 3)).alloc (.cells #[.slice (some ⟨w1.heap.size + 1 + 1 + 1 + 1 + 1, 0, none⟩) 1 1, .int .i64 0, .int .i64 0] 41)).alloc (.cells #[.int .i64 0, .int .i64 1, .int .i64 61, .int .i64 0, .string ⟨#[102]⟩, .int .i64 0] 55)).alloc (.cells #[.int .i64 0, .int .i64 2, .int .i64 61, .int .i64 0, .string ⟨#[103]⟩, .int .i64 0] 55)) = x := ⟨_, rfl⟩
 have hz2 : W2.heap.size = w1.heap.size + 9 := by rw [← hW2]; simp
 rw [hW2] at E T1 AN S5 ST R1 R2
 have HW2 := Lib.hid hW2
 clear hW2
 obtain ⟨WX, hWX⟩ : ∃ x, (((((w1.alloc (.cells #[.int .i64 t.n, .slice t.ss.A t.ss.l.length t.ss.c, .slice t.cs.A t.cs.l.length t.cs.c, .slice t.ws.A t.ws.l.length t.ws.c, .slice t.ms.A t.ms.l.length t.ms.c, .slice t.ks.A t.ks.l.length t.ks.c] 28)).alloc (.cells #[.int .i64 60, .int .i64 67] 3)).alloc (.cells #[.int .i64 62, .int .i64 70] 3)).alloc (.cells #[.int .i64 0, .slice (some ⟨w1.heap.size + 1, 0, none⟩) 2 2, .int .i64 0, .slice (some ⟨w1.heap.size + 1 + 1, 0, none⟩) 2 2] 71)).alloc (.cells #[.int .i64 0, .int .i64 0, .int .i64 0, .string ⟨#[102]⟩, .slice none 0 0, .int .i64 0, .int .i64 0, .bool false, .int .i64 0, .int .i64 0, .int .i64 0, .bool false, .slice (some ⟨w1.heap.size + 1 + 1 + 1, 0, none⟩) 2 2, .slice none 0 0] 52)) = x := ⟨_, rfl⟩
 have hzx : WX.heap.size = w1.heap.size + 5 := by rw [← hWX]; simp
 rw [hWX] at AN LT HT
 clear hWX
 go_wp2_with fail
 rw [HW2.out]
 clear HW2
 have q0 := T1.out.c 0 _ rfl
 have q1 := T1.out.c 1 _ rfl
 have q2 := T1.out.c 2 _ rfl
 have q3 := T1.out.c 3 _ rfl
 have q4 := T1.out.c 4 _ rfl
 have q5 := T1.out.c 5 _ rfl
 have q6 := T1.out.lt
 go_wp2_with fail
 refine (poss_lit (SA := none) (sn := 0) (sc := 0) (s := []) (RA := none) (rn := 0) (rc := 0) (R := []) (LA := none) (ln := 0) (lc := 0) (l := []) 0 0 [] (by rw [← HTA.out]; first | done | exact ex1 _) (by rw [← HTA.out]; first | done | exact ex2 _) rfl rfl rfl rfl (HT.out.ext (show Below _ _ _ from AN.out)) stn_nil Slc.nil trk_nil (by simp [exS]) (by simp) (by simp [exL])).mono ?_
 rintro e w2 ⟨A1, cp1, rfl, -, B⟩
 clear q0 q1 q2 q3 q4 q5 q6
 replace E := Lib.hid (ext_trans E.out B)
 replace T1 := Lib.hid (T1.out.ext B)
 replace AN := Lib.hid (AN.out.ext B)
 replace S5 := Lib.hid (S5.out.ext B)
 replace ST := Lib.hid (ST.out.ext B)
 replace R1 := Lib.hid (R1.out.ext B)
 replace R2 := Lib.hid (R2.out.ext B)
 clear B
 have hw2 : Hid (w1.heap.size + 9 ≤ w2.heap.size) := by have := R2.out.lt; unfold Hid; omega
 have q0 := T1.out.c 0 _ rfl
 have q1 := T1.out.c 1 _ rfl
 have q2 := T1.out.c 2 _ rfl
 have q3 := T1.out.c 3 _ rfl
 have q4 := T1.out.c 4 _ rfl
 have q5 := T1.out.c 5 _ rfl
 have q6 := T1.out.lt
 go_wp2_with fail
 refine (poss_lit (SA := (some ⟨w1.heap.size + 1 + 1 + 1 + 1 + 1 + 1, 0, none⟩)) (sn := 1) (sc := 1) (s := exS (some ⟨w1.heap.size + 1 + 1 + 1 + 1 + 1, 0, none⟩) 0) (RA := none) (rn := 0) (rc := 0) (R := []) (LA := (some ⟨w1.heap.size + 1 + 1 + 1 + 1, 0, none⟩)) (ln := 1) (lc := 1) (l := (exL (some ⟨w1.heap.size + 1 + 1 + 1, 0, none⟩) (some ⟨w1.heap.size + 1, 0, none⟩) (some ⟨w1.heap.size + 1 + 1, 0, none⟩))) 0 1 [[true, true]] (by rw [← HTA.out]; first | done | exact ex3 _ _ _ _ _) (by rw [← HTA.out]; first | done | exact ex4 _ _ _ _ _) rfl rfl rfl rfl (HT.out.ext (show Below _ _ _ from AN.out)) (stn_one ST.out rfl (slc_one S5.out rfl)) Slc.nil (LT.out.ext (show Below _ _ _ from AN.out)) (by simp [exS]) (by simp) (by simp [exL])).mono ?_
 rintro e w3 ⟨A2, cp2, rfl, hP2, B⟩
 clear q0 q1 q2 q3 q4 q5 q6
 replace E := Lib.hid (ext_trans E.out B)
 replace T1 := Lib.hid (T1.out.ext B)
 replace AN := Lib.hid (AN.out.ext B)
 replace S5 := Lib.hid (S5.out.ext B)
 replace ST := Lib.hid (ST.out.ext B)
 replace R1 := Lib.hid (R1.out.ext B)
 replace R2 := Lib.hid (R2.out.ext B)
 clear B
 have P2 := Lib.hid (hP2.low hw2.out)
 clear hP2
 have hw3 : Hid (w1.heap.size + 9 ≤ w3.heap.size) := by have := R2.out.lt; unfold Hid; omega
 have q0 := T1.out.c 0 _ rfl
 have q1 := T1.out.c 1 _ rfl
 have q2 := T1.out.c 2 _ rfl
 have q3 := T1.out.c 3 _ rfl
 have q4 := T1.out.c 4 _ rfl
 have q5 := T1.out.c 5 _ rfl
 have q6 := T1.out.lt
 have q7 := R1.out.c 0 _ rfl
 have q8 := R1.out.c 1 _ rfl
 have q9 := R1.out.c 2 _ rfl
 have q10 := R1.out.c 3 _ rfl
 have q11 := R1.out.c 4 _ rfl
 have q12 := R1.out.c 5 _ rfl
 have q13 := R1.out.lt
 replace E := Lib.hid (ext_alloc E.out (.cells #[.int .i64 0, .int .i64 1, .int .i64 61, .int .i64 0, .string ⟨#[102]⟩, .int .i64 0] 55))
 replace T1 := Lib.hid (T1.out.alloc (.cells #[.int .i64 0, .int .i64 1, .int .i64 61, .int .i64 0, .string ⟨#[102]⟩, .int .i64 0] 55))
 replace AN := Lib.hid (AN.out.alloc (.cells #[.int .i64 0, .int .i64 1, .int .i64 61, .int .i64 0, .string ⟨#[102]⟩, .int .i64 0] 55))
 replace S5 := Lib.hid (S5.out.alloc (.cells #[.int .i64 0, .int .i64 1, .int .i64 61, .int .i64 0, .string ⟨#[102]⟩, .int .i64 0] 55))
 replace ST := Lib.hid (ST.out.alloc (.cells #[.int .i64 0, .int .i64 1, .int .i64 61, .int .i64 0, .string ⟨#[102]⟩, .int .i64 0] 55))
 replace R1 := Lib.hid (R1.out.alloc (.cells #[.int .i64 0, .int .i64 1, .int .i64 61, .int .i64 0, .string ⟨#[102]⟩, .int .i64 0] 55))
 replace R2 := Lib.hid (R2.out.alloc (.cells #[.int .i64 0, .int .i64 1, .int .i64 61, .int .i64 0, .string ⟨#[102]⟩, .int .i64 0] 55))
 replace P2 := Lib.hid (P2.out.alloc (.cells #[.int .i64 0, .int .i64 1, .int .i64 61, .int .i64 0, .string ⟨#[102]⟩, .int .i64 0] 55))
 have RL := Lib.hid (slc_litH w3 ([exR1] : List Rep) #[.int .i64 0, .int .i64 1, .int .i64 61, .int .i64 0, .string ⟨#[102]⟩, .int .i64 0] 55 (enc := Rep.cells) (sz := 6) (fun _ => rfl) rfl (w3.heap.size) (by simp))
 go_wp2_with fail
 refine (poss_lit (SA := (some ⟨w1.heap.size + 1 + 1 + 1 + 1 + 1 + 1, 0, none⟩)) (sn := 1) (sc := 1) (s := exS (some ⟨w1.heap.size + 1 + 1 + 1 + 1 + 1, 0, none⟩) 0) (RA := (some ⟨w3.heap.size, 0, none⟩)) (rn := 1) (rc := 1) (R := [exR1]) (LA := (some ⟨w1.heap.size + 1 + 1 + 1 + 1, 0, none⟩)) (ln := 1) (lc := 1) (l := (exL (some ⟨w1.heap.size + 1 + 1 + 1, 0, none⟩) (some ⟨w1.heap.size + 1, 0, none⟩) (some ⟨w1.heap.size + 1 + 1, 0, none⟩))) 0 1 [[true, false]] (by rw [← HTA.out]; first | done | exact ex5 _ _ _ _ _) (by rw [← HTA.out]; first | done | exact ex6 _ _ _ _ _) rfl rfl rfl rfl (HT.out.ext (show Below _ _ _ from AN.out)) (stn_one ST.out rfl (slc_one S5.out rfl)) RL.out (LT.out.ext (show Below _ _ _ from AN.out)) (by simp [exS]) (by simp) (by simp [exL])).mono ?_
 rintro e w4 ⟨A3, cp3, rfl, hP3, B⟩
 clear q0 q1 q2 q3 q4 q5 q6 q7 q8 q9 q10 q11 q12 q13
 replace E := Lib.hid (ext_trans E.out B)
 replace T1 := Lib.hid (T1.out.ext B)
 replace AN := Lib.hid (AN.out.ext B)
 replace S5 := Lib.hid (S5.out.ext B)
 replace ST := Lib.hid (ST.out.ext B)
 replace R1 := Lib.hid (R1.out.ext B)
 replace R2 := Lib.hid (R2.out.ext B)
 replace P2 := Lib.hid (P2.out.ext B)
 replace RL := Lib.hid (RL.out.ext B)
 clear B
 clear RL
 have P3 := Lib.hid (hP3.low (b2 := w1.heap.size + 9) (by have := hw3.out; simp; omega))
 clear hP3
 have q0 := T1.out.c 0 _ rfl
 have q1 := T1.out.c 1 _ rfl
 have q2 := T1.out.c 2 _ rfl
 have q3 := T1.out.c 3 _ rfl
 have q4 := T1.out.c 4 _ rfl
 have q5 := T1.out.c 5 _ rfl
 have q6 := T1.out.lt
 have q7 := R2.out.c 0 _ rfl
 have q8 := R2.out.c 1 _ rfl
 have q9 := R2.out.c 2 _ rfl
 have q10 := R2.out.c 3 _ rfl
 have q11 := R2.out.c 4 _ rfl
 have q12 := R2.out.c 5 _ rfl
 have q13 := R2.out.lt
 replace E := Lib.hid (ext_alloc E.out (.cells #[.int .i64 0, .int .i64 2, .int .i64 61, .int .i64 0, .string ⟨#[103]⟩, .int .i64 0] 55))
 replace T1 := Lib.hid (T1.out.alloc (.cells #[.int .i64 0, .int .i64 2, .int .i64 61, .int .i64 0, .string ⟨#[103]⟩, .int .i64 0] 55))
 replace AN := Lib.hid (AN.out.alloc (.cells #[.int .i64 0, .int .i64 2, .int .i64 61, .int .i64 0, .string ⟨#[103]⟩, .int .i64 0] 55))
 replace S5 := Lib.hid (S5.out.alloc (.cells #[.int .i64 0, .int .i64 2, .int .i64 61, .int .i64 0, .string ⟨#[103]⟩, .int .i64 0] 55))
 replace ST := Lib.hid (ST.out.alloc (.cells #[.int .i64 0, .int .i64 2, .int .i64 61, .int .i64 0, .string ⟨#[103]⟩, .int .i64 0] 55))
 replace R1 := Lib.hid (R1.out.alloc (.cells #[.int .i64 0, .int .i64 2, .int .i64 61, .int .i64 0, .string ⟨#[103]⟩, .int .i64 0] 55))
 replace R2 := Lib.hid (R2.out.alloc (.cells #[.int .i64 0, .int .i64 2, .int .i64 61, .int .i64 0, .string ⟨#[103]⟩, .int .i64 0] 55))
 replace P2 := Lib.hid (P2.out.alloc (.cells #[.int .i64 0, .int .i64 2, .int .i64 61, .int .i64 0, .string ⟨#[103]⟩, .int .i64 0] 55))
 replace P3 := Lib.hid (P3.out.alloc (.cells #[.int .i64 0, .int .i64 2, .int .i64 61, .int .i64 0, .string ⟨#[103]⟩, .int .i64 0] 55))
 have RL := Lib.hid (slc_litH w4 ([exR2] : List Rep) #[.int .i64 0, .int .i64 2, .int .i64 61, .int .i64 0, .string ⟨#[103]⟩, .int .i64 0] 55 (enc := Rep.cells) (sz := 6) (fun _ => rfl) rfl (w4.heap.size) (by simp))
 go_wp2_with fail
 refine (poss_lit (SA := (some ⟨w1.heap.size + 1 + 1 + 1 + 1 + 1 + 1, 0, none⟩)) (sn := 1) (sc := 1) (s := exS (some ⟨w1.heap.size + 1 + 1 + 1 + 1 + 1, 0, none⟩) 0) (RA := (some ⟨w4.heap.size, 0, none⟩)) (rn := 1) (rc := 1) (R := [exR2]) (LA := (some ⟨w1.heap.size + 1 + 1 + 1 + 1, 0, none⟩)) (ln := 1) (lc := 1) (l := (exL (some ⟨w1.heap.size + 1 + 1 + 1, 0, none⟩) (some ⟨w1.heap.size + 1, 0, none⟩) (some ⟨w1.heap.size + 1 + 1, 0, none⟩))) 240 0 [] (by rw [← HTA.out]; first | done | exact ex7 _ _ _ _ _) (by rw [← HTA.out]; first | done | exact ex8 _ _ _ _ _) rfl rfl rfl rfl (HT.out.ext (show Below _ _ _ from AN.out)) (stn_one ST.out rfl (slc_one S5.out rfl)) RL.out (LT.out.ext (show Below _ _ _ from AN.out)) (by simp [exS]) (by simp) (by simp [exL])).mono ?_
 rintro e w5 ⟨A4, cp4, rfl, -, B⟩
 clear q0 q1 q2 q3 q4 q5 q6 q7 q8 q9 q10 q11 q12 q13
 replace E := Lib.hid (ext_trans E.out B)
 replace T1 := Lib.hid (T1.out.ext B)
 replace AN := Lib.hid (AN.out.ext B)
 replace S5 := Lib.hid (S5.out.ext B)
 replace ST := Lib.hid (ST.out.ext B)
 replace R1 := Lib.hid (R1.out.ext B)
 replace R2 := Lib.hid (R2.out.ext B)
 replace P2 := Lib.hid (P2.out.ext B)
 replace P3 := Lib.hid (P3.out.ext B)
 replace RL := Lib.hid (RL.out.ext B)
 clear B
 clear RL
 have q0 := T1.out.c 0 _ rfl
 have q1 := T1.out.c 1 _ rfl
 have q2 := T1.out.c 2 _ rfl
 have q3 := T1.out.c 3 _ rfl
 have q4 := T1.out.c 4 _ rfl
 have q5 := T1.out.c 5 _ rfl
 have q6 := T1.out.lt
 go_wp2_with fail
 refine (world_lit (SA := (some ⟨w1.heap.size + 1 + 1 + 1 + 1 + 1 + 1, 0, none⟩)) (sn := 1) (sc := 1) (s := exS (some ⟨w1.heap.size + 1 + 1 + 1 + 1 + 1, 0, none⟩) 0) (RA := none) (rn := 0) (rc := 0) (R := []) (LA := (some ⟨w1.heap.size + 1 + 1 + 1 + 1, 0, none⟩)) (ln := 1) (lc := 1) (l := (exL (some ⟨w1.heap.size + 1 + 1 + 1, 0, none⟩) (some ⟨w1.heap.size + 1, 0, none⟩) (some ⟨w1.heap.size + 1 + 1, 0, none⟩))) (PA := none) (pn := 0) (pc := 0) (p := []) 240 false (by rw [← HTA.out]; first | done | exact ex9 _ _ _ _ _) (by rw [← HTA.out]; first | done | exact ex10 _ _ _ _ _) rfl rfl rfl rfl (HT.out.ext (show Below _ _ _ from AN.out)) (stn_one ST.out rfl (slc_one S5.out rfl)) Slc.nil (LT.out.ext (show Below _ _ _ from AN.out)) Slc.nil (by show (0 : Nat) ≤ maxLen; decide) (by simp [exS]) (by simp) (by simp [exL])).mono ?_
 rintro e w6 ⟨rfl, B⟩
 clear q0 q1 q2 q3 q4 q5 q6
 replace E := Lib.hid (ext_trans E.out B)
 replace T1 := Lib.hid (T1.out.ext B)
 replace AN := Lib.hid (AN.out.ext B)
 replace S5 := Lib.hid (S5.out.ext B)
 replace ST := Lib.hid (ST.out.ext B)
 replace R1 := Lib.hid (R1.out.ext B)
 replace R2 := Lib.hid (R2.out.ext B)
 replace P2 := Lib.hid (P2.out.ext B)
 replace P3 := Lib.hid (P3.out.ext B)
 clear B
 have q0 := T1.out.c 0 _ rfl
 have q1 := T1.out.c 1 _ rfl
 have q2 := T1.out.c 2 _ rfl
 have q3 := T1.out.c 3 _ rfl
 have q4 := T1.out.c 4 _ rfl
 have q5 := T1.out.c 5 _ rfl
 have q6 := T1.out.lt
 have q7 := R1.out.c 0 _ rfl
 have q8 := R1.out.c 1 _ rfl
 have q9 := R1.out.c 2 _ rfl
 have q10 := R1.out.c 3 _ rfl
 have q11 := R1.out.c 4 _ rfl
 have q12 := R1.out.c 5 _ rfl
 have q13 := R1.out.lt
 replace E := Lib.hid (ext_alloc E.out (.cells #[.int .i64 0, .int .i64 1, .int .i64 61, .int .i64 0, .string ⟨#[102]⟩, .int .i64 0] 55))
 replace T1 := Lib.hid (T1.out.alloc (.cells #[.int .i64 0, .int .i64 1, .int .i64 61, .int .i64 0, .string ⟨#[102]⟩, .int .i64 0] 55))
 replace AN := Lib.hid (AN.out.alloc (.cells #[.int .i64 0, .int .i64 1, .int .i64 61, .int .i64 0, .string ⟨#[102]⟩, .int .i64 0] 55))
 replace S5 := Lib.hid (S5.out.alloc (.cells #[.int .i64 0, .int .i64 1, .int .i64 61, .int .i64 0, .string ⟨#[102]⟩, .int .i64 0] 55))
 replace ST := Lib.hid (ST.out.alloc (.cells #[.int .i64 0, .int .i64 1, .int .i64 61, .int .i64 0, .string ⟨#[102]⟩, .int .i64 0] 55))
 replace R1 := Lib.hid (R1.out.alloc (.cells #[.int .i64 0, .int .i64 1, .int .i64 61, .int .i64 0, .string ⟨#[102]⟩, .int .i64 0] 55))
 replace R2 := Lib.hid (R2.out.alloc (.cells #[.int .i64 0, .int .i64 1, .int .i64 61, .int .i64 0, .string ⟨#[102]⟩, .int .i64 0] 55))
 replace P2 := Lib.hid (P2.out.alloc (.cells #[.int .i64 0, .int .i64 1, .int .i64 61, .int .i64 0, .string ⟨#[102]⟩, .int .i64 0] 55))
 replace P3 := Lib.hid (P3.out.alloc (.cells #[.int .i64 0, .int .i64 1, .int .i64 61, .int .i64 0, .string ⟨#[102]⟩, .int .i64 0] 55))
 have RL := Lib.hid (slc_litH w6 ([exR1] : List Rep) #[.int .i64 0, .int .i64 1, .int .i64 61, .int .i64 0, .string ⟨#[102]⟩, .int .i64 0] 55 (enc := Rep.cells) (sz := 6) (fun _ => rfl) rfl (w6.heap.size) (by simp))
 replace E := Lib.hid (ext_alloc E.out (.cells #[.int .i64 0] 3))
 replace T1 := Lib.hid (T1.out.alloc (.cells #[.int .i64 0] 3))
 replace AN := Lib.hid (AN.out.alloc (.cells #[.int .i64 0] 3))
 replace S5 := Lib.hid (S5.out.alloc (.cells #[.int .i64 0] 3))
 replace ST := Lib.hid (ST.out.alloc (.cells #[.int .i64 0] 3))
 replace R1 := Lib.hid (R1.out.alloc (.cells #[.int .i64 0] 3))
 replace R2 := Lib.hid (R2.out.alloc (.cells #[.int .i64 0] 3))
 replace P2 := Lib.hid (P2.out.alloc (.cells #[.int .i64 0] 3))
 replace P3 := Lib.hid (P3.out.alloc (.cells #[.int .i64 0] 3))
 replace RL := Lib.hid (RL.out.alloc (.cells #[.int .i64 0] 3))
 have PK := Lib.hid (slc_litH (w6.alloc (.cells #[.int .i64 0, .int .i64 1, .int .i64 61, .int .i64 0, .string ⟨#[102]⟩, .int .i64 0] 55)) ([0] : List Int) #[.int .i64 0] 3 (enc := ic) (sz := 1) (fun _ => rfl) rfl (w6.heap.size + 1) (by simp))
 go_wp2_with fail
 refine (world_lit (SA := (some ⟨w1.heap.size + 1 + 1 + 1 + 1 + 1 + 1, 0, none⟩)) (sn := 1) (sc := 1) (s := exS (some ⟨w1.heap.size + 1 + 1 + 1 + 1 + 1, 0, none⟩) 0) (RA := (some ⟨w6.heap.size, 0, none⟩)) (rn := 1) (rc := 1) (R := [exR1]) (LA := (some ⟨w1.heap.size + 1 + 1 + 1 + 1, 0, none⟩)) (ln := 1) (lc := 1) (l := (exL (some ⟨w1.heap.size + 1 + 1 + 1, 0, none⟩) (some ⟨w1.heap.size + 1, 0, none⟩) (some ⟨w1.heap.size + 1 + 1, 0, none⟩))) (PA := some ⟨w6.heap.size + 1, 0, none⟩) (pn := 1) (pc := 1) (p := [0]) 0 true (by rw [← HTA.out]; first | done | exact ex11 _ _ _ _ _) (by rw [← HTA.out]; first | done | exact ex12 _ _ _ _ _) rfl rfl rfl rfl (HT.out.ext (show Below _ _ _ from AN.out)) (stn_one ST.out rfl (slc_one S5.out rfl)) RL.out (LT.out.ext (show Below _ _ _ from AN.out)) PK.out (by show (1 : Nat) ≤ maxLen; decide) (by simp [exS]) (by simp) (by simp [exL])).mono ?_
 rintro e w7 ⟨rfl, B⟩
 clear q0 q1 q2 q3 q4 q5 q6 q7 q8 q9 q10 q11 q12 q13
 replace E := Lib.hid (ext_trans E.out B)
 replace T1 := Lib.hid (T1.out.ext B)
 replace AN := Lib.hid (AN.out.ext B)
 replace S5 := Lib.hid (S5.out.ext B)
 replace ST := Lib.hid (ST.out.ext B)
 replace R1 := Lib.hid (R1.out.ext B)
 replace R2 := Lib.hid (R2.out.ext B)
 replace P2 := Lib.hid (P2.out.ext B)
 replace P3 := Lib.hid (P3.out.ext B)
 replace RL := Lib.hid (RL.out.ext B)
 replace PK := Lib.hid (PK.out.ext B)
 clear B
 clear RL PK
 have q0 := T1.out.c 0 _ rfl
 have q1 := T1.out.c 1 _ rfl
 have q2 := T1.out.c 2 _ rfl
 have q3 := T1.out.c 3 _ rfl
 have q4 := T1.out.c 4 _ rfl
 have q5 := T1.out.c 5 _ rfl
 have q6 := T1.out.lt
 have q7 := R1.out.c 0 _ rfl
 have q8 := R1.out.c 1 _ rfl
 have q9 := R1.out.c 2 _ rfl
 have q10 := R1.out.c 3 _ rfl
 have q11 := R1.out.c 4 _ rfl
 have q12 := R1.out.c 5 _ rfl
 have q13 := R1.out.lt
 replace E := Lib.hid (ext_alloc E.out (.cells #[.int .i64 0, .int .i64 1, .int .i64 61, .int .i64 0, .string ⟨#[102]⟩, .int .i64 0] 55))
 replace T1 := Lib.hid (T1.out.alloc (.cells #[.int .i64 0, .int .i64 1, .int .i64 61, .int .i64 0, .string ⟨#[102]⟩, .int .i64 0] 55))
 replace AN := Lib.hid (AN.out.alloc (.cells #[.int .i64 0, .int .i64 1, .int .i64 61, .int .i64 0, .string ⟨#[102]⟩, .int .i64 0] 55))
 replace S5 := Lib.hid (S5.out.alloc (.cells #[.int .i64 0, .int .i64 1, .int .i64 61, .int .i64 0, .string ⟨#[102]⟩, .int .i64 0] 55))
 replace ST := Lib.hid (ST.out.alloc (.cells #[.int .i64 0, .int .i64 1, .int .i64 61, .int .i64 0, .string ⟨#[102]⟩, .int .i64 0] 55))
 replace R1 := Lib.hid (R1.out.alloc (.cells #[.int .i64 0, .int .i64 1, .int .i64 61, .int .i64 0, .string ⟨#[102]⟩, .int .i64 0] 55))
 replace R2 := Lib.hid (R2.out.alloc (.cells #[.int .i64 0, .int .i64 1, .int .i64 61, .int .i64 0, .string ⟨#[102]⟩, .int .i64 0] 55))
 replace P2 := Lib.hid (P2.out.alloc (.cells #[.int .i64 0, .int .i64 1, .int .i64 61, .int .i64 0, .string ⟨#[102]⟩, .int .i64 0] 55))
 replace P3 := Lib.hid (P3.out.alloc (.cells #[.int .i64 0, .int .i64 1, .int .i64 61, .int .i64 0, .string ⟨#[102]⟩, .int .i64 0] 55))
 have RL := Lib.hid (slc_litH w7 ([exR1] : List Rep) #[.int .i64 0, .int .i64 1, .int .i64 61, .int .i64 0, .string ⟨#[102]⟩, .int .i64 0] 55 (enc := Rep.cells) (sz := 6) (fun _ => rfl) rfl (w7.heap.size) (by simp))
 replace E := Lib.hid (ext_alloc E.out (.cells #[.int .i64 1] 3))
 replace T1 := Lib.hid (T1.out.alloc (.cells #[.int .i64 1] 3))
 replace AN := Lib.hid (AN.out.alloc (.cells #[.int .i64 1] 3))
 replace S5 := Lib.hid (S5.out.alloc (.cells #[.int .i64 1] 3))
 replace ST := Lib.hid (ST.out.alloc (.cells #[.int .i64 1] 3))
 replace R1 := Lib.hid (R1.out.alloc (.cells #[.int .i64 1] 3))
 replace R2 := Lib.hid (R2.out.alloc (.cells #[.int .i64 1] 3))
 replace P2 := Lib.hid (P2.out.alloc (.cells #[.int .i64 1] 3))
 replace P3 := Lib.hid (P3.out.alloc (.cells #[.int .i64 1] 3))
 replace RL := Lib.hid (RL.out.alloc (.cells #[.int .i64 1] 3))
 have PK := Lib.hid (slc_litH (w7.alloc (.cells #[.int .i64 0, .int .i64 1, .int .i64 61, .int .i64 0, .string ⟨#[102]⟩, .int .i64 0] 55)) ([1] : List Int) #[.int .i64 1] 3 (enc := ic) (sz := 1) (fun _ => rfl) rfl (w7.heap.size + 1) (by simp))
 go_wp2_with fail
 refine (world_lit (SA := (some ⟨w1.heap.size + 1 + 1 + 1 + 1 + 1 + 1, 0, none⟩)) (sn := 1) (sc := 1) (s := exS (some ⟨w1.heap.size + 1 + 1 + 1 + 1 + 1, 0, none⟩) 0) (RA := (some ⟨w7.heap.size, 0, none⟩)) (rn := 1) (rc := 1) (R := [exR1]) (LA := (some ⟨w1.heap.size + 1 + 1 + 1 + 1, 0, none⟩)) (ln := 1) (lc := 1) (l := (exL (some ⟨w1.heap.size + 1 + 1 + 1, 0, none⟩) (some ⟨w1.heap.size + 1, 0, none⟩) (some ⟨w1.heap.size + 1 + 1, 0, none⟩))) (PA := some ⟨w7.heap.size + 1, 0, none⟩) (pn := 1) (pc := 1) (p := [1]) 0 false (by rw [← HTA.out]; first | done | exact ex13 _ _ _ _ _) (by rw [← HTA.out]; first | done | exact ex14 _ _ _ _ _) rfl rfl rfl rfl (HT.out.ext (show Below _ _ _ from AN.out)) (stn_one ST.out rfl (slc_one S5.out rfl)) RL.out (LT.out.ext (show Below _ _ _ from AN.out)) PK.out (by show (1 : Nat) ≤ maxLen; decide) (by simp [exS]) (by simp) (by simp [exL])).mono ?_
 rintro e w8 ⟨rfl, B⟩
 clear q0 q1 q2 q3 q4 q5 q6 q7 q8 q9 q10 q11 q12 q13
 replace E := Lib.hid (ext_trans E.out B)
 replace T1 := Lib.hid (T1.out.ext B)
 replace AN := Lib.hid (AN.out.ext B)
 replace S5 := Lib.hid (S5.out.ext B)
 replace ST := Lib.hid (ST.out.ext B)
 replace R1 := Lib.hid (R1.out.ext B)
 replace R2 := Lib.hid (R2.out.ext B)
 replace P2 := Lib.hid (P2.out.ext B)
 replace P3 := Lib.hid (P3.out.ext B)
 replace RL := Lib.hid (RL.out.ext B)
 replace PK := Lib.hid (PK.out.ext B)
 clear B
 clear RL PK
 have q0 := T1.out.c 0 _ rfl
 have q1 := T1.out.c 1 _ rfl
 have q2 := T1.out.c 2 _ rfl
 have q3 := T1.out.c 3 _ rfl
 have q4 := T1.out.c 4 _ rfl
 have q5 := T1.out.c 5 _ rfl
 have q6 := T1.out.lt
 have q7 := R1.out.c 0 _ rfl
 have q8 := R1.out.c 1 _ rfl
 have q9 := R1.out.c 2 _ rfl
 have q10 := R1.out.c 3 _ rfl
 have q11 := R1.out.c 4 _ rfl
 have q12 := R1.out.c 5 _ rfl
 have q13 := R1.out.lt
 have q14 := ST.out.c 0 _ rfl
 have q15 := ST.out.c 1 _ rfl
 have q16 := ST.out.c 2 _ rfl
 have q17 := ST.out.lt
 have yf := ST.out.f
 go_wp2_with fail
 clear yf q0 q1 q2 q3 q4 q5 q6 q7 q8 q9 q10 q11 q12 q13 q14 q15 q16 q17
 replace E := Lib.hid (ext_set E.out ⟨w1.heap.size + 1 + 1 + 1 + 1 + 1 + 1, 1, none⟩ (.int .i64 1) (by first | exact Nat.le_refl _ | omega | (simp; done) | (simp; omega)))
 replace T1 := Lib.hid (T1.out.other (p := ⟨w1.heap.size + 1 + 1 + 1 + 1 + 1 + 1, 1, none⟩) (.int .i64 1) (by first | omega | (simp; done) | (simp; omega)))
 replace AN := Lib.hid (AN.out.set ⟨w1.heap.size + 1 + 1 + 1 + 1 + 1 + 1, 1, none⟩ ((.int .i64 1)) (by show _ ≤ w1.heap.size + 1 + 1 + 1 + 1 + 1 + 1; omega))
 replace S5 := Lib.hid (S5.out.other (p := ⟨w1.heap.size + 1 + 1 + 1 + 1 + 1 + 1, 1, none⟩) (.int .i64 1) (by first | omega | (simp; done) | (simp; omega)))
 replace ST := Lib.hid (show Blk _ (w1.heap.size + 1 + 1 + 1 + 1 + 1 + 1) [.slice (some ⟨w1.heap.size + 1 + 1 + 1 + 1 + 1, 0, none⟩) 1 1, .int .i64 1, .int .i64 0] from ST.out.set (j := 1) (by simp) (.int .i64 1))
 replace R1 := Lib.hid (R1.out.other (p := ⟨w1.heap.size + 1 + 1 + 1 + 1 + 1 + 1, 1, none⟩) (.int .i64 1) (by first | omega | (simp; done) | (simp; omega)))
 replace R2 := Lib.hid (R2.out.other (p := ⟨w1.heap.size + 1 + 1 + 1 + 1 + 1 + 1, 1, none⟩) (.int .i64 1) (by first | omega | (simp; done) | (simp; omega)))
 replace P2 := Lib.hid ((show PR _ _ _ _ _ _ from P2.out.far (p := ⟨w1.heap.size + 1 + 1 + 1 + 1 + 1 + 1, 1, none⟩) ((.int .i64 1)) (by show w1.heap.size + 1 + 1 + 1 + 1 + 1 + 1 < w1.heap.size + 9; omega)))
 replace P3 := Lib.hid ((show PR _ _ _ _ _ _ from P3.out.far (p := ⟨w1.heap.size + 1 + 1 + 1 + 1 + 1 + 1, 1, none⟩) ((.int .i64 1)) (by show w1.heap.size + 1 + 1 + 1 + 1 + 1 + 1 < w1.heap.size + 9; omega)))
 have hz8 : (w8.setCell ⟨w1.heap.size + 1 + 1 + 1 + 1 + 1 + 1, 1, none⟩ (.int .i64 1)).heap.size = w8.heap.size := by simp [World.setCell]
 obtain ⟨V8, hNV8⟩ : ∃ W0, W0 = (w8.setCell ⟨w1.heap.size + 1 + 1 + 1 + 1 + 1 + 1, 1, none⟩ (.int .i64 1)) := ⟨_, rfl⟩
 rw [← hNV8] at E T1 AN S5 ST R1 R2 P2 P3 hz8 ⊢
 clear hNV8
 replace E := Lib.hid (ext_alloc E.out (.cells #[.int .i64 0, .int .i64 1, .int .i64 61, .int .i64 0, .string ⟨#[102]⟩, .int .i64 0] 55))
 replace T1 := Lib.hid (T1.out.alloc (.cells #[.int .i64 0, .int .i64 1, .int .i64 61, .int .i64 0, .string ⟨#[102]⟩, .int .i64 0] 55))
 replace AN := Lib.hid (AN.out.alloc (.cells #[.int .i64 0, .int .i64 1, .int .i64 61, .int .i64 0, .string ⟨#[102]⟩, .int .i64 0] 55))
 replace S5 := Lib.hid (S5.out.alloc (.cells #[.int .i64 0, .int .i64 1, .int .i64 61, .int .i64 0, .string ⟨#[102]⟩, .int .i64 0] 55))
 replace ST := Lib.hid (ST.out.alloc (.cells #[.int .i64 0, .int .i64 1, .int .i64 61, .int .i64 0, .string ⟨#[102]⟩, .int .i64 0] 55))
 replace R1 := Lib.hid (R1.out.alloc (.cells #[.int .i64 0, .int .i64 1, .int .i64 61, .int .i64 0, .string ⟨#[102]⟩, .int .i64 0] 55))
 replace R2 := Lib.hid (R2.out.alloc (.cells #[.int .i64 0, .int .i64 1, .int .i64 61, .int .i64 0, .string ⟨#[102]⟩, .int .i64 0] 55))
 replace P2 := Lib.hid (P2.out.alloc (.cells #[.int .i64 0, .int .i64 1, .int .i64 61, .int .i64 0, .string ⟨#[102]⟩, .int .i64 0] 55))
 replace P3 := Lib.hid (P3.out.alloc (.cells #[.int .i64 0, .int .i64 1, .int .i64 61, .int .i64 0, .string ⟨#[102]⟩, .int .i64 0] 55))
 have RL := Lib.hid (slc_litH V8 ([exR1] : List Rep) #[.int .i64 0, .int .i64 1, .int .i64 61, .int .i64 0, .string ⟨#[102]⟩, .int .i64 0] 55 (enc := Rep.cells) (sz := 6) (fun _ => rfl) rfl (w8.heap.size) hz8)
 refine (poss_lit (SA := (some ⟨w1.heap.size + 1 + 1 + 1 + 1 + 1 + 1, 0, none⟩)) (sn := 1) (sc := 1) (s := exS (some ⟨w1.heap.size + 1 + 1 + 1 + 1 + 1, 0, none⟩) 1) (RA := (some ⟨w8.heap.size, 0, none⟩)) (rn := 1) (rc := 1) (R := [exR1]) (LA := (some ⟨w1.heap.size + 1 + 1 + 1 + 1, 0, none⟩)) (ln := 1) (lc := 1) (l := (exL (some ⟨w1.heap.size + 1 + 1 + 1, 0, none⟩) (some ⟨w1.heap.size + 1, 0, none⟩) (some ⟨w1.heap.size + 1 + 1, 0, none⟩))) 0 1 [[true, true]] (by rw [← HTA.out]; first | done | exact ex15 _ _ _ _ _) (by rw [← HTA.out]; first | done | exact ex16 _ _ _ _ _) rfl rfl rfl rfl (HT.out.ext (show Below _ _ _ from AN.out)) (stn_one ST.out rfl (slc_one S5.out rfl)) RL.out (LT.out.ext (show Below _ _ _ from AN.out)) (by simp [exS]) (by simp) (by simp [exL])).mono ?_
 rintro e w9 ⟨A5, cp5, rfl, hP5, B⟩
 replace E := Lib.hid (ext_trans E.out B)
 replace T1 := Lib.hid (T1.out.ext B)
 replace AN := Lib.hid (AN.out.ext B)
 replace S5 := Lib.hid (S5.out.ext B)
 replace ST := Lib.hid (ST.out.ext B)
 replace R1 := Lib.hid (R1.out.ext B)
 replace R2 := Lib.hid (R2.out.ext B)
 replace P2 := Lib.hid (P2.out.ext B)
 replace P3 := Lib.hid (P3.out.ext B)
 replace RL := Lib.hid (RL.out.ext B)
 clear B
 clear RL
 have P5 := Lib.hid (hP5.ra)
 clear hP5
 have q0 := T1.out.c 0 _ rfl
 have q1 := T1.out.c 1 _ rfl
 have q2 := T1.out.c 2 _ rfl
 have q3 := T1.out.c 3 _ rfl
 have q4 := T1.out.c 4 _ rfl
 have q5 := T1.out.c 5 _ rfl
 have q6 := T1.out.lt
 replace E := Lib.hid (ext_alloc E.out (.cells #[.int .i64 0, .int .i64 0, .int .i64 0, .string ⟨#[102]⟩, .slice none 0 0, .int .i64 0, .int .i64 0, .bool false, .int .i64 0, .int .i64 0, .int .i64 0, .bool false, .slice none 0 0, .slice none 0 0] 52))
 replace T1 := Lib.hid (T1.out.alloc (.cells #[.int .i64 0, .int .i64 0, .int .i64 0, .string ⟨#[102]⟩, .slice none 0 0, .int .i64 0, .int .i64 0, .bool false, .int .i64 0, .int .i64 0, .int .i64 0, .bool false, .slice none 0 0, .slice none 0 0] 52))
 replace AN := Lib.hid (AN.out.alloc (.cells #[.int .i64 0, .int .i64 0, .int .i64 0, .string ⟨#[102]⟩, .slice none 0 0, .int .i64 0, .int .i64 0, .bool false, .int .i64 0, .int .i64 0, .int .i64 0, .bool false, .slice none 0 0, .slice none 0 0] 52))
 replace S5 := Lib.hid (S5.out.alloc (.cells #[.int .i64 0, .int .i64 0, .int .i64 0, .string ⟨#[102]⟩, .slice none 0 0, .int .i64 0, .int .i64 0, .bool false, .int .i64 0, .int .i64 0, .int .i64 0, .bool false, .slice none 0 0, .slice none 0 0] 52))
 replace ST := Lib.hid (ST.out.alloc (.cells #[.int .i64 0, .int .i64 0, .int .i64 0, .string ⟨#[102]⟩, .slice none 0 0, .int .i64 0, .int .i64 0, .bool false, .int .i64 0, .int .i64 0, .int .i64 0, .bool false, .slice none 0 0, .slice none 0 0] 52))
 replace R1 := Lib.hid (R1.out.alloc (.cells #[.int .i64 0, .int .i64 0, .int .i64 0, .string ⟨#[102]⟩, .slice none 0 0, .int .i64 0, .int .i64 0, .bool false, .int .i64 0, .int .i64 0, .int .i64 0, .bool false, .slice none 0 0, .slice none 0 0] 52))
 replace R2 := Lib.hid (R2.out.alloc (.cells #[.int .i64 0, .int .i64 0, .int .i64 0, .string ⟨#[102]⟩, .slice none 0 0, .int .i64 0, .int .i64 0, .bool false, .int .i64 0, .int .i64 0, .int .i64 0, .bool false, .slice none 0 0, .slice none 0 0] 52))
 replace P2 := Lib.hid (P2.out.alloc (.cells #[.int .i64 0, .int .i64 0, .int .i64 0, .string ⟨#[102]⟩, .slice none 0 0, .int .i64 0, .int .i64 0, .bool false, .int .i64 0, .int .i64 0, .int .i64 0, .bool false, .slice none 0 0, .slice none 0 0] 52))
 replace P3 := Lib.hid (P3.out.alloc (.cells #[.int .i64 0, .int .i64 0, .int .i64 0, .string ⟨#[102]⟩, .slice none 0 0, .int .i64 0, .int .i64 0, .bool false, .int .i64 0, .int .i64 0, .int .i64 0, .bool false, .slice none 0 0, .slice none 0 0] 52))
 replace P5 := Lib.hid (P5.out.alloc (.cells #[.int .i64 0, .int .i64 0, .int .i64 0, .string ⟨#[102]⟩, .slice none 0 0, .int .i64 0, .int .i64 0, .bool false, .int .i64 0, .int .i64 0, .int .i64 0, .bool false, .slice none 0 0, .slice none 0 0] 52))
 have TL := Lib.hid (slc_litH w9 exL0 #[.int .i64 0, .int .i64 0, .int .i64 0, .string ⟨#[102]⟩, .slice none 0 0, .int .i64 0, .int .i64 0, .bool false, .int .i64 0, .int .i64 0, .int .i64 0, .bool false, .slice none 0 0, .slice none 0 0] 52 (enc := Trk.cells) (sz := 14) (fun _ => rfl) rfl (w9.heap.size) (by simp))
 go_wp2_with fail
 refine (wchk_at (l := exL0) 240 (by rw [← HTA.out]; first | done | exact ex17 _) rfl (HT.out.ext (show Below _ _ _ from AN.out)) (okS TL.out rfl (by decide) (all1 ⟨⟨Nat.le_refl _, by show (0 : Nat) ≤ maxLen; decide, trivial⟩, trivial, okN0, Nat.le_refl _, by show (0 : Nat) ≤ maxLen; decide⟩))).mono ?_
 rintro e w10 ⟨rfl, B⟩
 clear q0 q1 q2 q3 q4 q5 q6
 replace E := Lib.hid (ext_trans E.out B)
 replace T1 := Lib.hid (T1.out.ext B)
 replace AN := Lib.hid (AN.out.ext B)
 replace S5 := Lib.hid (S5.out.ext B)
 replace ST := Lib.hid (ST.out.ext B)
 replace R1 := Lib.hid (R1.out.ext B)
 replace R2 := Lib.hid (R2.out.ext B)
 replace P2 := Lib.hid (P2.out.ext B)
 replace P3 := Lib.hid (P3.out.ext B)
 replace P5 := Lib.hid (P5.out.ext B)
 replace TL := Lib.hid (TL.out.ext B)
 clear B
 clear TL
 replace E := Lib.hid (ext_alloc E.out (.cells #[.bool true, .bool true] 4))
 replace T1 := Lib.hid (T1.out.alloc (.cells #[.bool true, .bool true] 4))
 replace AN := Lib.hid (AN.out.alloc (.cells #[.bool true, .bool true] 4))
 replace S5 := Lib.hid (S5.out.alloc (.cells #[.bool true, .bool true] 4))
 replace ST := Lib.hid (ST.out.alloc (.cells #[.bool true, .bool true] 4))
 replace R1 := Lib.hid (R1.out.alloc (.cells #[.bool true, .bool true] 4))
 replace R2 := Lib.hid (R2.out.alloc (.cells #[.bool true, .bool true] 4))
 replace P2 := Lib.hid (P2.out.alloc (.cells #[.bool true, .bool true] 4))
 replace P3 := Lib.hid (P3.out.alloc (.cells #[.bool true, .bool true] 4))
 replace P5 := Lib.hid (P5.out.alloc (.cells #[.bool true, .bool true] 4))
 replace E := Lib.hid (ext_alloc E.out (.cells #[.slice (some ⟨w10.heap.size, 0, none⟩) 2 2] 50))
 replace T1 := Lib.hid (T1.out.alloc (.cells #[.slice (some ⟨w10.heap.size, 0, none⟩) 2 2] 50))
 replace AN := Lib.hid (AN.out.alloc (.cells #[.slice (some ⟨w10.heap.size, 0, none⟩) 2 2] 50))
 replace S5 := Lib.hid (S5.out.alloc (.cells #[.slice (some ⟨w10.heap.size, 0, none⟩) 2 2] 50))
 replace ST := Lib.hid (ST.out.alloc (.cells #[.slice (some ⟨w10.heap.size, 0, none⟩) 2 2] 50))
 replace R1 := Lib.hid (R1.out.alloc (.cells #[.slice (some ⟨w10.heap.size, 0, none⟩) 2 2] 50))
 replace R2 := Lib.hid (R2.out.alloc (.cells #[.slice (some ⟨w10.heap.size, 0, none⟩) 2 2] 50))
 replace P2 := Lib.hid (P2.out.alloc (.cells #[.slice (some ⟨w10.heap.size, 0, none⟩) 2 2] 50))
 replace P3 := Lib.hid (P3.out.alloc (.cells #[.slice (some ⟨w10.heap.size, 0, none⟩) 2 2] 50))
 replace P5 := Lib.hid (P5.out.alloc (.cells #[.slice (some ⟨w10.heap.size, 0, none⟩) 2 2] 50))
 have QL := Lib.hid (ra_one w10 [true, true] [.bool true, .bool true] [.slice (some ⟨w10.heap.size, 0, none⟩) 2 2] rfl rfl)
 go_wp2_with fail
 refine (same_ra (L := [[true, true]]) (L2 := [[true, true]]) true (by decide) P2.out.ra QL.out (by decide) (by decide)).mono ?_
 rintro e w11 ⟨rfl, B⟩
 replace E := Lib.hid (ext_trans E.out B)
 replace T1 := Lib.hid (T1.out.ext B)
 replace AN := Lib.hid (AN.out.ext B)
 replace S5 := Lib.hid (S5.out.ext B)
 replace ST := Lib.hid (ST.out.ext B)
 replace R1 := Lib.hid (R1.out.ext B)
 replace R2 := Lib.hid (R2.out.ext B)
 replace P2 := Lib.hid (P2.out.ext B)
 replace P3 := Lib.hid (P3.out.ext B)
 replace P5 := Lib.hid (P5.out.ext B)
 replace QL := Lib.hid (QL.out.ext B)
 clear B
 clear QL
 replace E := Lib.hid (ext_alloc E.out (.cells #[.bool true, .bool false] 4))
 replace T1 := Lib.hid (T1.out.alloc (.cells #[.bool true, .bool false] 4))
 replace AN := Lib.hid (AN.out.alloc (.cells #[.bool true, .bool false] 4))
 replace S5 := Lib.hid (S5.out.alloc (.cells #[.bool true, .bool false] 4))
 replace ST := Lib.hid (ST.out.alloc (.cells #[.bool true, .bool false] 4))
 replace R1 := Lib.hid (R1.out.alloc (.cells #[.bool true, .bool false] 4))
 replace R2 := Lib.hid (R2.out.alloc (.cells #[.bool true, .bool false] 4))
 replace P2 := Lib.hid (P2.out.alloc (.cells #[.bool true, .bool false] 4))
 replace P3 := Lib.hid (P3.out.alloc (.cells #[.bool true, .bool false] 4))
 replace P5 := Lib.hid (P5.out.alloc (.cells #[.bool true, .bool false] 4))
 replace E := Lib.hid (ext_alloc E.out (.cells #[.slice (some ⟨w11.heap.size, 0, none⟩) 2 2] 50))
 replace T1 := Lib.hid (T1.out.alloc (.cells #[.slice (some ⟨w11.heap.size, 0, none⟩) 2 2] 50))
 replace AN := Lib.hid (AN.out.alloc (.cells #[.slice (some ⟨w11.heap.size, 0, none⟩) 2 2] 50))
 replace S5 := Lib.hid (S5.out.alloc (.cells #[.slice (some ⟨w11.heap.size, 0, none⟩) 2 2] 50))
 replace ST := Lib.hid (ST.out.alloc (.cells #[.slice (some ⟨w11.heap.size, 0, none⟩) 2 2] 50))
 replace R1 := Lib.hid (R1.out.alloc (.cells #[.slice (some ⟨w11.heap.size, 0, none⟩) 2 2] 50))
 replace R2 := Lib.hid (R2.out.alloc (.cells #[.slice (some ⟨w11.heap.size, 0, none⟩) 2 2] 50))
 replace P2 := Lib.hid (P2.out.alloc (.cells #[.slice (some ⟨w11.heap.size, 0, none⟩) 2 2] 50))
 replace P3 := Lib.hid (P3.out.alloc (.cells #[.slice (some ⟨w11.heap.size, 0, none⟩) 2 2] 50))
 replace P5 := Lib.hid (P5.out.alloc (.cells #[.slice (some ⟨w11.heap.size, 0, none⟩) 2 2] 50))
 have QL := Lib.hid (ra_one w11 [true, false] [.bool true, .bool false] [.slice (some ⟨w11.heap.size, 0, none⟩) 2 2] rfl rfl)
 go_wp2_with fail
 refine (same_ra (L := [[true, false]]) (L2 := [[true, false]]) true (by decide) P3.out.ra QL.out (by decide) (by decide)).mono ?_
 rintro e w12 ⟨rfl, B⟩
 replace E := Lib.hid (ext_trans E.out B)
 replace T1 := Lib.hid (T1.out.ext B)
 replace AN := Lib.hid (AN.out.ext B)
 replace S5 := Lib.hid (S5.out.ext B)
 replace ST := Lib.hid (ST.out.ext B)
 replace R1 := Lib.hid (R1.out.ext B)
 replace R2 := Lib.hid (R2.out.ext B)
 replace P2 := Lib.hid (P2.out.ext B)
 replace P3 := Lib.hid (P3.out.ext B)
 replace P5 := Lib.hid (P5.out.ext B)
 replace QL := Lib.hid (QL.out.ext B)
 clear B
 clear QL
 replace E := Lib.hid (ext_alloc E.out (.cells #[.bool true, .bool true] 4))
 replace T1 := Lib.hid (T1.out.alloc (.cells #[.bool true, .bool true] 4))
 replace AN := Lib.hid (AN.out.alloc (.cells #[.bool true, .bool true] 4))
 replace S5 := Lib.hid (S5.out.alloc (.cells #[.bool true, .bool true] 4))
 replace ST := Lib.hid (ST.out.alloc (.cells #[.bool true, .bool true] 4))
 replace R1 := Lib.hid (R1.out.alloc (.cells #[.bool true, .bool true] 4))
 replace R2 := Lib.hid (R2.out.alloc (.cells #[.bool true, .bool true] 4))
 replace P2 := Lib.hid (P2.out.alloc (.cells #[.bool true, .bool true] 4))
 replace P3 := Lib.hid (P3.out.alloc (.cells #[.bool true, .bool true] 4))
 replace P5 := Lib.hid (P5.out.alloc (.cells #[.bool true, .bool true] 4))
 replace E := Lib.hid (ext_alloc E.out (.cells #[.slice (some ⟨w12.heap.size, 0, none⟩) 2 2] 50))
 replace T1 := Lib.hid (T1.out.alloc (.cells #[.slice (some ⟨w12.heap.size, 0, none⟩) 2 2] 50))
 replace AN := Lib.hid (AN.out.alloc (.cells #[.slice (some ⟨w12.heap.size, 0, none⟩) 2 2] 50))
 replace S5 := Lib.hid (S5.out.alloc (.cells #[.slice (some ⟨w12.heap.size, 0, none⟩) 2 2] 50))
 replace ST := Lib.hid (ST.out.alloc (.cells #[.slice (some ⟨w12.heap.size, 0, none⟩) 2 2] 50))
 replace R1 := Lib.hid (R1.out.alloc (.cells #[.slice (some ⟨w12.heap.size, 0, none⟩) 2 2] 50))
 replace R2 := Lib.hid (R2.out.alloc (.cells #[.slice (some ⟨w12.heap.size, 0, none⟩) 2 2] 50))
 replace P2 := Lib.hid (P2.out.alloc (.cells #[.slice (some ⟨w12.heap.size, 0, none⟩) 2 2] 50))
 replace P3 := Lib.hid (P3.out.alloc (.cells #[.slice (some ⟨w12.heap.size, 0, none⟩) 2 2] 50))
 replace P5 := Lib.hid (P5.out.alloc (.cells #[.slice (some ⟨w12.heap.size, 0, none⟩) 2 2] 50))
 have QL := Lib.hid (ra_one w12 [true, true] [.bool true, .bool true] [.slice (some ⟨w12.heap.size, 0, none⟩) 2 2] rfl rfl)
 go_wp2_with fail
 refine (same_ra (L := [[true, true]]) (L2 := [[true, true]]) true (by decide) P5.out QL.out (by decide) (by decide)).mono ?_
 rintro e w13 ⟨rfl, B⟩
 replace E := Lib.hid (ext_trans E.out B)
 replace T1 := Lib.hid (T1.out.ext B)
 replace AN := Lib.hid (AN.out.ext B)
 replace S5 := Lib.hid (S5.out.ext B)
 replace ST := Lib.hid (ST.out.ext B)
 replace R1 := Lib.hid (R1.out.ext B)
 replace R2 := Lib.hid (R2.out.ext B)
 replace P2 := Lib.hid (P2.out.ext B)
 replace P3 := Lib.hid (P3.out.ext B)
 replace P5 := Lib.hid (P5.out.ext B)
 replace QL := Lib.hid (QL.out.ext B)
 clear B
 clear QL
 go_wp2_with fail
 go_ret
 exact ⟨rfl, E.out⟩
end Go.Proofs.YtjiojpoiocdnmaaGreat
