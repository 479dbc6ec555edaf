/- Contracts: an offer is made. -/
import Derived.Test.YtmnbeikhjbjpiaaM
import Derived.Test.YtmnbeikhjbjpiaaN2
import Derived.Test.YtmnbeikhjbjpiaaK
set_option linter.unusedSimpArgs false
set_option linter.unusedVariables false
namespace Go.Proofs.Ytmnbeikhjbjpiaa
open Go.RowKit
theorem greatest_at {A : Option Addr} {c n : Nat} (L : List (SliceOf Ag)) {w : World} (r : Int) (hr : greatL L = r) (hn : n = L.length) (ha : Slc w SliceOf.enc 1 A L) (hL : L.length ≤ 1000) (hs : ∀ s ∈ L, Slc w Ag.cells 5 s.A s.l ∧ s.l.length ≤ maxLen) : Calls Try.prog 35 #[.slice A n c] w (RetE w r) := by
  subst hr hn; exact greatest_any A c L w ha hL hs
theorem fits_no2 {own ot : Int} {b : Bl} (h : b.ok = true) : (∀ x ∈ b.ag, 1 ≤ x.no ∧ x.no ≤ 1048576) ∧ ∀ x ∈ b.op, 1 ≤ x.no ∧ x.no ≤ 1048576 := by
  obtain ⟨_, ⟨h1, _⟩, ⟨h2, _⟩, _⟩ := ok_iff.1 h
  exact ⟨fun x hx => fits_no (h1 x hx), fun x hx => fits_no (h2 x hx)⟩
theorem great_lim {b : Bl} (h : b.ok = true) : 0 ≤ great (great 0 b.ag) b.op ∧ great (great 0 b.ag) b.op ≤ 1048576 := by
  obtain ⟨h1, h2⟩ := fits_no2 (own := 0) (ot := 0) h
  refine ⟨Int.le_trans (great_le (n := 0) b.ag 0) (great_le (n := 0) b.op _), great_bound _ _ (great_bound _ _ (by decide) (fun x hx => (h1 x hx).2)) (fun x hx => (h2 x hx).2)⟩
theorem newNo_of {own ot : Int} {ag op : List Ag} {g : Int} {o : Bool} (hg : great (great 0 ag) op = g) (ho : offd (g + 1) own ot = o) : newNo own ot ag op = if o then g + 1 else g + 1 + 1 := by
  unfold newNo; simp only [hg, ho]
set_option maxHeartbeats 1600000 in
set_option maxRecDepth 100000 in
theorem offer_any (b : Bd) (f t m r : Int) (w : World) (hb : BOk w b) (hl : b.ag.l.length ≤ 1000 ∧ b.op.l.length ≤ 1000) :
    Calls Try.prog 12 #[b.v, .int .i64 f, .int .i64 t, .int .i64 m, .int .i64 r] w (BaR w b.off (b.bl.offB f t m r) (b.bl.offX f t m r) (b.bl.offE f t m r)) := by
  have hagl := maxLen_of hb.agl hb.agc
  have hopl := maxLen_of hb.opl hb.opc
  have HOFF := Lib.hid (fun c (h : w.heap.size ≤ c) => hb.off h)
  have HLL := Lib.hid hl
  obtain ⟨v, hv⟩ : ∃ v, b.bl.ok = v := ⟨_, rfl⟩
  obtain ⟨ft, hft⟩ : ∃ v, fits b.own b.ot ⟨1, f, t, m, r⟩ = v := ⟨_, rfl⟩
  obtain ⟨err, herr⟩ : ∃ e, b.bl.offE f t m r = e := ⟨_, rfl⟩
  have HZ := Lib.hid (show err ≠ 0 → b.bl.offB f t m r = zeroB ∧ b.bl.offX f t m r = zeroA from fun h => by unfold Bl.offB Bl.offX; rw [herr, if_neg h, if_neg h]; exact ⟨rfl, rfl⟩)
  have HV := Lib.hid hv
  have HFT := Lib.hid hft
  have HE := Lib.hid herr
  rw [herr]
  clear hl hv hft herr
  cases v
  · have E := Lib.hid (ext_refl w)
    have HB := Lib.hid (hb)
    clear hb
    replace E := Lib.hid (ext_alloc E.out (.cells #[.int .i64 b.own, .int .i64 b.ot, .slice b.ag.A b.ag.l.length b.ag.c, .slice b.op.A b.op.l.length b.op.c] 24))
    replace HB := Lib.hid (HB.out.alloc (.cells #[.int .i64 b.own, .int .i64 b.ot, .slice b.ag.A b.ag.l.length b.ag.c, .slice b.op.A b.op.l.length b.op.c] 24))
    have BB := Lib.hid (Blk.newH w [.int .i64 b.own, .int .i64 b.ot, .slice b.ag.A b.ag.l.length b.ag.c, .slice b.op.A b.op.l.length b.op.c] 24 (w.heap.size) (by first | rfl | simp))
    replace E := Lib.hid (ext_alloc E.out (.cells #[.int .i64 0, .int .i64 0, .slice none 0 0, .slice none 0 0] 24))
    replace HB := Lib.hid (HB.out.alloc (.cells #[.int .i64 0, .int .i64 0, .slice none 0 0, .slice none 0 0] 24))
    replace BB := Lib.hid (BB.out.alloc (.cells #[.int .i64 0, .int .i64 0, .slice none 0 0, .slice none 0 0] 24))
    have R := Lib.hid (Blk.newH (w.alloc (.cells #[.int .i64 b.own, .int .i64 b.ot, .slice b.ag.A b.ag.l.length b.ag.c, .slice b.op.A b.op.l.length b.op.c] 24)) [.int .i64 0, .int .i64 0, .slice none 0 0, .slice none 0 0] 24 (w.heap.size + 1) (by first | rfl | simp))
    replace E := Lib.hid (ext_alloc E.out (.cells #[.int .i64 0, .int .i64 0, .int .i64 0, .int .i64 0, .int .i64 0] 26))
    replace HB := Lib.hid (HB.out.alloc (.cells #[.int .i64 0, .int .i64 0, .int .i64 0, .int .i64 0, .int .i64 0] 26))
    replace BB := Lib.hid (BB.out.alloc (.cells #[.int .i64 0, .int .i64 0, .int .i64 0, .int .i64 0, .int .i64 0] 26))
    replace R := Lib.hid (R.out.alloc (.cells #[.int .i64 0, .int .i64 0, .int .i64 0, .int .i64 0, .int .i64 0] 26))
    have RA := Lib.hid (Blk.newH ((w.alloc (.cells #[.int .i64 b.own, .int .i64 b.ot, .slice b.ag.A b.ag.l.length b.ag.c, .slice b.op.A b.op.l.length b.op.c] 24)).alloc (.cells #[.int .i64 0, .int .i64 0, .slice none 0 0, .slice none 0 0] 24)) [.int .i64 0, .int .i64 0, .int .i64 0, .int .i64 0, .int .i64 0] 26 (w.heap.size + 1 + 1) (by first | rfl | simp))
    replace E := Lib.hid (ext_alloc E.out (.cells #[.int .i64 b.own, .int .i64 b.ot, .slice b.ag.A b.ag.l.length b.ag.c, .slice b.op.A b.op.l.length b.op.c] 64))
    replace HB := Lib.hid (HB.out.alloc (.cells #[.int .i64 b.own, .int .i64 b.ot, .slice b.ag.A b.ag.l.length b.ag.c, .slice b.op.A b.op.l.length b.op.c] 64))
    replace BB := Lib.hid (BB.out.alloc (.cells #[.int .i64 b.own, .int .i64 b.ot, .slice b.ag.A b.ag.l.length b.ag.c, .slice b.op.A b.op.l.length b.op.c] 64))
    replace R := Lib.hid (R.out.alloc (.cells #[.int .i64 b.own, .int .i64 b.ot, .slice b.ag.A b.ag.l.length b.ag.c, .slice b.op.A b.op.l.length b.op.c] 64))
    replace RA := Lib.hid (RA.out.alloc (.cells #[.int .i64 b.own, .int .i64 b.ot, .slice b.ag.A b.ag.l.length b.ag.c, .slice b.op.A b.op.l.length b.op.c] 64))
    have Y := Lib.hid (Blk.newH (((w.alloc (.cells #[.int .i64 b.own, .int .i64 b.ot, .slice b.ag.A b.ag.l.length b.ag.c, .slice b.op.A b.op.l.length b.op.c] 24)).alloc (.cells #[.int .i64 0, .int .i64 0, .slice none 0 0, .slice none 0 0] 24)).alloc (.cells #[.int .i64 0, .int .i64 0, .int .i64 0, .int .i64 0, .int .i64 0] 26)) [.int .i64 b.own, .int .i64 b.ot, .slice b.ag.A b.ag.l.length b.ag.c, .slice b.op.A b.op.l.length b.op.c] 64 (w.heap.size + 1 + 1 + 1) (by first | rfl | simp))
    go_enter Try.func12, Try.ntmps12
    have c0 := Y.out.c 0 _ rfl
    have c1 := Y.out.c 1 _ rfl
    have c2 := Y.out.c 2 _ rfl
    have c3 := Y.out.c 3 _ rfl
    go_wp2_with fail
    refine (valid33_at false HV.out HB.out).mono ?_
    rintro e v1 ⟨rfl, B⟩
    clear c0 c1 c2 c3
    replace E := Lib.hid (ext_trans E.out B)
    replace HB := Lib.hid (HB.out.ext B)
    replace BB := Lib.hid (BB.out.ext B)
    replace R := Lib.hid (R.out.ext B)
    replace RA := Lib.hid (RA.out.ext B)
    replace Y := Lib.hid (Y.out.ext B)
    clear B
    have HERR := Lib.hid (show err = 480 by rw [← HE.out]; unfold Bl.offE; rw [HV.out]; rfl)
    go_wp2_with fail
    refine rg_begin (S := (fun w' => w'.cell? ⟨w.heap.size + 1, 0, none⟩ = some (.int .i64 0) ∧ w'.cell? ⟨w.heap.size + 1, 1, none⟩ = some (.int .i64 0) ∧ w'.cell? ⟨w.heap.size + 1, 2, none⟩ = some (.slice none 0 0) ∧ w'.cell? ⟨w.heap.size + 1, 3, none⟩ = some (.slice none 0 0) ∧ w'.cell? ⟨w.heap.size + 1 + 1, 0, none⟩ = some (.int .i64 0) ∧ w'.cell? ⟨w.heap.size + 1 + 1, 1, none⟩ = some (.int .i64 0) ∧ w'.cell? ⟨w.heap.size + 1 + 1, 2, none⟩ = some (.int .i64 0) ∧ w'.cell? ⟨w.heap.size + 1 + 1, 3, none⟩ = some (.int .i64 0) ∧ w'.cell? ⟨w.heap.size + 1 + 1, 4, none⟩ = some (.int .i64 0))) 3 (by kernel_rfl) (by intro d; cases d <;> intro _ _ _ _ h <;> exact h) ?_ (fun Q7 hQ7 hN7 hHeld => ?_)
    · exact ⟨(R.out.drew).c 0 _ rfl, (R.out.drew).c 1 _ rfl, (R.out.drew).c 2 _ rfl, (R.out.drew).c 3 _ rfl, (RA.out.drew).c 0 _ rfl, (RA.out.drew).c 1 _ rfl, (RA.out.drew).c 2 _ rfl, (RA.out.drew).c 3 _ rfl, (RA.out.drew).c 4 _ rfl⟩
    have g00 : v1.cell? ⟨w.heap.size + 1, 0, none⟩ = some (.int .i64 0) := R.out.c 0 _ rfl
    have g01 : v1.cell? ⟨w.heap.size + 1, 1, none⟩ = some (.int .i64 0) := R.out.c 1 _ rfl
    have g02 : v1.cell? ⟨w.heap.size + 1, 2, none⟩ = some (.slice none 0 0) := R.out.c 2 _ rfl
    have g03 : v1.cell? ⟨w.heap.size + 1, 3, none⟩ = some (.slice none 0 0) := R.out.c 3 _ rfl
    have g0f : ∀ j, v1.frozen? ⟨w.heap.size + 1, j, none⟩ = false := R.out.f
    have g0l : w.heap.size + 1 < v1.heap.size := R.out.lt
    have g10 : v1.cell? ⟨w.heap.size + 1 + 1, 0, none⟩ = some (.int .i64 0) := RA.out.c 0 _ rfl
    have g11 : v1.cell? ⟨w.heap.size + 1 + 1, 1, none⟩ = some (.int .i64 0) := RA.out.c 1 _ rfl
    have g12 : v1.cell? ⟨w.heap.size + 1 + 1, 2, none⟩ = some (.int .i64 0) := RA.out.c 2 _ rfl
    have g13 : v1.cell? ⟨w.heap.size + 1 + 1, 3, none⟩ = some (.int .i64 0) := RA.out.c 3 _ rfl
    have g14 : v1.cell? ⟨w.heap.size + 1 + 1, 4, none⟩ = some (.int .i64 0) := RA.out.c 4 _ rfl
    have g1f : ∀ j, v1.frozen? ⟨w.heap.size + 1 + 1, j, none⟩ = false := RA.out.f
    have g1l : w.heap.size + 1 + 1 < v1.heap.size := RA.out.lt
    refine rg_take (i := 0) (some 30) (v := ?_) rfl rfl (by kernel_rfl) (by rfl) hQ7 hHeld ?_ ?_
    rotate_left
    · intro w7 hSw; (try dsimp only at hSw); go_simp; all_goals with_reducible rfl
    try simp only [Act.put, List.setIfInBounds_toArray, List.set_cons_zero, List.set_cons_succ]
    refine rg_take (i := 1) (some 31) (v := ?_) rfl rfl (by kernel_rfl) (by rfl) hQ7 hHeld ?_ ?_
    rotate_left
    · intro w7 hSw; (try dsimp only at hSw); go_simp; all_goals with_reducible rfl
    try simp only [Act.put, List.setIfInBounds_toArray, List.set_cons_zero, List.set_cons_succ]
    have KR := R.out.put4 (.int .i64 0) (.int .i64 0) (.slice none 0 0) (.slice none 0 0)
    have KRA := RA.out.off4 (c := w.heap.size + 1) (.int .i64 0) (.int .i64 0) (.slice none 0 0) (.slice none 0 0) (by first | omega | (simp; done) | (simp; omega))
    unfold set4 at KR KRA
    refine rg_one (i := 2) (by kernel_rfl) (rg_step rfl (by rfl) (fun K hK => ?_))
    go_simp
    refine hK.out _ _ ?_ (fun hHeld2 => ?_)
    · exact ⟨(KR.drew).c 0 _ rfl, (KR.drew).c 1 _ rfl, (KR.drew).c 2 _ rfl, (KR.drew).c 3 _ rfl, (KRA.drew).c 0 _ rfl, (KRA.drew).c 1 _ rfl, (KRA.drew).c 2 _ rfl, (KRA.drew).c 3 _ rfl, (KRA.drew).c 4 _ rfl⟩
    clear hHeld
    have hHeld := hHeld2
    clear hHeld2
    clear hK K
    try simp only [Act.put, List.setIfInBounds_toArray, List.set_cons_zero, List.set_cons_succ]
    clear KR KRA
    replace E := Lib.hid (ext_set4 E.out (w.heap.size + 1) (.int .i64 0) (.int .i64 0) (.slice none 0 0) (.slice none 0 0) (by first | exact Nat.le_refl _ | omega | (simp; done) | (simp; omega)))
    replace HB := Lib.hid (HB.out.set4 (c := (w.heap.size + 1)) (.int .i64 0) (.int .i64 0) (.slice none 0 0) (.slice none 0 0) (HOFF.out _ (by omega)))
    replace BB := Lib.hid (BB.out.off4 (c := w.heap.size + 1) (.int .i64 0) (.int .i64 0) (.slice none 0 0) (.slice none 0 0) (by first | omega | (simp; done) | (simp; omega)))
    replace R := Lib.hid (R.out.put4 (.int .i64 0) (.int .i64 0) (.slice none 0 0) (.slice none 0 0))
    replace RA := Lib.hid (RA.out.off4 (c := w.heap.size + 1) (.int .i64 0) (.int .i64 0) (.slice none 0 0) (.slice none 0 0) (by first | omega | (simp; done) | (simp; omega)))
    replace Y := Lib.hid (Y.out.off4 (c := w.heap.size + 1) (.int .i64 0) (.int .i64 0) (.slice none 0 0) (.slice none 0 0) (by first | omega | (simp; done) | (simp; omega)))
    unfold set4 at E HB BB R RA Y
    refine rg_one (i := 3) (by kernel_rfl) (rg_late rfl (by rfl) (by kernel_rfl) (fun K hK => ?_))
    go_simp
    refine hK.out _ _ ?_
    clear hK K
    try simp only [Act.put, List.setIfInBounds_toArray, List.set_cons_zero, List.set_cons_succ]
    replace E := Lib.hid (ext_set5 E.out (w.heap.size + 1 + 1) (.int .i64 0) (.int .i64 0) (.int .i64 0) (.int .i64 0) (.int .i64 0) (by first | exact Nat.le_refl _ | omega | (simp; done) | (simp; omega)))
    replace HB := Lib.hid (HB.out.set5 (c := (w.heap.size + 1 + 1)) (.int .i64 0) (.int .i64 0) (.int .i64 0) (.int .i64 0) (.int .i64 0) (HOFF.out _ (by omega)))
    replace BB := Lib.hid (BB.out.off5 (c := w.heap.size + 1 + 1) (.int .i64 0) (.int .i64 0) (.int .i64 0) (.int .i64 0) (.int .i64 0) (by first | omega | (simp; done) | (simp; omega)))
    replace R := Lib.hid (R.out.off5 (c := w.heap.size + 1 + 1) (.int .i64 0) (.int .i64 0) (.int .i64 0) (.int .i64 0) (.int .i64 0) (by first | omega | (simp; done) | (simp; omega)))
    replace RA := Lib.hid (RA.out.put5 (.int .i64 0) (.int .i64 0) (.int .i64 0) (.int .i64 0) (.int .i64 0))
    replace Y := Lib.hid (Y.out.off5 (c := w.heap.size + 1 + 1) (.int .i64 0) (.int .i64 0) (.int .i64 0) (.int .i64 0) (.int .i64 0) (by first | omega | (simp; done) | (simp; omega)))
    unfold set5 at E HB BB R RA Y
    refine rg_pure (i := 4) (some 12) (v := ?_) rfl rfl (by kernel_rfl) (by rfl) hQ7 (.inl (by kernel_rfl)) ?_ ?_
    rotate_left
    · intro w7; go_simp; all_goals with_reducible rfl
    try simp only [Act.put, List.setIfInBounds_toArray, List.set_cons_zero, List.set_cons_succ]
    refine rg_end (by kernel_rfl) (hN7 _ _ ?_) _
    clear hQ7 hN7 Q7
    have DD := ext_drew (ext_refl (((((((((v1.setCell ⟨w.heap.size + 1, 0, none⟩ (.int .i64 0)).setCell ⟨w.heap.size + 1, 1, none⟩ (.int .i64 0)).setCell ⟨w.heap.size + 1, 2, none⟩ (.slice none 0 0)).setCell ⟨w.heap.size + 1, 3, none⟩ (.slice none 0 0)).setCell ⟨w.heap.size + 1 + 1, 0, none⟩ (.int .i64 0)).setCell ⟨w.heap.size + 1 + 1, 1, none⟩ (.int .i64 0)).setCell ⟨w.heap.size + 1 + 1, 2, none⟩ (.int .i64 0)).setCell ⟨w.heap.size + 1 + 1, 3, none⟩ (.int .i64 0)).setCell ⟨w.heap.size + 1 + 1, 4, none⟩ (.int .i64 0)))
    replace E := Lib.hid (ext_trans E.out DD)
    replace HB := Lib.hid (HB.out.ext DD)
    replace BB := Lib.hid (BB.out.ext DD)
    replace R := Lib.hid (R.out.ext DD)
    replace RA := Lib.hid (RA.out.ext DD)
    replace Y := Lib.hid (Y.out.ext DD)
    clear DD
    go_wp2_with fail
    refine bodyPost_ret (v := .tuple #[.agg #[.int .i64 0, .int .i64 0, .slice none 0 0, .slice none 0 0], .agg #[.int .i64 0, .int .i64 0, .int .i64 0, .int .i64 0, .int .i64 0], .int .i64 480]) (by simp [results, Try.results12, go_sem, *]) rfl ?_
    exact BaR.zero HERR.out HZ.out (by decide) rfl E.out
  cases ft
  · have E := Lib.hid (ext_refl w)
    have HB := Lib.hid (hb)
    clear hb
    replace E := Lib.hid (ext_alloc E.out (.cells #[.int .i64 b.own, .int .i64 b.ot, .slice b.ag.A b.ag.l.length b.ag.c, .slice b.op.A b.op.l.length b.op.c] 24))
    replace HB := Lib.hid (HB.out.alloc (.cells #[.int .i64 b.own, .int .i64 b.ot, .slice b.ag.A b.ag.l.length b.ag.c, .slice b.op.A b.op.l.length b.op.c] 24))
    have BB := Lib.hid (Blk.newH w [.int .i64 b.own, .int .i64 b.ot, .slice b.ag.A b.ag.l.length b.ag.c, .slice b.op.A b.op.l.length b.op.c] 24 (w.heap.size) (by first | rfl | simp))
    replace E := Lib.hid (ext_alloc E.out (.cells #[.int .i64 0, .int .i64 0, .slice none 0 0, .slice none 0 0] 24))
    replace HB := Lib.hid (HB.out.alloc (.cells #[.int .i64 0, .int .i64 0, .slice none 0 0, .slice none 0 0] 24))
    replace BB := Lib.hid (BB.out.alloc (.cells #[.int .i64 0, .int .i64 0, .slice none 0 0, .slice none 0 0] 24))
    have R := Lib.hid (Blk.newH (w.alloc (.cells #[.int .i64 b.own, .int .i64 b.ot, .slice b.ag.A b.ag.l.length b.ag.c, .slice b.op.A b.op.l.length b.op.c] 24)) [.int .i64 0, .int .i64 0, .slice none 0 0, .slice none 0 0] 24 (w.heap.size + 1) (by first | rfl | simp))
    replace E := Lib.hid (ext_alloc E.out (.cells #[.int .i64 0, .int .i64 0, .int .i64 0, .int .i64 0, .int .i64 0] 26))
    replace HB := Lib.hid (HB.out.alloc (.cells #[.int .i64 0, .int .i64 0, .int .i64 0, .int .i64 0, .int .i64 0] 26))
    replace BB := Lib.hid (BB.out.alloc (.cells #[.int .i64 0, .int .i64 0, .int .i64 0, .int .i64 0, .int .i64 0] 26))
    replace R := Lib.hid (R.out.alloc (.cells #[.int .i64 0, .int .i64 0, .int .i64 0, .int .i64 0, .int .i64 0] 26))
    have RA := Lib.hid (Blk.newH ((w.alloc (.cells #[.int .i64 b.own, .int .i64 b.ot, .slice b.ag.A b.ag.l.length b.ag.c, .slice b.op.A b.op.l.length b.op.c] 24)).alloc (.cells #[.int .i64 0, .int .i64 0, .slice none 0 0, .slice none 0 0] 24)) [.int .i64 0, .int .i64 0, .int .i64 0, .int .i64 0, .int .i64 0] 26 (w.heap.size + 1 + 1) (by first | rfl | simp))
    replace E := Lib.hid (ext_alloc E.out (.cells #[.int .i64 b.own, .int .i64 b.ot, .slice b.ag.A b.ag.l.length b.ag.c, .slice b.op.A b.op.l.length b.op.c] 64))
    replace HB := Lib.hid (HB.out.alloc (.cells #[.int .i64 b.own, .int .i64 b.ot, .slice b.ag.A b.ag.l.length b.ag.c, .slice b.op.A b.op.l.length b.op.c] 64))
    replace BB := Lib.hid (BB.out.alloc (.cells #[.int .i64 b.own, .int .i64 b.ot, .slice b.ag.A b.ag.l.length b.ag.c, .slice b.op.A b.op.l.length b.op.c] 64))
    replace R := Lib.hid (R.out.alloc (.cells #[.int .i64 b.own, .int .i64 b.ot, .slice b.ag.A b.ag.l.length b.ag.c, .slice b.op.A b.op.l.length b.op.c] 64))
    replace RA := Lib.hid (RA.out.alloc (.cells #[.int .i64 b.own, .int .i64 b.ot, .slice b.ag.A b.ag.l.length b.ag.c, .slice b.op.A b.op.l.length b.op.c] 64))
    have Y := Lib.hid (Blk.newH (((w.alloc (.cells #[.int .i64 b.own, .int .i64 b.ot, .slice b.ag.A b.ag.l.length b.ag.c, .slice b.op.A b.op.l.length b.op.c] 24)).alloc (.cells #[.int .i64 0, .int .i64 0, .slice none 0 0, .slice none 0 0] 24)).alloc (.cells #[.int .i64 0, .int .i64 0, .int .i64 0, .int .i64 0, .int .i64 0] 26)) [.int .i64 b.own, .int .i64 b.ot, .slice b.ag.A b.ag.l.length b.ag.c, .slice b.op.A b.op.l.length b.op.c] 64 (w.heap.size + 1 + 1 + 1) (by first | rfl | simp))
    go_enter Try.func12, Try.ntmps12
    have c0 := Y.out.c 0 _ rfl
    have c1 := Y.out.c 1 _ rfl
    have c2 := Y.out.c 2 _ rfl
    have c3 := Y.out.c 3 _ rfl
    go_wp2_with fail
    refine (valid33_at true HV.out HB.out).mono ?_
    rintro e v1 ⟨rfl, B⟩
    clear c0 c1 c2 c3
    replace E := Lib.hid (ext_trans E.out B)
    replace HB := Lib.hid (HB.out.ext B)
    replace BB := Lib.hid (BB.out.ext B)
    replace R := Lib.hid (R.out.ext B)
    replace RA := Lib.hid (RA.out.ext B)
    replace Y := Lib.hid (Y.out.ext B)
    clear B
    have c0 := Y.out.c 0 _ rfl
    have c1 := Y.out.c 1 _ rfl
    have c2 := Y.out.c 2 _ rfl
    have c3 := Y.out.c 3 _ rfl
    go_wp2_with fail
    refine (fits_at (b := b) (x := ⟨1, f, t, m, r⟩) false HFT.out).mono ?_
    rintro e v2 ⟨rfl, B⟩
    clear c0 c1 c2 c3
    replace E := Lib.hid (ext_trans E.out B)
    replace HB := Lib.hid (HB.out.ext B)
    replace BB := Lib.hid (BB.out.ext B)
    replace R := Lib.hid (R.out.ext B)
    replace RA := Lib.hid (RA.out.ext B)
    replace Y := Lib.hid (Y.out.ext B)
    clear B
    have HERR := Lib.hid (show err = 480 by rw [← HE.out]; unfold Bl.offE; rw [HV.out]; rw [show fits b.bl.own b.bl.ot ⟨1, f, t, m, r⟩ = false from HFT.out]; rfl)
    go_wp2_with fail
    refine rg_begin (S := (fun w' => w'.cell? ⟨w.heap.size + 1, 0, none⟩ = some (.int .i64 0) ∧ w'.cell? ⟨w.heap.size + 1, 1, none⟩ = some (.int .i64 0) ∧ w'.cell? ⟨w.heap.size + 1, 2, none⟩ = some (.slice none 0 0) ∧ w'.cell? ⟨w.heap.size + 1, 3, none⟩ = some (.slice none 0 0) ∧ w'.cell? ⟨w.heap.size + 1 + 1, 0, none⟩ = some (.int .i64 0) ∧ w'.cell? ⟨w.heap.size + 1 + 1, 1, none⟩ = some (.int .i64 0) ∧ w'.cell? ⟨w.heap.size + 1 + 1, 2, none⟩ = some (.int .i64 0) ∧ w'.cell? ⟨w.heap.size + 1 + 1, 3, none⟩ = some (.int .i64 0) ∧ w'.cell? ⟨w.heap.size + 1 + 1, 4, none⟩ = some (.int .i64 0))) 3 (by kernel_rfl) (by intro d; cases d <;> intro _ _ _ _ h <;> exact h) ?_ (fun Q7 hQ7 hN7 hHeld => ?_)
    · exact ⟨(R.out.drew).c 0 _ rfl, (R.out.drew).c 1 _ rfl, (R.out.drew).c 2 _ rfl, (R.out.drew).c 3 _ rfl, (RA.out.drew).c 0 _ rfl, (RA.out.drew).c 1 _ rfl, (RA.out.drew).c 2 _ rfl, (RA.out.drew).c 3 _ rfl, (RA.out.drew).c 4 _ rfl⟩
    have g00 : v2.cell? ⟨w.heap.size + 1, 0, none⟩ = some (.int .i64 0) := R.out.c 0 _ rfl
    have g01 : v2.cell? ⟨w.heap.size + 1, 1, none⟩ = some (.int .i64 0) := R.out.c 1 _ rfl
    have g02 : v2.cell? ⟨w.heap.size + 1, 2, none⟩ = some (.slice none 0 0) := R.out.c 2 _ rfl
    have g03 : v2.cell? ⟨w.heap.size + 1, 3, none⟩ = some (.slice none 0 0) := R.out.c 3 _ rfl
    have g0f : ∀ j, v2.frozen? ⟨w.heap.size + 1, j, none⟩ = false := R.out.f
    have g0l : w.heap.size + 1 < v2.heap.size := R.out.lt
    have g10 : v2.cell? ⟨w.heap.size + 1 + 1, 0, none⟩ = some (.int .i64 0) := RA.out.c 0 _ rfl
    have g11 : v2.cell? ⟨w.heap.size + 1 + 1, 1, none⟩ = some (.int .i64 0) := RA.out.c 1 _ rfl
    have g12 : v2.cell? ⟨w.heap.size + 1 + 1, 2, none⟩ = some (.int .i64 0) := RA.out.c 2 _ rfl
    have g13 : v2.cell? ⟨w.heap.size + 1 + 1, 3, none⟩ = some (.int .i64 0) := RA.out.c 3 _ rfl
    have g14 : v2.cell? ⟨w.heap.size + 1 + 1, 4, none⟩ = some (.int .i64 0) := RA.out.c 4 _ rfl
    have g1f : ∀ j, v2.frozen? ⟨w.heap.size + 1 + 1, j, none⟩ = false := RA.out.f
    have g1l : w.heap.size + 1 + 1 < v2.heap.size := RA.out.lt
    refine rg_take (i := 0) (some 30) (v := ?_) rfl rfl (by kernel_rfl) (by rfl) hQ7 hHeld ?_ ?_
    rotate_left
    · intro w7 hSw; (try dsimp only at hSw); go_simp; all_goals with_reducible rfl
    try simp only [Act.put, List.setIfInBounds_toArray, List.set_cons_zero, List.set_cons_succ]
    refine rg_take (i := 1) (some 31) (v := ?_) rfl rfl (by kernel_rfl) (by rfl) hQ7 hHeld ?_ ?_
    rotate_left
    · intro w7 hSw; (try dsimp only at hSw); go_simp; all_goals with_reducible rfl
    try simp only [Act.put, List.setIfInBounds_toArray, List.set_cons_zero, List.set_cons_succ]
    have KR := R.out.put4 (.int .i64 0) (.int .i64 0) (.slice none 0 0) (.slice none 0 0)
    have KRA := RA.out.off4 (c := w.heap.size + 1) (.int .i64 0) (.int .i64 0) (.slice none 0 0) (.slice none 0 0) (by first | omega | (simp; done) | (simp; omega))
    unfold set4 at KR KRA
    refine rg_one (i := 2) (by kernel_rfl) (rg_step rfl (by rfl) (fun K hK => ?_))
    go_simp
    refine hK.out _ _ ?_ (fun hHeld2 => ?_)
    · exact ⟨(KR.drew).c 0 _ rfl, (KR.drew).c 1 _ rfl, (KR.drew).c 2 _ rfl, (KR.drew).c 3 _ rfl, (KRA.drew).c 0 _ rfl, (KRA.drew).c 1 _ rfl, (KRA.drew).c 2 _ rfl, (KRA.drew).c 3 _ rfl, (KRA.drew).c 4 _ rfl⟩
    clear hHeld
    have hHeld := hHeld2
    clear hHeld2
    clear hK K
    try simp only [Act.put, List.setIfInBounds_toArray, List.set_cons_zero, List.set_cons_succ]
    clear KR KRA
    replace E := Lib.hid (ext_set4 E.out (w.heap.size + 1) (.int .i64 0) (.int .i64 0) (.slice none 0 0) (.slice none 0 0) (by first | exact Nat.le_refl _ | omega | (simp; done) | (simp; omega)))
    replace HB := Lib.hid (HB.out.set4 (c := (w.heap.size + 1)) (.int .i64 0) (.int .i64 0) (.slice none 0 0) (.slice none 0 0) (HOFF.out _ (by omega)))
    replace BB := Lib.hid (BB.out.off4 (c := w.heap.size + 1) (.int .i64 0) (.int .i64 0) (.slice none 0 0) (.slice none 0 0) (by first | omega | (simp; done) | (simp; omega)))
    replace R := Lib.hid (R.out.put4 (.int .i64 0) (.int .i64 0) (.slice none 0 0) (.slice none 0 0))
    replace RA := Lib.hid (RA.out.off4 (c := w.heap.size + 1) (.int .i64 0) (.int .i64 0) (.slice none 0 0) (.slice none 0 0) (by first | omega | (simp; done) | (simp; omega)))
    replace Y := Lib.hid (Y.out.off4 (c := w.heap.size + 1) (.int .i64 0) (.int .i64 0) (.slice none 0 0) (.slice none 0 0) (by first | omega | (simp; done) | (simp; omega)))
    unfold set4 at E HB BB R RA Y
    refine rg_one (i := 3) (by kernel_rfl) (rg_late rfl (by rfl) (by kernel_rfl) (fun K hK => ?_))
    go_simp
    refine hK.out _ _ ?_
    clear hK K
    try simp only [Act.put, List.setIfInBounds_toArray, List.set_cons_zero, List.set_cons_succ]
    replace E := Lib.hid (ext_set5 E.out (w.heap.size + 1 + 1) (.int .i64 0) (.int .i64 0) (.int .i64 0) (.int .i64 0) (.int .i64 0) (by first | exact Nat.le_refl _ | omega | (simp; done) | (simp; omega)))
    replace HB := Lib.hid (HB.out.set5 (c := (w.heap.size + 1 + 1)) (.int .i64 0) (.int .i64 0) (.int .i64 0) (.int .i64 0) (.int .i64 0) (HOFF.out _ (by omega)))
    replace BB := Lib.hid (BB.out.off5 (c := w.heap.size + 1 + 1) (.int .i64 0) (.int .i64 0) (.int .i64 0) (.int .i64 0) (.int .i64 0) (by first | omega | (simp; done) | (simp; omega)))
    replace R := Lib.hid (R.out.off5 (c := w.heap.size + 1 + 1) (.int .i64 0) (.int .i64 0) (.int .i64 0) (.int .i64 0) (.int .i64 0) (by first | omega | (simp; done) | (simp; omega)))
    replace RA := Lib.hid (RA.out.put5 (.int .i64 0) (.int .i64 0) (.int .i64 0) (.int .i64 0) (.int .i64 0))
    replace Y := Lib.hid (Y.out.off5 (c := w.heap.size + 1 + 1) (.int .i64 0) (.int .i64 0) (.int .i64 0) (.int .i64 0) (.int .i64 0) (by first | omega | (simp; done) | (simp; omega)))
    unfold set5 at E HB BB R RA Y
    refine rg_pure (i := 4) (some 12) (v := ?_) rfl rfl (by kernel_rfl) (by rfl) hQ7 (.inl (by kernel_rfl)) ?_ ?_
    rotate_left
    · intro w7; go_simp; all_goals with_reducible rfl
    try simp only [Act.put, List.setIfInBounds_toArray, List.set_cons_zero, List.set_cons_succ]
    refine rg_end (by kernel_rfl) (hN7 _ _ ?_) _
    clear hQ7 hN7 Q7
    have DD := ext_drew (ext_refl (((((((((v2.setCell ⟨w.heap.size + 1, 0, none⟩ (.int .i64 0)).setCell ⟨w.heap.size + 1, 1, none⟩ (.int .i64 0)).setCell ⟨w.heap.size + 1, 2, none⟩ (.slice none 0 0)).setCell ⟨w.heap.size + 1, 3, none⟩ (.slice none 0 0)).setCell ⟨w.heap.size + 1 + 1, 0, none⟩ (.int .i64 0)).setCell ⟨w.heap.size + 1 + 1, 1, none⟩ (.int .i64 0)).setCell ⟨w.heap.size + 1 + 1, 2, none⟩ (.int .i64 0)).setCell ⟨w.heap.size + 1 + 1, 3, none⟩ (.int .i64 0)).setCell ⟨w.heap.size + 1 + 1, 4, none⟩ (.int .i64 0)))
    replace E := Lib.hid (ext_trans E.out DD)
    replace HB := Lib.hid (HB.out.ext DD)
    replace BB := Lib.hid (BB.out.ext DD)
    replace R := Lib.hid (R.out.ext DD)
    replace RA := Lib.hid (RA.out.ext DD)
    replace Y := Lib.hid (Y.out.ext DD)
    clear DD
    go_wp2_with fail
    refine bodyPost_ret (v := .tuple #[.agg #[.int .i64 0, .int .i64 0, .slice none 0 0, .slice none 0 0], .agg #[.int .i64 0, .int .i64 0, .int .i64 0, .int .i64 0, .int .i64 0], .int .i64 480]) (by simp [results, Try.results12, go_sem, *]) rfl ?_
    exact BaR.zero HERR.out HZ.out (by decide) rfl E.out
  obtain ⟨g, hg⟩ : ∃ g, great (great 0 b.ag.l) b.op.l = g := ⟨_, rfl⟩
  have HGL := great_lim HV.out
  rw [show great (great 0 b.bl.ag) b.bl.op = g from hg] at HGL
  obtain ⟨hg0, hg1⟩ := HGL
  obtain ⟨od, hod⟩ : ∃ o, offd (g + 1) b.own b.ot = o := ⟨_, rfl⟩
  have HNN := Lib.hid (newNo_of hg hod)
  have HEN := Lib.hid (show err = if 1048576 < newNo b.own b.ot b.ag.l b.op.l then 2 else 0 by rw [← HE.out]; unfold Bl.offE; rw [HV.out, show fits b.bl.own b.bl.ot ⟨1, f, t, m, r⟩ = true from HFT.out]; rfl)
  have HG := Lib.hid hg
  have HOD := Lib.hid hod
  clear hg hod
  have E := Lib.hid (ext_refl w)
  have HB := Lib.hid (hb)
  clear hb
  replace E := Lib.hid (ext_alloc E.out (.cells #[.int .i64 b.own, .int .i64 b.ot, .slice b.ag.A b.ag.l.length b.ag.c, .slice b.op.A b.op.l.length b.op.c] 24))
  replace HB := Lib.hid (HB.out.alloc (.cells #[.int .i64 b.own, .int .i64 b.ot, .slice b.ag.A b.ag.l.length b.ag.c, .slice b.op.A b.op.l.length b.op.c] 24))
  have BB := Lib.hid (Blk.newH w [.int .i64 b.own, .int .i64 b.ot, .slice b.ag.A b.ag.l.length b.ag.c, .slice b.op.A b.op.l.length b.op.c] 24 (w.heap.size) (by first | rfl | simp))
  replace E := Lib.hid (ext_alloc E.out (.cells #[.int .i64 0, .int .i64 0, .slice none 0 0, .slice none 0 0] 24))
  replace HB := Lib.hid (HB.out.alloc (.cells #[.int .i64 0, .int .i64 0, .slice none 0 0, .slice none 0 0] 24))
  replace BB := Lib.hid (BB.out.alloc (.cells #[.int .i64 0, .int .i64 0, .slice none 0 0, .slice none 0 0] 24))
  have R := Lib.hid (Blk.newH (w.alloc (.cells #[.int .i64 b.own, .int .i64 b.ot, .slice b.ag.A b.ag.l.length b.ag.c, .slice b.op.A b.op.l.length b.op.c] 24)) [.int .i64 0, .int .i64 0, .slice none 0 0, .slice none 0 0] 24 (w.heap.size + 1) (by first | rfl | simp))
  replace E := Lib.hid (ext_alloc E.out (.cells #[.int .i64 0, .int .i64 0, .int .i64 0, .int .i64 0, .int .i64 0] 26))
  replace HB := Lib.hid (HB.out.alloc (.cells #[.int .i64 0, .int .i64 0, .int .i64 0, .int .i64 0, .int .i64 0] 26))
  replace BB := Lib.hid (BB.out.alloc (.cells #[.int .i64 0, .int .i64 0, .int .i64 0, .int .i64 0, .int .i64 0] 26))
  replace R := Lib.hid (R.out.alloc (.cells #[.int .i64 0, .int .i64 0, .int .i64 0, .int .i64 0, .int .i64 0] 26))
  have RA := Lib.hid (Blk.newH ((w.alloc (.cells #[.int .i64 b.own, .int .i64 b.ot, .slice b.ag.A b.ag.l.length b.ag.c, .slice b.op.A b.op.l.length b.op.c] 24)).alloc (.cells #[.int .i64 0, .int .i64 0, .slice none 0 0, .slice none 0 0] 24)) [.int .i64 0, .int .i64 0, .int .i64 0, .int .i64 0, .int .i64 0] 26 (w.heap.size + 1 + 1) (by first | rfl | simp))
  replace E := Lib.hid (ext_alloc E.out (.cells #[.int .i64 b.own, .int .i64 b.ot, .slice b.ag.A b.ag.l.length b.ag.c, .slice b.op.A b.op.l.length b.op.c] 64))
  replace HB := Lib.hid (HB.out.alloc (.cells #[.int .i64 b.own, .int .i64 b.ot, .slice b.ag.A b.ag.l.length b.ag.c, .slice b.op.A b.op.l.length b.op.c] 64))
  replace BB := Lib.hid (BB.out.alloc (.cells #[.int .i64 b.own, .int .i64 b.ot, .slice b.ag.A b.ag.l.length b.ag.c, .slice b.op.A b.op.l.length b.op.c] 64))
  replace R := Lib.hid (R.out.alloc (.cells #[.int .i64 b.own, .int .i64 b.ot, .slice b.ag.A b.ag.l.length b.ag.c, .slice b.op.A b.op.l.length b.op.c] 64))
  replace RA := Lib.hid (RA.out.alloc (.cells #[.int .i64 b.own, .int .i64 b.ot, .slice b.ag.A b.ag.l.length b.ag.c, .slice b.op.A b.op.l.length b.op.c] 64))
  have Y := Lib.hid (Blk.newH (((w.alloc (.cells #[.int .i64 b.own, .int .i64 b.ot, .slice b.ag.A b.ag.l.length b.ag.c, .slice b.op.A b.op.l.length b.op.c] 24)).alloc (.cells #[.int .i64 0, .int .i64 0, .slice none 0 0, .slice none 0 0] 24)).alloc (.cells #[.int .i64 0, .int .i64 0, .int .i64 0, .int .i64 0, .int .i64 0] 26)) [.int .i64 b.own, .int .i64 b.ot, .slice b.ag.A b.ag.l.length b.ag.c, .slice b.op.A b.op.l.length b.op.c] 64 (w.heap.size + 1 + 1 + 1) (by first | rfl | simp))
  go_enter Try.func12, Try.ntmps12
  have c0 := Y.out.c 0 _ rfl
  have c1 := Y.out.c 1 _ rfl
  have c2 := Y.out.c 2 _ rfl
  have c3 := Y.out.c 3 _ rfl
  go_wp2_with fail
  refine (valid33_at true HV.out HB.out).mono ?_
  rintro e v1 ⟨rfl, B⟩
  clear c0 c1 c2 c3
  replace E := Lib.hid (ext_trans E.out B)
  replace HB := Lib.hid (HB.out.ext B)
  replace BB := Lib.hid (BB.out.ext B)
  replace R := Lib.hid (R.out.ext B)
  replace RA := Lib.hid (RA.out.ext B)
  replace Y := Lib.hid (Y.out.ext B)
  clear B
  have c0 := Y.out.c 0 _ rfl
  have c1 := Y.out.c 1 _ rfl
  have c2 := Y.out.c 2 _ rfl
  have c3 := Y.out.c 3 _ rfl
  go_wp2_with fail
  refine (fits_at (b := b) (x := ⟨1, f, t, m, r⟩) true HFT.out).mono ?_
  rintro e v2 ⟨rfl, B⟩
  clear c0 c1 c2 c3
  replace E := Lib.hid (ext_trans E.out B)
  replace HB := Lib.hid (HB.out.ext B)
  replace BB := Lib.hid (BB.out.ext B)
  replace R := Lib.hid (R.out.ext B)
  replace RA := Lib.hid (RA.out.ext B)
  replace Y := Lib.hid (Y.out.ext B)
  clear B
  have SLL := slc_litH v2 [b.ag, b.op] #[.slice b.ag.A b.ag.l.length b.ag.c, .slice b.op.A b.op.l.length b.op.c] 22 (enc := SliceOf.enc) (sz := 1) (fun _ => rfl) rfl v2.heap.size rfl
  have c0 := BB.out.c 2 _ rfl
  have c1 := BB.out.c 3 _ rfl
  go_wp2_with fail
  replace E := Lib.hid (ext_alloc E.out (.cells #[.slice b.ag.A b.ag.l.length b.ag.c, .slice b.op.A b.op.l.length b.op.c] 22))
  replace HB := Lib.hid (HB.out.alloc (.cells #[.slice b.ag.A b.ag.l.length b.ag.c, .slice b.op.A b.op.l.length b.op.c] 22))
  replace BB := Lib.hid (BB.out.alloc (.cells #[.slice b.ag.A b.ag.l.length b.ag.c, .slice b.op.A b.op.l.length b.op.c] 22))
  replace R := Lib.hid (R.out.alloc (.cells #[.slice b.ag.A b.ag.l.length b.ag.c, .slice b.op.A b.op.l.length b.op.c] 22))
  replace RA := Lib.hid (RA.out.alloc (.cells #[.slice b.ag.A b.ag.l.length b.ag.c, .slice b.op.A b.op.l.length b.op.c] 22))
  replace Y := Lib.hid (Y.out.alloc (.cells #[.slice b.ag.A b.ag.l.length b.ag.c, .slice b.op.A b.op.l.length b.op.c] 22))
  refine (greatest_at [b.ag, b.op] g HG.out rfl SLL (by simp) (fun s hs => by
    rcases List.mem_cons.1 hs with h | h
    · rw [h]; exact ⟨HB.out.ag, hagl⟩
    · obtain rfl := List.mem_singleton.1 h; exact ⟨HB.out.op, hopl⟩)).mono ?_
  rintro e v3 ⟨rfl, B⟩
  clear SLL c0 c1
  replace E := Lib.hid (ext_trans E.out B)
  replace HB := Lib.hid (HB.out.ext B)
  replace BB := Lib.hid (BB.out.ext B)
  replace R := Lib.hid (R.out.ext B)
  replace RA := Lib.hid (RA.out.ext B)
  replace Y := Lib.hid (Y.out.ext B)
  clear B
  have c0 := Y.out.c 0 _ rfl
  have c1 := Y.out.c 1 _ rfl
  have c2 := Y.out.c 2 _ rfl
  have c3 := Y.out.c 3 _ rfl
  go_wp2_with fail
  refine (ours_at (b := b) od HOD.out).mono ?_
  rintro e v4 ⟨rfl, B⟩
  clear c0 c1 c2 c3
  replace E := Lib.hid (ext_trans E.out B)
  replace HB := Lib.hid (HB.out.ext B)
  replace BB := Lib.hid (BB.out.ext B)
  replace R := Lib.hid (R.out.ext B)
  replace RA := Lib.hid (RA.out.ext B)
  replace Y := Lib.hid (Y.out.ext B)
  clear B
  clear hagl hopl
  cases od
  · have HN := Lib.hid (show newNo b.own b.ot b.ag.l b.op.l = g + 1 + 1 from HNN.out)
    by_cases hlim : 1048576 < g + 1 + 1
    · have hl1 : decide (1048576 < g + 1 + 1) = true := by simpa using hlim
      have hl2 : decide (g + 1 + 1 > 1048576) = true := by simpa using hlim
      have HERR := Lib.hid (show err = 2 by rw [HEN.out, HN.out, if_pos hlim])
      go_wp2_with fail
      refine rg_begin (S := (fun w' => w'.cell? ⟨w.heap.size + 1, 0, none⟩ = some (.int .i64 0) ∧ w'.cell? ⟨w.heap.size + 1, 1, none⟩ = some (.int .i64 0) ∧ w'.cell? ⟨w.heap.size + 1, 2, none⟩ = some (.slice none 0 0) ∧ w'.cell? ⟨w.heap.size + 1, 3, none⟩ = some (.slice none 0 0) ∧ w'.cell? ⟨w.heap.size + 1 + 1, 0, none⟩ = some (.int .i64 0) ∧ w'.cell? ⟨w.heap.size + 1 + 1, 1, none⟩ = some (.int .i64 0) ∧ w'.cell? ⟨w.heap.size + 1 + 1, 2, none⟩ = some (.int .i64 0) ∧ w'.cell? ⟨w.heap.size + 1 + 1, 3, none⟩ = some (.int .i64 0) ∧ w'.cell? ⟨w.heap.size + 1 + 1, 4, none⟩ = some (.int .i64 0))) 3 (by kernel_rfl) (by intro d; cases d <;> intro _ _ _ _ h <;> exact h) ?_ (fun Q7 hQ7 hN7 hHeld => ?_)
      · exact ⟨(R.out.drew).c 0 _ rfl, (R.out.drew).c 1 _ rfl, (R.out.drew).c 2 _ rfl, (R.out.drew).c 3 _ rfl, (RA.out.drew).c 0 _ rfl, (RA.out.drew).c 1 _ rfl, (RA.out.drew).c 2 _ rfl, (RA.out.drew).c 3 _ rfl, (RA.out.drew).c 4 _ rfl⟩
      have g00 : v4.cell? ⟨w.heap.size + 1, 0, none⟩ = some (.int .i64 0) := R.out.c 0 _ rfl
      have g01 : v4.cell? ⟨w.heap.size + 1, 1, none⟩ = some (.int .i64 0) := R.out.c 1 _ rfl
      have g02 : v4.cell? ⟨w.heap.size + 1, 2, none⟩ = some (.slice none 0 0) := R.out.c 2 _ rfl
      have g03 : v4.cell? ⟨w.heap.size + 1, 3, none⟩ = some (.slice none 0 0) := R.out.c 3 _ rfl
      have g0f : ∀ j, v4.frozen? ⟨w.heap.size + 1, j, none⟩ = false := R.out.f
      have g0l : w.heap.size + 1 < v4.heap.size := R.out.lt
      have g10 : v4.cell? ⟨w.heap.size + 1 + 1, 0, none⟩ = some (.int .i64 0) := RA.out.c 0 _ rfl
      have g11 : v4.cell? ⟨w.heap.size + 1 + 1, 1, none⟩ = some (.int .i64 0) := RA.out.c 1 _ rfl
      have g12 : v4.cell? ⟨w.heap.size + 1 + 1, 2, none⟩ = some (.int .i64 0) := RA.out.c 2 _ rfl
      have g13 : v4.cell? ⟨w.heap.size + 1 + 1, 3, none⟩ = some (.int .i64 0) := RA.out.c 3 _ rfl
      have g14 : v4.cell? ⟨w.heap.size + 1 + 1, 4, none⟩ = some (.int .i64 0) := RA.out.c 4 _ rfl
      have g1f : ∀ j, v4.frozen? ⟨w.heap.size + 1 + 1, j, none⟩ = false := RA.out.f
      have g1l : w.heap.size + 1 + 1 < v4.heap.size := RA.out.lt
      refine rg_take (i := 0) (some 47) (v := ?_) rfl rfl (by kernel_rfl) (by rfl) hQ7 hHeld ?_ ?_
      rotate_left
      · intro w7 hSw; (try dsimp only at hSw); go_simp; all_goals with_reducible rfl
      try simp only [Act.put, List.setIfInBounds_toArray, List.set_cons_zero, List.set_cons_succ]
      refine rg_take (i := 1) (some 48) (v := ?_) rfl rfl (by kernel_rfl) (by rfl) hQ7 hHeld ?_ ?_
      rotate_left
      · intro w7 hSw; (try dsimp only at hSw); go_simp; all_goals with_reducible rfl
      try simp only [Act.put, List.setIfInBounds_toArray, List.set_cons_zero, List.set_cons_succ]
      have KR := R.out.put4 (.int .i64 0) (.int .i64 0) (.slice none 0 0) (.slice none 0 0)
      have KRA := RA.out.off4 (c := w.heap.size + 1) (.int .i64 0) (.int .i64 0) (.slice none 0 0) (.slice none 0 0) (by first | omega | (simp; done) | (simp; omega))
      unfold set4 at KR KRA
      refine rg_one (i := 2) (by kernel_rfl) (rg_step rfl (by rfl) (fun K hK => ?_))
      go_simp
      refine hK.out _ _ ?_ (fun hHeld2 => ?_)
      · exact ⟨(KR.drew).c 0 _ rfl, (KR.drew).c 1 _ rfl, (KR.drew).c 2 _ rfl, (KR.drew).c 3 _ rfl, (KRA.drew).c 0 _ rfl, (KRA.drew).c 1 _ rfl, (KRA.drew).c 2 _ rfl, (KRA.drew).c 3 _ rfl, (KRA.drew).c 4 _ rfl⟩
      clear hHeld
      have hHeld := hHeld2
      clear hHeld2
      clear hK K
      try simp only [Act.put, List.setIfInBounds_toArray, List.set_cons_zero, List.set_cons_succ]
      clear KR KRA
      replace E := Lib.hid (ext_set4 E.out (w.heap.size + 1) (.int .i64 0) (.int .i64 0) (.slice none 0 0) (.slice none 0 0) (by first | exact Nat.le_refl _ | omega | (simp; done) | (simp; omega)))
      replace HB := Lib.hid (HB.out.set4 (c := (w.heap.size + 1)) (.int .i64 0) (.int .i64 0) (.slice none 0 0) (.slice none 0 0) (HOFF.out _ (by omega)))
      replace BB := Lib.hid (BB.out.off4 (c := w.heap.size + 1) (.int .i64 0) (.int .i64 0) (.slice none 0 0) (.slice none 0 0) (by first | omega | (simp; done) | (simp; omega)))
      replace R := Lib.hid (R.out.put4 (.int .i64 0) (.int .i64 0) (.slice none 0 0) (.slice none 0 0))
      replace RA := Lib.hid (RA.out.off4 (c := w.heap.size + 1) (.int .i64 0) (.int .i64 0) (.slice none 0 0) (.slice none 0 0) (by first | omega | (simp; done) | (simp; omega)))
      replace Y := Lib.hid (Y.out.off4 (c := w.heap.size + 1) (.int .i64 0) (.int .i64 0) (.slice none 0 0) (.slice none 0 0) (by first | omega | (simp; done) | (simp; omega)))
      unfold set4 at E HB BB R RA Y
      refine rg_one (i := 3) (by kernel_rfl) (rg_late rfl (by rfl) (by kernel_rfl) (fun K hK => ?_))
      go_simp
      refine hK.out _ _ ?_
      clear hK K
      try simp only [Act.put, List.setIfInBounds_toArray, List.set_cons_zero, List.set_cons_succ]
      replace E := Lib.hid (ext_set5 E.out (w.heap.size + 1 + 1) (.int .i64 0) (.int .i64 0) (.int .i64 0) (.int .i64 0) (.int .i64 0) (by first | exact Nat.le_refl _ | omega | (simp; done) | (simp; omega)))
      replace HB := Lib.hid (HB.out.set5 (c := (w.heap.size + 1 + 1)) (.int .i64 0) (.int .i64 0) (.int .i64 0) (.int .i64 0) (.int .i64 0) (HOFF.out _ (by omega)))
      replace BB := Lib.hid (BB.out.off5 (c := w.heap.size + 1 + 1) (.int .i64 0) (.int .i64 0) (.int .i64 0) (.int .i64 0) (.int .i64 0) (by first | omega | (simp; done) | (simp; omega)))
      replace R := Lib.hid (R.out.off5 (c := w.heap.size + 1 + 1) (.int .i64 0) (.int .i64 0) (.int .i64 0) (.int .i64 0) (.int .i64 0) (by first | omega | (simp; done) | (simp; omega)))
      replace RA := Lib.hid (RA.out.put5 (.int .i64 0) (.int .i64 0) (.int .i64 0) (.int .i64 0) (.int .i64 0))
      replace Y := Lib.hid (Y.out.off5 (c := w.heap.size + 1 + 1) (.int .i64 0) (.int .i64 0) (.int .i64 0) (.int .i64 0) (.int .i64 0) (by first | omega | (simp; done) | (simp; omega)))
      unfold set5 at E HB BB R RA Y
      refine rg_pure (i := 4) (some 12) (v := ?_) rfl rfl (by kernel_rfl) (by rfl) hQ7 (.inl (by kernel_rfl)) ?_ ?_
      rotate_left
      · intro w7; go_simp; all_goals with_reducible rfl
      try simp only [Act.put, List.setIfInBounds_toArray, List.set_cons_zero, List.set_cons_succ]
      refine rg_end (by kernel_rfl) (hN7 _ _ ?_) _
      clear hQ7 hN7 Q7
      have DD := ext_drew (ext_refl (((((((((v4.setCell ⟨w.heap.size + 1, 0, none⟩ (.int .i64 0)).setCell ⟨w.heap.size + 1, 1, none⟩ (.int .i64 0)).setCell ⟨w.heap.size + 1, 2, none⟩ (.slice none 0 0)).setCell ⟨w.heap.size + 1, 3, none⟩ (.slice none 0 0)).setCell ⟨w.heap.size + 1 + 1, 0, none⟩ (.int .i64 0)).setCell ⟨w.heap.size + 1 + 1, 1, none⟩ (.int .i64 0)).setCell ⟨w.heap.size + 1 + 1, 2, none⟩ (.int .i64 0)).setCell ⟨w.heap.size + 1 + 1, 3, none⟩ (.int .i64 0)).setCell ⟨w.heap.size + 1 + 1, 4, none⟩ (.int .i64 0)))
      replace E := Lib.hid (ext_trans E.out DD)
      replace HB := Lib.hid (HB.out.ext DD)
      replace BB := Lib.hid (BB.out.ext DD)
      replace R := Lib.hid (R.out.ext DD)
      replace RA := Lib.hid (RA.out.ext DD)
      replace Y := Lib.hid (Y.out.ext DD)
      clear DD
      go_wp2_with fail
      refine bodyPost_ret (v := .tuple #[.agg #[.int .i64 0, .int .i64 0, .slice none 0 0, .slice none 0 0], .agg #[.int .i64 0, .int .i64 0, .int .i64 0, .int .i64 0, .int .i64 0], .int .i64 2]) (by simp [results, Try.results12, go_sem, *]) rfl ?_
      exact BaR.zero HERR.out HZ.out (by decide) rfl E.out
    · have hl1 : decide (1048576 < g + 1 + 1) = false := by simpa using hlim
      have HERR := Lib.hid (show err = 0 by rw [HEN.out, HN.out, if_neg hlim])
      obtain ⟨a, ha⟩ : ∃ a : Ag, a = ⟨g + 1 + 1, f, t, m, r⟩ := ⟨_, rfl⟩
      have HA := Lib.hid ha
      have HP := Lib.hid (show PutOk b.op.l a from ⟨HLL.out.2, (ok_iff.1 HV.out).2.2.1.2, (fits_no2 (own := 0) (ot := 0) HV.out).2, by rw [ha]; show 1 ≤ g + 1 + 1 ∧ g + 1 + 1 ≤ 1048576; omega⟩)
      have HW := Lib.hid (show b.bl.offB f t m r = ⟨b.own, b.ot, b.ag.l, putL b.op.l a⟩ ∧ b.bl.offX f t m r = a from by
        have h0 : b.bl.offE f t m r = 0 := by rw [HE.out]; exact HERR.out
        have h1 : b.bl.offA f t m r = a := by rw [ha]; unfold Bl.offA; rw [show newNo b.bl.own b.bl.ot b.bl.ag b.bl.op = g + 1 + 1 from HN.out]
        unfold Bl.offB Bl.offX
        rw [if_pos h0, if_pos h0, h1]; exact ⟨rfl, rfl⟩)
      have ea := ha
      clear ha hlim
      have a0 := RA.out.c 0 _ rfl
      have a1 := RA.out.c 1 _ rfl
      have a2 := RA.out.c 2 _ rfl
      have a3 := RA.out.c 3 _ rfl
      have a4 := RA.out.c 4 _ rfl
      have af := RA.out.f
      have al := RA.out.lt
      have q3 := BB.out.c 3 _ rfl
      replace E := Lib.hid (ext_set5 E.out (w.heap.size + 1 + 1) (.int .i64 (g + 1 + 1)) (.int .i64 f) (.int .i64 t) (.int .i64 m) (.int .i64 r) (by first | exact Nat.le_refl _ | omega | (simp; done) | (simp; omega)))
      replace HB := Lib.hid (HB.out.set5 (c := (w.heap.size + 1 + 1)) (.int .i64 (g + 1 + 1)) (.int .i64 f) (.int .i64 t) (.int .i64 m) (.int .i64 r) (HOFF.out _ (by omega)))
      replace BB := Lib.hid (BB.out.off5 (c := w.heap.size + 1 + 1) (.int .i64 (g + 1 + 1)) (.int .i64 f) (.int .i64 t) (.int .i64 m) (.int .i64 r) (by first | omega | (simp; done) | (simp; omega)))
      replace R := Lib.hid (R.out.off5 (c := w.heap.size + 1 + 1) (.int .i64 (g + 1 + 1)) (.int .i64 f) (.int .i64 t) (.int .i64 m) (.int .i64 r) (by first | omega | (simp; done) | (simp; omega)))
      replace RA := Lib.hid (RA.out.put5 (.int .i64 (g + 1 + 1)) (.int .i64 f) (.int .i64 t) (.int .i64 m) (.int .i64 r))
      replace Y := Lib.hid (Y.out.off5 (c := w.heap.size + 1 + 1) (.int .i64 (g + 1 + 1)) (.int .i64 f) (.int .i64 t) (.int .i64 m) (.int .i64 r) (by first | omega | (simp; done) | (simp; omega)))
      unfold set5 at E HB BB R RA Y
      have q4 := BB.out.c 3 _ rfl
      go_wp2_with fail
      clear a0 a1 a2 a3 a4 af al q3 q4
      obtain ⟨v5, hNv5⟩ : ∃ W0, W0 = (((((v4.setCell ⟨w.heap.size + 1 + 1, 0, none⟩ (.int .i64 (g + 1 + 1))).setCell ⟨w.heap.size + 1 + 1, 1, none⟩ (.int .i64 f)).setCell ⟨w.heap.size + 1 + 1, 2, none⟩ (.int .i64 t)).setCell ⟨w.heap.size + 1 + 1, 3, none⟩ (.int .i64 m)).setCell ⟨w.heap.size + 1 + 1, 4, none⟩ (.int .i64 r)) := ⟨_, rfl⟩
      rw [← hNv5] at E HB BB R RA Y ⊢
      clear hNv5
      refine (put_at (a := ⟨g + 1 + 1, f, t, m, r⟩) rfl HB.out.op (by rw [← ea]; exact HP.out)).mono ?_
      rintro e v6 ⟨A3, c3, rfl, hO3, B⟩
      have HO3 := Lib.hid (hO3.low (base' := w.heap.size + 4) (by have := Y.out.lt; omega))
      clear hO3
      rw [← ea] at HO3 ⊢
      replace E := Lib.hid (ext_trans E.out B)
      replace HB := Lib.hid (HB.out.ext B)
      replace BB := Lib.hid (BB.out.ext B)
      replace R := Lib.hid (R.out.ext B)
      replace RA := Lib.hid (RA.out.ext B)
      replace Y := Lib.hid (Y.out.ext B)
      clear B
      have SP := Lib.hid (HO3.out.slc agI.hl agI.hz)
      obtain ⟨N, hN⟩ : ∃ N, (putL b.op.l a).length = N := ⟨_, rfl⟩
      have HNL := Lib.hid hN
      rw [hN] at HO3 ⊢
      clear hN ea
      have q0 := BB.out.c 0 _ rfl
      have q1 := BB.out.c 1 _ rfl
      have q2 := BB.out.c 2 _ rfl
      have q3 := BB.out.c 3 _ rfl
      have qf := BB.out.f
      have qb := BB.out.lt
      replace E := Lib.hid (ext_set E.out ⟨w.heap.size, 3, none⟩ (.slice A3 N c3) (by first | exact Nat.le_refl _ | omega | (simp; done) | (simp; omega)))
      replace HB := Lib.hid (HB.out.set (p := ⟨w.heap.size, 3, none⟩) (.slice A3 N c3) (HOFF.out _ (by simp)))
      replace BB := Lib.hid (show Blk _ (w.heap.size) [.int .i64 b.own, .int .i64 b.ot, .slice b.ag.A b.ag.l.length b.ag.c, .slice A3 N c3] from BB.out.set (j := 3) (by simp) (.slice A3 N c3))
      replace R := Lib.hid (R.out.other (p := ⟨w.heap.size, 3, none⟩) (.slice A3 N c3) (by first | omega | (simp; done) | (simp; omega)))
      replace RA := Lib.hid (RA.out.other (p := ⟨w.heap.size, 3, none⟩) (.slice A3 N c3) (by first | omega | (simp; done) | (simp; omega)))
      replace Y := Lib.hid (Y.out.other (p := ⟨w.heap.size, 3, none⟩) (.slice A3 N c3) (by first | omega | (simp; done) | (simp; omega)))
      replace SP := Lib.hid (SP.out.far (p := ⟨w.heap.size, 3, none⟩) (v := (.slice A3 N c3)) (own_off HO3.out (by simp)))
      go_wp2_with fail
      clear q0 q1 q2 q3 qf qb
      obtain ⟨v7, hNv7⟩ : ∃ W0, W0 = (v6.setCell ⟨w.heap.size, 3, none⟩ (.slice A3 N c3)) := ⟨_, rfl⟩
      rw [← hNv7] at E HB BB R RA Y SP ⊢
      clear hNv7
      refine rg_begin (S := (fun w' => w'.cell? ⟨w.heap.size, 0, none⟩ = some (.int .i64 b.own) ∧ w'.cell? ⟨w.heap.size, 1, none⟩ = some (.int .i64 b.ot) ∧ w'.cell? ⟨w.heap.size, 2, none⟩ = some (.slice b.ag.A b.ag.l.length b.ag.c) ∧ w'.cell? ⟨w.heap.size, 3, none⟩ = some (.slice A3 N c3) ∧ w'.cell? ⟨w.heap.size + 1 + 1, 0, none⟩ = some (.int .i64 (g + 1 + 1)) ∧ w'.cell? ⟨w.heap.size + 1 + 1, 1, none⟩ = some (.int .i64 f) ∧ w'.cell? ⟨w.heap.size + 1 + 1, 2, none⟩ = some (.int .i64 t) ∧ w'.cell? ⟨w.heap.size + 1 + 1, 3, none⟩ = some (.int .i64 m) ∧ w'.cell? ⟨w.heap.size + 1 + 1, 4, none⟩ = some (.int .i64 r))) 3 (by kernel_rfl) (by intro d; cases d <;> intro _ _ _ _ h <;> exact h) ?_ (fun Q7 hQ7 hN7 hHeld => ?_)
      · exact ⟨(BB.out.drew).c 0 _ rfl, (BB.out.drew).c 1 _ rfl, (BB.out.drew).c 2 _ rfl, (BB.out.drew).c 3 _ rfl, (RA.out.drew).c 0 _ rfl, (RA.out.drew).c 1 _ rfl, (RA.out.drew).c 2 _ rfl, (RA.out.drew).c 3 _ rfl, (RA.out.drew).c 4 _ rfl⟩
      have g00 : v7.cell? ⟨w.heap.size + 1, 0, none⟩ = some (.int .i64 0) := R.out.c 0 _ rfl
      have g01 : v7.cell? ⟨w.heap.size + 1, 1, none⟩ = some (.int .i64 0) := R.out.c 1 _ rfl
      have g02 : v7.cell? ⟨w.heap.size + 1, 2, none⟩ = some (.slice none 0 0) := R.out.c 2 _ rfl
      have g03 : v7.cell? ⟨w.heap.size + 1, 3, none⟩ = some (.slice none 0 0) := R.out.c 3 _ rfl
      have g0f : ∀ j, v7.frozen? ⟨w.heap.size + 1, j, none⟩ = false := R.out.f
      have g0l : w.heap.size + 1 < v7.heap.size := R.out.lt
      have g10 : v7.cell? ⟨w.heap.size + 1 + 1, 0, none⟩ = some (.int .i64 (g + 1 + 1)) := RA.out.c 0 _ rfl
      have g11 : v7.cell? ⟨w.heap.size + 1 + 1, 1, none⟩ = some (.int .i64 f) := RA.out.c 1 _ rfl
      have g12 : v7.cell? ⟨w.heap.size + 1 + 1, 2, none⟩ = some (.int .i64 t) := RA.out.c 2 _ rfl
      have g13 : v7.cell? ⟨w.heap.size + 1 + 1, 3, none⟩ = some (.int .i64 m) := RA.out.c 3 _ rfl
      have g14 : v7.cell? ⟨w.heap.size + 1 + 1, 4, none⟩ = some (.int .i64 r) := RA.out.c 4 _ rfl
      have g1f : ∀ j, v7.frozen? ⟨w.heap.size + 1 + 1, j, none⟩ = false := RA.out.f
      have g1l : w.heap.size + 1 + 1 < v7.heap.size := RA.out.lt
      refine rg_take (i := 0) (some 60) (v := ?_) rfl rfl (by kernel_rfl) (by rfl) hQ7 hHeld ?_ ?_
      rotate_left
      · intro w7 hSw; (try dsimp only at hSw); go_simp; all_goals with_reducible rfl
      try simp only [Act.put, List.setIfInBounds_toArray, List.set_cons_zero, List.set_cons_succ]
      refine rg_take (i := 1) (some 61) (v := ?_) rfl rfl (by kernel_rfl) (by rfl) hQ7 hHeld ?_ ?_
      rotate_left
      · intro w7 hSw; (try dsimp only at hSw); go_simp; all_goals with_reducible rfl
      try simp only [Act.put, List.setIfInBounds_toArray, List.set_cons_zero, List.set_cons_succ]
      have KBB := BB.out.off4 (c := w.heap.size + 1) (.int .i64 b.own) (.int .i64 b.ot) (.slice b.ag.A b.ag.l.length b.ag.c) (.slice A3 N c3) (by first | omega | (simp; done) | (simp; omega))
      have KRA := RA.out.off4 (c := w.heap.size + 1) (.int .i64 b.own) (.int .i64 b.ot) (.slice b.ag.A b.ag.l.length b.ag.c) (.slice A3 N c3) (by first | omega | (simp; done) | (simp; omega))
      unfold set4 at KBB KRA
      refine rg_one (i := 2) (by kernel_rfl) (rg_step rfl (by rfl) (fun K hK => ?_))
      go_simp
      refine hK.out _ _ ?_ (fun hHeld2 => ?_)
      · exact ⟨(KBB.drew).c 0 _ rfl, (KBB.drew).c 1 _ rfl, (KBB.drew).c 2 _ rfl, (KBB.drew).c 3 _ rfl, (KRA.drew).c 0 _ rfl, (KRA.drew).c 1 _ rfl, (KRA.drew).c 2 _ rfl, (KRA.drew).c 3 _ rfl, (KRA.drew).c 4 _ rfl⟩
      clear hHeld
      have hHeld := hHeld2
      clear hHeld2
      clear hK K
      try simp only [Act.put, List.setIfInBounds_toArray, List.set_cons_zero, List.set_cons_succ]
      clear KBB KRA
      replace E := Lib.hid (ext_set4 E.out (w.heap.size + 1) (.int .i64 b.own) (.int .i64 b.ot) (.slice b.ag.A b.ag.l.length b.ag.c) (.slice A3 N c3) (by first | exact Nat.le_refl _ | omega | (simp; done) | (simp; omega)))
      replace HB := Lib.hid (HB.out.set4 (c := (w.heap.size + 1)) (.int .i64 b.own) (.int .i64 b.ot) (.slice b.ag.A b.ag.l.length b.ag.c) (.slice A3 N c3) (HOFF.out _ (by omega)))
      replace BB := Lib.hid (BB.out.off4 (c := w.heap.size + 1) (.int .i64 b.own) (.int .i64 b.ot) (.slice b.ag.A b.ag.l.length b.ag.c) (.slice A3 N c3) (by first | omega | (simp; done) | (simp; omega)))
      replace R := Lib.hid (R.out.put4 (.int .i64 b.own) (.int .i64 b.ot) (.slice b.ag.A b.ag.l.length b.ag.c) (.slice A3 N c3))
      replace RA := Lib.hid (RA.out.off4 (c := w.heap.size + 1) (.int .i64 b.own) (.int .i64 b.ot) (.slice b.ag.A b.ag.l.length b.ag.c) (.slice A3 N c3) (by first | omega | (simp; done) | (simp; omega)))
      replace Y := Lib.hid (Y.out.off4 (c := w.heap.size + 1) (.int .i64 b.own) (.int .i64 b.ot) (.slice b.ag.A b.ag.l.length b.ag.c) (.slice A3 N c3) (by first | omega | (simp; done) | (simp; omega)))
      replace SP := Lib.hid (SP.out.far4 (b := (w.heap.size + 1)) (.int .i64 b.own) (.int .i64 b.ot) (.slice b.ag.A b.ag.l.length b.ag.c) (.slice A3 N c3) (own_off HO3.out (by simp)))
      unfold set4 at E HB BB R RA Y SP
      refine rg_one (i := 3) (by kernel_rfl) (rg_late rfl (by rfl) (by kernel_rfl) (fun K hK => ?_))
      go_simp
      refine hK.out _ _ ?_
      clear hK K
      try simp only [Act.put, List.setIfInBounds_toArray, List.set_cons_zero, List.set_cons_succ]
      replace E := Lib.hid (ext_set5 E.out (w.heap.size + 1 + 1) (.int .i64 (g + 1 + 1)) (.int .i64 f) (.int .i64 t) (.int .i64 m) (.int .i64 r) (by first | exact Nat.le_refl _ | omega | (simp; done) | (simp; omega)))
      replace HB := Lib.hid (HB.out.set5 (c := (w.heap.size + 1 + 1)) (.int .i64 (g + 1 + 1)) (.int .i64 f) (.int .i64 t) (.int .i64 m) (.int .i64 r) (HOFF.out _ (by omega)))
      replace BB := Lib.hid (BB.out.off5 (c := w.heap.size + 1 + 1) (.int .i64 (g + 1 + 1)) (.int .i64 f) (.int .i64 t) (.int .i64 m) (.int .i64 r) (by first | omega | (simp; done) | (simp; omega)))
      replace R := Lib.hid (R.out.off5 (c := w.heap.size + 1 + 1) (.int .i64 (g + 1 + 1)) (.int .i64 f) (.int .i64 t) (.int .i64 m) (.int .i64 r) (by first | omega | (simp; done) | (simp; omega)))
      replace RA := Lib.hid (RA.out.put5 (.int .i64 (g + 1 + 1)) (.int .i64 f) (.int .i64 t) (.int .i64 m) (.int .i64 r))
      replace Y := Lib.hid (Y.out.off5 (c := w.heap.size + 1 + 1) (.int .i64 (g + 1 + 1)) (.int .i64 f) (.int .i64 t) (.int .i64 m) (.int .i64 r) (by first | omega | (simp; done) | (simp; omega)))
      replace SP := Lib.hid (SP.out.far5 (b := (w.heap.size + 1 + 1)) (.int .i64 (g + 1 + 1)) (.int .i64 f) (.int .i64 t) (.int .i64 m) (.int .i64 r) (own_off HO3.out (by simp)))
      unfold set5 at E HB BB R RA Y SP
      refine rg_pure (i := 4) (some 12) (v := ?_) rfl rfl (by kernel_rfl) (by rfl) hQ7 (.inl (by kernel_rfl)) ?_ ?_
      rotate_left
      · intro w7; go_simp; all_goals with_reducible rfl
      try simp only [Act.put, List.setIfInBounds_toArray, List.set_cons_zero, List.set_cons_succ]
      refine rg_end (by kernel_rfl) (hN7 _ _ ?_) _
      clear hQ7 hN7 Q7
      have DD := ext_drew (ext_refl (((((((((v7.setCell ⟨w.heap.size + 1, 0, none⟩ (.int .i64 b.own)).setCell ⟨w.heap.size + 1, 1, none⟩ (.int .i64 b.ot)).setCell ⟨w.heap.size + 1, 2, none⟩ (.slice b.ag.A b.ag.l.length b.ag.c)).setCell ⟨w.heap.size + 1, 3, none⟩ (.slice A3 N c3)).setCell ⟨w.heap.size + 1 + 1, 0, none⟩ (.int .i64 (g + 1 + 1))).setCell ⟨w.heap.size + 1 + 1, 1, none⟩ (.int .i64 f)).setCell ⟨w.heap.size + 1 + 1, 2, none⟩ (.int .i64 t)).setCell ⟨w.heap.size + 1 + 1, 3, none⟩ (.int .i64 m)).setCell ⟨w.heap.size + 1 + 1, 4, none⟩ (.int .i64 r)))
      replace E := Lib.hid (ext_trans E.out DD)
      replace HB := Lib.hid (HB.out.ext DD)
      replace BB := Lib.hid (BB.out.ext DD)
      replace R := Lib.hid (R.out.ext DD)
      replace RA := Lib.hid (RA.out.ext DD)
      replace Y := Lib.hid (Y.out.ext DD)
      replace SP := Lib.hid (SP.out.ext DD)
      clear DD
      go_wp2_with fail
      refine bodyPost_ret (v := .tuple #[Bd.v ⟨b.own, b.ot, b.ag, ⟨A3, c3, putL b.op.l a⟩⟩, Ag.v ⟨g + 1 + 1, f, t, m, r⟩, .int .i64 0]) (by simp [results, Try.results12, go_sem, *, HNL.out]) rfl ?_
      obtain ⟨hw1, hw2⟩ := HW.out
      rw [hw1, hw2, HERR.out]
      have k3 := own_cap HO3.out
      refine ⟨⟨b.own, b.ot, b.ag, ⟨A3, c3, putL b.op.l a⟩⟩, by rw [HA.out], rfl, ⟨HB.out.ag, SP.out, HB.out.agl, HB.out.agc, k3.1, k3.2⟩, E.out, fun c hc hf => ⟨hf.1, own_off HO3.out (by omega)⟩⟩
  · have HN := Lib.hid (show newNo b.own b.ot b.ag.l b.op.l = g + 1 from HNN.out)
    by_cases hlim : 1048576 < g + 1
    · have hl1 : decide (1048576 < g + 1) = true := by simpa using hlim
      have hl2 : decide (g + 1 > 1048576) = true := by simpa using hlim
      have HERR := Lib.hid (show err = 2 by rw [HEN.out, HN.out, if_pos hlim])
      go_wp2_with fail
      refine rg_begin (S := (fun w' => w'.cell? ⟨w.heap.size + 1, 0, none⟩ = some (.int .i64 0) ∧ w'.cell? ⟨w.heap.size + 1, 1, none⟩ = some (.int .i64 0) ∧ w'.cell? ⟨w.heap.size + 1, 2, none⟩ = some (.slice none 0 0) ∧ w'.cell? ⟨w.heap.size + 1, 3, none⟩ = some (.slice none 0 0) ∧ w'.cell? ⟨w.heap.size + 1 + 1, 0, none⟩ = some (.int .i64 0) ∧ w'.cell? ⟨w.heap.size + 1 + 1, 1, none⟩ = some (.int .i64 0) ∧ w'.cell? ⟨w.heap.size + 1 + 1, 2, none⟩ = some (.int .i64 0) ∧ w'.cell? ⟨w.heap.size + 1 + 1, 3, none⟩ = some (.int .i64 0) ∧ w'.cell? ⟨w.heap.size + 1 + 1, 4, none⟩ = some (.int .i64 0))) 3 (by kernel_rfl) (by intro d; cases d <;> intro _ _ _ _ h <;> exact h) ?_ (fun Q7 hQ7 hN7 hHeld => ?_)
      · exact ⟨(R.out.drew).c 0 _ rfl, (R.out.drew).c 1 _ rfl, (R.out.drew).c 2 _ rfl, (R.out.drew).c 3 _ rfl, (RA.out.drew).c 0 _ rfl, (RA.out.drew).c 1 _ rfl, (RA.out.drew).c 2 _ rfl, (RA.out.drew).c 3 _ rfl, (RA.out.drew).c 4 _ rfl⟩
      have g00 : v4.cell? ⟨w.heap.size + 1, 0, none⟩ = some (.int .i64 0) := R.out.c 0 _ rfl
      have g01 : v4.cell? ⟨w.heap.size + 1, 1, none⟩ = some (.int .i64 0) := R.out.c 1 _ rfl
      have g02 : v4.cell? ⟨w.heap.size + 1, 2, none⟩ = some (.slice none 0 0) := R.out.c 2 _ rfl
      have g03 : v4.cell? ⟨w.heap.size + 1, 3, none⟩ = some (.slice none 0 0) := R.out.c 3 _ rfl
      have g0f : ∀ j, v4.frozen? ⟨w.heap.size + 1, j, none⟩ = false := R.out.f
      have g0l : w.heap.size + 1 < v4.heap.size := R.out.lt
      have g10 : v4.cell? ⟨w.heap.size + 1 + 1, 0, none⟩ = some (.int .i64 0) := RA.out.c 0 _ rfl
      have g11 : v4.cell? ⟨w.heap.size + 1 + 1, 1, none⟩ = some (.int .i64 0) := RA.out.c 1 _ rfl
      have g12 : v4.cell? ⟨w.heap.size + 1 + 1, 2, none⟩ = some (.int .i64 0) := RA.out.c 2 _ rfl
      have g13 : v4.cell? ⟨w.heap.size + 1 + 1, 3, none⟩ = some (.int .i64 0) := RA.out.c 3 _ rfl
      have g14 : v4.cell? ⟨w.heap.size + 1 + 1, 4, none⟩ = some (.int .i64 0) := RA.out.c 4 _ rfl
      have g1f : ∀ j, v4.frozen? ⟨w.heap.size + 1 + 1, j, none⟩ = false := RA.out.f
      have g1l : w.heap.size + 1 + 1 < v4.heap.size := RA.out.lt
      refine rg_take (i := 0) (some 47) (v := ?_) rfl rfl (by kernel_rfl) (by rfl) hQ7 hHeld ?_ ?_
      rotate_left
      · intro w7 hSw; (try dsimp only at hSw); go_simp; all_goals with_reducible rfl
      try simp only [Act.put, List.setIfInBounds_toArray, List.set_cons_zero, List.set_cons_succ]
      refine rg_take (i := 1) (some 48) (v := ?_) rfl rfl (by kernel_rfl) (by rfl) hQ7 hHeld ?_ ?_
      rotate_left
      · intro w7 hSw; (try dsimp only at hSw); go_simp; all_goals with_reducible rfl
      try simp only [Act.put, List.setIfInBounds_toArray, List.set_cons_zero, List.set_cons_succ]
      have KR := R.out.put4 (.int .i64 0) (.int .i64 0) (.slice none 0 0) (.slice none 0 0)
      have KRA := RA.out.off4 (c := w.heap.size + 1) (.int .i64 0) (.int .i64 0) (.slice none 0 0) (.slice none 0 0) (by first | omega | (simp; done) | (simp; omega))
      unfold set4 at KR KRA
      refine rg_one (i := 2) (by kernel_rfl) (rg_step rfl (by rfl) (fun K hK => ?_))
      go_simp
      refine hK.out _ _ ?_ (fun hHeld2 => ?_)
      · exact ⟨(KR.drew).c 0 _ rfl, (KR.drew).c 1 _ rfl, (KR.drew).c 2 _ rfl, (KR.drew).c 3 _ rfl, (KRA.drew).c 0 _ rfl, (KRA.drew).c 1 _ rfl, (KRA.drew).c 2 _ rfl, (KRA.drew).c 3 _ rfl, (KRA.drew).c 4 _ rfl⟩
      clear hHeld
      have hHeld := hHeld2
      clear hHeld2
      clear hK K
      try simp only [Act.put, List.setIfInBounds_toArray, List.set_cons_zero, List.set_cons_succ]
      clear KR KRA
      replace E := Lib.hid (ext_set4 E.out (w.heap.size + 1) (.int .i64 0) (.int .i64 0) (.slice none 0 0) (.slice none 0 0) (by first | exact Nat.le_refl _ | omega | (simp; done) | (simp; omega)))
      replace HB := Lib.hid (HB.out.set4 (c := (w.heap.size + 1)) (.int .i64 0) (.int .i64 0) (.slice none 0 0) (.slice none 0 0) (HOFF.out _ (by omega)))
      replace BB := Lib.hid (BB.out.off4 (c := w.heap.size + 1) (.int .i64 0) (.int .i64 0) (.slice none 0 0) (.slice none 0 0) (by first | omega | (simp; done) | (simp; omega)))
      replace R := Lib.hid (R.out.put4 (.int .i64 0) (.int .i64 0) (.slice none 0 0) (.slice none 0 0))
      replace RA := Lib.hid (RA.out.off4 (c := w.heap.size + 1) (.int .i64 0) (.int .i64 0) (.slice none 0 0) (.slice none 0 0) (by first | omega | (simp; done) | (simp; omega)))
      replace Y := Lib.hid (Y.out.off4 (c := w.heap.size + 1) (.int .i64 0) (.int .i64 0) (.slice none 0 0) (.slice none 0 0) (by first | omega | (simp; done) | (simp; omega)))
      unfold set4 at E HB BB R RA Y
      refine rg_one (i := 3) (by kernel_rfl) (rg_late rfl (by rfl) (by kernel_rfl) (fun K hK => ?_))
      go_simp
      refine hK.out _ _ ?_
      clear hK K
      try simp only [Act.put, List.setIfInBounds_toArray, List.set_cons_zero, List.set_cons_succ]
      replace E := Lib.hid (ext_set5 E.out (w.heap.size + 1 + 1) (.int .i64 0) (.int .i64 0) (.int .i64 0) (.int .i64 0) (.int .i64 0) (by first | exact Nat.le_refl _ | omega | (simp; done) | (simp; omega)))
      replace HB := Lib.hid (HB.out.set5 (c := (w.heap.size + 1 + 1)) (.int .i64 0) (.int .i64 0) (.int .i64 0) (.int .i64 0) (.int .i64 0) (HOFF.out _ (by omega)))
      replace BB := Lib.hid (BB.out.off5 (c := w.heap.size + 1 + 1) (.int .i64 0) (.int .i64 0) (.int .i64 0) (.int .i64 0) (.int .i64 0) (by first | omega | (simp; done) | (simp; omega)))
      replace R := Lib.hid (R.out.off5 (c := w.heap.size + 1 + 1) (.int .i64 0) (.int .i64 0) (.int .i64 0) (.int .i64 0) (.int .i64 0) (by first | omega | (simp; done) | (simp; omega)))
      replace RA := Lib.hid (RA.out.put5 (.int .i64 0) (.int .i64 0) (.int .i64 0) (.int .i64 0) (.int .i64 0))
      replace Y := Lib.hid (Y.out.off5 (c := w.heap.size + 1 + 1) (.int .i64 0) (.int .i64 0) (.int .i64 0) (.int .i64 0) (.int .i64 0) (by first | omega | (simp; done) | (simp; omega)))
      unfold set5 at E HB BB R RA Y
      refine rg_pure (i := 4) (some 12) (v := ?_) rfl rfl (by kernel_rfl) (by rfl) hQ7 (.inl (by kernel_rfl)) ?_ ?_
      rotate_left
      · intro w7; go_simp; all_goals with_reducible rfl
      try simp only [Act.put, List.setIfInBounds_toArray, List.set_cons_zero, List.set_cons_succ]
      refine rg_end (by kernel_rfl) (hN7 _ _ ?_) _
      clear hQ7 hN7 Q7
      have DD := ext_drew (ext_refl (((((((((v4.setCell ⟨w.heap.size + 1, 0, none⟩ (.int .i64 0)).setCell ⟨w.heap.size + 1, 1, none⟩ (.int .i64 0)).setCell ⟨w.heap.size + 1, 2, none⟩ (.slice none 0 0)).setCell ⟨w.heap.size + 1, 3, none⟩ (.slice none 0 0)).setCell ⟨w.heap.size + 1 + 1, 0, none⟩ (.int .i64 0)).setCell ⟨w.heap.size + 1 + 1, 1, none⟩ (.int .i64 0)).setCell ⟨w.heap.size + 1 + 1, 2, none⟩ (.int .i64 0)).setCell ⟨w.heap.size + 1 + 1, 3, none⟩ (.int .i64 0)).setCell ⟨w.heap.size + 1 + 1, 4, none⟩ (.int .i64 0)))
      replace E := Lib.hid (ext_trans E.out DD)
      replace HB := Lib.hid (HB.out.ext DD)
      replace BB := Lib.hid (BB.out.ext DD)
      replace R := Lib.hid (R.out.ext DD)
      replace RA := Lib.hid (RA.out.ext DD)
      replace Y := Lib.hid (Y.out.ext DD)
      clear DD
      go_wp2_with fail
      refine bodyPost_ret (v := .tuple #[.agg #[.int .i64 0, .int .i64 0, .slice none 0 0, .slice none 0 0], .agg #[.int .i64 0, .int .i64 0, .int .i64 0, .int .i64 0, .int .i64 0], .int .i64 2]) (by simp [results, Try.results12, go_sem, *]) rfl ?_
      exact BaR.zero HERR.out HZ.out (by decide) rfl E.out
    · have hl1 : decide (1048576 < g + 1) = false := by simpa using hlim
      have HERR := Lib.hid (show err = 0 by rw [HEN.out, HN.out, if_neg hlim])
      obtain ⟨a, ha⟩ : ∃ a : Ag, a = ⟨g + 1, f, t, m, r⟩ := ⟨_, rfl⟩
      have HA := Lib.hid ha
      have HP := Lib.hid (show PutOk b.op.l a from ⟨HLL.out.2, (ok_iff.1 HV.out).2.2.1.2, (fits_no2 (own := 0) (ot := 0) HV.out).2, by rw [ha]; show 1 ≤ g + 1 ∧ g + 1 ≤ 1048576; omega⟩)
      have HW := Lib.hid (show b.bl.offB f t m r = ⟨b.own, b.ot, b.ag.l, putL b.op.l a⟩ ∧ b.bl.offX f t m r = a from by
        have h0 : b.bl.offE f t m r = 0 := by rw [HE.out]; exact HERR.out
        have h1 : b.bl.offA f t m r = a := by rw [ha]; unfold Bl.offA; rw [show newNo b.bl.own b.bl.ot b.bl.ag b.bl.op = g + 1 from HN.out]
        unfold Bl.offB Bl.offX
        rw [if_pos h0, if_pos h0, h1]; exact ⟨rfl, rfl⟩)
      have ea := ha
      clear ha hlim
      have a0 := RA.out.c 0 _ rfl
      have a1 := RA.out.c 1 _ rfl
      have a2 := RA.out.c 2 _ rfl
      have a3 := RA.out.c 3 _ rfl
      have a4 := RA.out.c 4 _ rfl
      have af := RA.out.f
      have al := RA.out.lt
      have q3 := BB.out.c 3 _ rfl
      replace E := Lib.hid (ext_set5 E.out (w.heap.size + 1 + 1) (.int .i64 (g + 1)) (.int .i64 f) (.int .i64 t) (.int .i64 m) (.int .i64 r) (by first | exact Nat.le_refl _ | omega | (simp; done) | (simp; omega)))
      replace HB := Lib.hid (HB.out.set5 (c := (w.heap.size + 1 + 1)) (.int .i64 (g + 1)) (.int .i64 f) (.int .i64 t) (.int .i64 m) (.int .i64 r) (HOFF.out _ (by omega)))
      replace BB := Lib.hid (BB.out.off5 (c := w.heap.size + 1 + 1) (.int .i64 (g + 1)) (.int .i64 f) (.int .i64 t) (.int .i64 m) (.int .i64 r) (by first | omega | (simp; done) | (simp; omega)))
      replace R := Lib.hid (R.out.off5 (c := w.heap.size + 1 + 1) (.int .i64 (g + 1)) (.int .i64 f) (.int .i64 t) (.int .i64 m) (.int .i64 r) (by first | omega | (simp; done) | (simp; omega)))
      replace RA := Lib.hid (RA.out.put5 (.int .i64 (g + 1)) (.int .i64 f) (.int .i64 t) (.int .i64 m) (.int .i64 r))
      replace Y := Lib.hid (Y.out.off5 (c := w.heap.size + 1 + 1) (.int .i64 (g + 1)) (.int .i64 f) (.int .i64 t) (.int .i64 m) (.int .i64 r) (by first | omega | (simp; done) | (simp; omega)))
      unfold set5 at E HB BB R RA Y
      have q4 := BB.out.c 3 _ rfl
      go_wp2_with fail
      clear a0 a1 a2 a3 a4 af al q3 q4
      obtain ⟨v5, hNv5⟩ : ∃ W0, W0 = (((((v4.setCell ⟨w.heap.size + 1 + 1, 0, none⟩ (.int .i64 (g + 1))).setCell ⟨w.heap.size + 1 + 1, 1, none⟩ (.int .i64 f)).setCell ⟨w.heap.size + 1 + 1, 2, none⟩ (.int .i64 t)).setCell ⟨w.heap.size + 1 + 1, 3, none⟩ (.int .i64 m)).setCell ⟨w.heap.size + 1 + 1, 4, none⟩ (.int .i64 r)) := ⟨_, rfl⟩
      rw [← hNv5] at E HB BB R RA Y ⊢
      clear hNv5
      refine (put_at (a := ⟨g + 1, f, t, m, r⟩) rfl HB.out.op (by rw [← ea]; exact HP.out)).mono ?_
      rintro e v6 ⟨A3, c3, rfl, hO3, B⟩
      have HO3 := Lib.hid (hO3.low (base' := w.heap.size + 4) (by have := Y.out.lt; omega))
      clear hO3
      rw [← ea] at HO3 ⊢
      replace E := Lib.hid (ext_trans E.out B)
      replace HB := Lib.hid (HB.out.ext B)
      replace BB := Lib.hid (BB.out.ext B)
      replace R := Lib.hid (R.out.ext B)
      replace RA := Lib.hid (RA.out.ext B)
      replace Y := Lib.hid (Y.out.ext B)
      clear B
      have SP := Lib.hid (HO3.out.slc agI.hl agI.hz)
      obtain ⟨N, hN⟩ : ∃ N, (putL b.op.l a).length = N := ⟨_, rfl⟩
      have HNL := Lib.hid hN
      rw [hN] at HO3 ⊢
      clear hN ea
      have q0 := BB.out.c 0 _ rfl
      have q1 := BB.out.c 1 _ rfl
      have q2 := BB.out.c 2 _ rfl
      have q3 := BB.out.c 3 _ rfl
      have qf := BB.out.f
      have qb := BB.out.lt
      replace E := Lib.hid (ext_set E.out ⟨w.heap.size, 3, none⟩ (.slice A3 N c3) (by first | exact Nat.le_refl _ | omega | (simp; done) | (simp; omega)))
      replace HB := Lib.hid (HB.out.set (p := ⟨w.heap.size, 3, none⟩) (.slice A3 N c3) (HOFF.out _ (by simp)))
      replace BB := Lib.hid (show Blk _ (w.heap.size) [.int .i64 b.own, .int .i64 b.ot, .slice b.ag.A b.ag.l.length b.ag.c, .slice A3 N c3] from BB.out.set (j := 3) (by simp) (.slice A3 N c3))
      replace R := Lib.hid (R.out.other (p := ⟨w.heap.size, 3, none⟩) (.slice A3 N c3) (by first | omega | (simp; done) | (simp; omega)))
      replace RA := Lib.hid (RA.out.other (p := ⟨w.heap.size, 3, none⟩) (.slice A3 N c3) (by first | omega | (simp; done) | (simp; omega)))
      replace Y := Lib.hid (Y.out.other (p := ⟨w.heap.size, 3, none⟩) (.slice A3 N c3) (by first | omega | (simp; done) | (simp; omega)))
      replace SP := Lib.hid (SP.out.far (p := ⟨w.heap.size, 3, none⟩) (v := (.slice A3 N c3)) (own_off HO3.out (by simp)))
      go_wp2_with fail
      clear q0 q1 q2 q3 qf qb
      obtain ⟨v7, hNv7⟩ : ∃ W0, W0 = (v6.setCell ⟨w.heap.size, 3, none⟩ (.slice A3 N c3)) := ⟨_, rfl⟩
      rw [← hNv7] at E HB BB R RA Y SP ⊢
      clear hNv7
      refine rg_begin (S := (fun w' => w'.cell? ⟨w.heap.size, 0, none⟩ = some (.int .i64 b.own) ∧ w'.cell? ⟨w.heap.size, 1, none⟩ = some (.int .i64 b.ot) ∧ w'.cell? ⟨w.heap.size, 2, none⟩ = some (.slice b.ag.A b.ag.l.length b.ag.c) ∧ w'.cell? ⟨w.heap.size, 3, none⟩ = some (.slice A3 N c3) ∧ w'.cell? ⟨w.heap.size + 1 + 1, 0, none⟩ = some (.int .i64 (g + 1)) ∧ w'.cell? ⟨w.heap.size + 1 + 1, 1, none⟩ = some (.int .i64 f) ∧ w'.cell? ⟨w.heap.size + 1 + 1, 2, none⟩ = some (.int .i64 t) ∧ w'.cell? ⟨w.heap.size + 1 + 1, 3, none⟩ = some (.int .i64 m) ∧ w'.cell? ⟨w.heap.size + 1 + 1, 4, none⟩ = some (.int .i64 r))) 3 (by kernel_rfl) (by intro d; cases d <;> intro _ _ _ _ h <;> exact h) ?_ (fun Q7 hQ7 hN7 hHeld => ?_)
      · exact ⟨(BB.out.drew).c 0 _ rfl, (BB.out.drew).c 1 _ rfl, (BB.out.drew).c 2 _ rfl, (BB.out.drew).c 3 _ rfl, (RA.out.drew).c 0 _ rfl, (RA.out.drew).c 1 _ rfl, (RA.out.drew).c 2 _ rfl, (RA.out.drew).c 3 _ rfl, (RA.out.drew).c 4 _ rfl⟩
      have g00 : v7.cell? ⟨w.heap.size + 1, 0, none⟩ = some (.int .i64 0) := R.out.c 0 _ rfl
      have g01 : v7.cell? ⟨w.heap.size + 1, 1, none⟩ = some (.int .i64 0) := R.out.c 1 _ rfl
      have g02 : v7.cell? ⟨w.heap.size + 1, 2, none⟩ = some (.slice none 0 0) := R.out.c 2 _ rfl
      have g03 : v7.cell? ⟨w.heap.size + 1, 3, none⟩ = some (.slice none 0 0) := R.out.c 3 _ rfl
      have g0f : ∀ j, v7.frozen? ⟨w.heap.size + 1, j, none⟩ = false := R.out.f
      have g0l : w.heap.size + 1 < v7.heap.size := R.out.lt
      have g10 : v7.cell? ⟨w.heap.size + 1 + 1, 0, none⟩ = some (.int .i64 (g + 1)) := RA.out.c 0 _ rfl
      have g11 : v7.cell? ⟨w.heap.size + 1 + 1, 1, none⟩ = some (.int .i64 f) := RA.out.c 1 _ rfl
      have g12 : v7.cell? ⟨w.heap.size + 1 + 1, 2, none⟩ = some (.int .i64 t) := RA.out.c 2 _ rfl
      have g13 : v7.cell? ⟨w.heap.size + 1 + 1, 3, none⟩ = some (.int .i64 m) := RA.out.c 3 _ rfl
      have g14 : v7.cell? ⟨w.heap.size + 1 + 1, 4, none⟩ = some (.int .i64 r) := RA.out.c 4 _ rfl
      have g1f : ∀ j, v7.frozen? ⟨w.heap.size + 1 + 1, j, none⟩ = false := RA.out.f
      have g1l : w.heap.size + 1 + 1 < v7.heap.size := RA.out.lt
      refine rg_take (i := 0) (some 60) (v := ?_) rfl rfl (by kernel_rfl) (by rfl) hQ7 hHeld ?_ ?_
      rotate_left
      · intro w7 hSw; (try dsimp only at hSw); go_simp; all_goals with_reducible rfl
      try simp only [Act.put, List.setIfInBounds_toArray, List.set_cons_zero, List.set_cons_succ]
      refine rg_take (i := 1) (some 61) (v := ?_) rfl rfl (by kernel_rfl) (by rfl) hQ7 hHeld ?_ ?_
      rotate_left
      · intro w7 hSw; (try dsimp only at hSw); go_simp; all_goals with_reducible rfl
      try simp only [Act.put, List.setIfInBounds_toArray, List.set_cons_zero, List.set_cons_succ]
      have KBB := BB.out.off4 (c := w.heap.size + 1) (.int .i64 b.own) (.int .i64 b.ot) (.slice b.ag.A b.ag.l.length b.ag.c) (.slice A3 N c3) (by first | omega | (simp; done) | (simp; omega))
      have KRA := RA.out.off4 (c := w.heap.size + 1) (.int .i64 b.own) (.int .i64 b.ot) (.slice b.ag.A b.ag.l.length b.ag.c) (.slice A3 N c3) (by first | omega | (simp; done) | (simp; omega))
      unfold set4 at KBB KRA
      refine rg_one (i := 2) (by kernel_rfl) (rg_step rfl (by rfl) (fun K hK => ?_))
      go_simp
      refine hK.out _ _ ?_ (fun hHeld2 => ?_)
      · exact ⟨(KBB.drew).c 0 _ rfl, (KBB.drew).c 1 _ rfl, (KBB.drew).c 2 _ rfl, (KBB.drew).c 3 _ rfl, (KRA.drew).c 0 _ rfl, (KRA.drew).c 1 _ rfl, (KRA.drew).c 2 _ rfl, (KRA.drew).c 3 _ rfl, (KRA.drew).c 4 _ rfl⟩
      clear hHeld
      have hHeld := hHeld2
      clear hHeld2
      clear hK K
      try simp only [Act.put, List.setIfInBounds_toArray, List.set_cons_zero, List.set_cons_succ]
      clear KBB KRA
      replace E := Lib.hid (ext_set4 E.out (w.heap.size + 1) (.int .i64 b.own) (.int .i64 b.ot) (.slice b.ag.A b.ag.l.length b.ag.c) (.slice A3 N c3) (by first | exact Nat.le_refl _ | omega | (simp; done) | (simp; omega)))
      replace HB := Lib.hid (HB.out.set4 (c := (w.heap.size + 1)) (.int .i64 b.own) (.int .i64 b.ot) (.slice b.ag.A b.ag.l.length b.ag.c) (.slice A3 N c3) (HOFF.out _ (by omega)))
      replace BB := Lib.hid (BB.out.off4 (c := w.heap.size + 1) (.int .i64 b.own) (.int .i64 b.ot) (.slice b.ag.A b.ag.l.length b.ag.c) (.slice A3 N c3) (by first | omega | (simp; done) | (simp; omega)))
      replace R := Lib.hid (R.out.put4 (.int .i64 b.own) (.int .i64 b.ot) (.slice b.ag.A b.ag.l.length b.ag.c) (.slice A3 N c3))
      replace RA := Lib.hid (RA.out.off4 (c := w.heap.size + 1) (.int .i64 b.own) (.int .i64 b.ot) (.slice b.ag.A b.ag.l.length b.ag.c) (.slice A3 N c3) (by first | omega | (simp; done) | (simp; omega)))
      replace Y := Lib.hid (Y.out.off4 (c := w.heap.size + 1) (.int .i64 b.own) (.int .i64 b.ot) (.slice b.ag.A b.ag.l.length b.ag.c) (.slice A3 N c3) (by first | omega | (simp; done) | (simp; omega)))
      replace SP := Lib.hid (SP.out.far4 (b := (w.heap.size + 1)) (.int .i64 b.own) (.int .i64 b.ot) (.slice b.ag.A b.ag.l.length b.ag.c) (.slice A3 N c3) (own_off HO3.out (by simp)))
      unfold set4 at E HB BB R RA Y SP
      refine rg_one (i := 3) (by kernel_rfl) (rg_late rfl (by rfl) (by kernel_rfl) (fun K hK => ?_))
      go_simp
      refine hK.out _ _ ?_
      clear hK K
      try simp only [Act.put, List.setIfInBounds_toArray, List.set_cons_zero, List.set_cons_succ]
      replace E := Lib.hid (ext_set5 E.out (w.heap.size + 1 + 1) (.int .i64 (g + 1)) (.int .i64 f) (.int .i64 t) (.int .i64 m) (.int .i64 r) (by first | exact Nat.le_refl _ | omega | (simp; done) | (simp; omega)))
      replace HB := Lib.hid (HB.out.set5 (c := (w.heap.size + 1 + 1)) (.int .i64 (g + 1)) (.int .i64 f) (.int .i64 t) (.int .i64 m) (.int .i64 r) (HOFF.out _ (by omega)))
      replace BB := Lib.hid (BB.out.off5 (c := w.heap.size + 1 + 1) (.int .i64 (g + 1)) (.int .i64 f) (.int .i64 t) (.int .i64 m) (.int .i64 r) (by first | omega | (simp; done) | (simp; omega)))
      replace R := Lib.hid (R.out.off5 (c := w.heap.size + 1 + 1) (.int .i64 (g + 1)) (.int .i64 f) (.int .i64 t) (.int .i64 m) (.int .i64 r) (by first | omega | (simp; done) | (simp; omega)))
      replace RA := Lib.hid (RA.out.put5 (.int .i64 (g + 1)) (.int .i64 f) (.int .i64 t) (.int .i64 m) (.int .i64 r))
      replace Y := Lib.hid (Y.out.off5 (c := w.heap.size + 1 + 1) (.int .i64 (g + 1)) (.int .i64 f) (.int .i64 t) (.int .i64 m) (.int .i64 r) (by first | omega | (simp; done) | (simp; omega)))
      replace SP := Lib.hid (SP.out.far5 (b := (w.heap.size + 1 + 1)) (.int .i64 (g + 1)) (.int .i64 f) (.int .i64 t) (.int .i64 m) (.int .i64 r) (own_off HO3.out (by simp)))
      unfold set5 at E HB BB R RA Y SP
      refine rg_pure (i := 4) (some 12) (v := ?_) rfl rfl (by kernel_rfl) (by rfl) hQ7 (.inl (by kernel_rfl)) ?_ ?_
      rotate_left
      · intro w7; go_simp; all_goals with_reducible rfl
      try simp only [Act.put, List.setIfInBounds_toArray, List.set_cons_zero, List.set_cons_succ]
      refine rg_end (by kernel_rfl) (hN7 _ _ ?_) _
      clear hQ7 hN7 Q7
      have DD := ext_drew (ext_refl (((((((((v7.setCell ⟨w.heap.size + 1, 0, none⟩ (.int .i64 b.own)).setCell ⟨w.heap.size + 1, 1, none⟩ (.int .i64 b.ot)).setCell ⟨w.heap.size + 1, 2, none⟩ (.slice b.ag.A b.ag.l.length b.ag.c)).setCell ⟨w.heap.size + 1, 3, none⟩ (.slice A3 N c3)).setCell ⟨w.heap.size + 1 + 1, 0, none⟩ (.int .i64 (g + 1))).setCell ⟨w.heap.size + 1 + 1, 1, none⟩ (.int .i64 f)).setCell ⟨w.heap.size + 1 + 1, 2, none⟩ (.int .i64 t)).setCell ⟨w.heap.size + 1 + 1, 3, none⟩ (.int .i64 m)).setCell ⟨w.heap.size + 1 + 1, 4, none⟩ (.int .i64 r)))
      replace E := Lib.hid (ext_trans E.out DD)
      replace HB := Lib.hid (HB.out.ext DD)
      replace BB := Lib.hid (BB.out.ext DD)
      replace R := Lib.hid (R.out.ext DD)
      replace RA := Lib.hid (RA.out.ext DD)
      replace Y := Lib.hid (Y.out.ext DD)
      replace SP := Lib.hid (SP.out.ext DD)
      clear DD
      go_wp2_with fail
      refine bodyPost_ret (v := .tuple #[Bd.v ⟨b.own, b.ot, b.ag, ⟨A3, c3, putL b.op.l a⟩⟩, Ag.v ⟨g + 1, f, t, m, r⟩, .int .i64 0]) (by simp [results, Try.results12, go_sem, *, HNL.out]) rfl ?_
      obtain ⟨hw1, hw2⟩ := HW.out
      rw [hw1, hw2, HERR.out]
      have k3 := own_cap HO3.out
      refine ⟨⟨b.own, b.ot, b.ag, ⟨A3, c3, putL b.op.l a⟩⟩, by rw [HA.out], rfl, ⟨HB.out.ag, SP.out, HB.out.agl, HB.out.agc, k3.1, k3.2⟩, E.out, fun c hc hf => ⟨hf.1, own_off HO3.out (by omega)⟩⟩
end Go.Proofs.Ytmnbeikhjbjpiaa
