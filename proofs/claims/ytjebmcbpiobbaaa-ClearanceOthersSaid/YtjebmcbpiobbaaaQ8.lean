import Derived.Test.YtjebmcbpiobbaaaQ7
import Derived.StillTailTactics
namespace Go.Proofs.Ytjebmcbpiobbaaa
open Go.RowKit

theorem change_err (l : List Clr) (no : Int) (g : Clr → Clr × Int) (h : (change l no g).2 ≠ 0) : (change l no g).1 = [] := by
  unfold change at h ⊢
  split
  · split
    · split
      · rfl
      · split
        · rename_i h1 _ x hx hw hz
          rw [if_pos h1, hx] at h
          simp [hw, hz] at h
        · rfl
    · rfl
  · rfl
theorem anew {l : List Clr} {k : Nat} {x : Clr} {o : Opt} {m : Int} (hv : Valid l) (hx : l[k]? = some x) (hw : x.wd = false) (hr : x.rd = false) (hf : fmd o = true) (h0 : 0 ≤ m) (h1 : m < 1440) (hl : ∀ y : Clr, l[l.length - 1]? = some y → y.iss ≤ m) :
    issue (l.set k { x with wd := true }) x.fl o m = (l.set k { x with wd := true } ++ [newC l x.fl o m], 0) ∧ inForce (l.set k { x with wd := true } ++ [newC l x.fl o m]) x.fl = (newC l x.fl o m, true) := by
  have hV := valid_withdraw hv hx hr
  have hC : CanIssue (l.set k { x with wd := true }) x.fl o m := by
    refine ⟨(hv k x hx).fl0, (hv k x hx).fl1, h0, h1, hf, ?_, gone_inForce hv hx hw⟩
    intro y _ hy
    rw [List.length_set] at hy
    rcases set_get hy with ⟨e, _, rfl⟩ | ⟨_, hy'⟩
    · exact hl x (by rw [e]; exact hx)
    · exact hl y hy'
  obtain ⟨h2, h3⟩ := issue_yes hV hC
  have e : newC (l.set k { x with wd := true }) x.fl o m = newC l x.fl o m := by simp [newC]
  rw [e] at h2 h3
  refine ⟨h3, ?_⟩
  exact inForce_is (x := newC l x.fl o m) (k := l.length) h2 (by simp) rfl

set_option maxHeartbeats 800000 in
set_option maxRecDepth 100000 in
theorem law8 (A : Option Addr) (c : Nat) (l : List Clr) (no : Int) (o : Opt) (m : Int) (w : World) (ha : Slc w Clr.cells 9 A l) :
    Calls Try.prog 8 #[.slice A l.length c, .int .i64 no, o.v, .int .i64 m] w (Tru w) := by
  obtain ⟨⟨ys, ew⟩, hi⟩ : ∃ r, withdraw l no = r := ⟨_, rfl⟩
  have HI := Lib.hid hi
  have hlen : ys.length ≤ l.length := by have := change_len l no wdG; unfold withdraw at hi; rw [hi] at this; exact this
  clear hi
  go_enter Try.func8, Try.ntmps8
  go_wp2_with fail
  refine (sane_any _).mono ?_
  rintro e w1 ⟨rfl, B1⟩
  have hb1 : Below w.heap.size w w1 := ext_trans (ext_alloc (ext_refl w) _) B1
  obtain ⟨hcc, _⟩ := bcell B1
  have d0 : w1.cell? ⟨w.heap.size, 0, none⟩ = some (.int .i64 o.d) := by rw [hcc _ _ (by simp)]; simp
  have d1 : w1.cell? ⟨w.heap.size, 1, none⟩ = some (.int .i64 o.y) := by rw [hcc _ _ (by simp)]; simp
  have d2 : w1.cell? ⟨w.heap.size, 2, none⟩ = some (.int .i64 o.h) := by rw [hcc _ _ (by simp)]; simp
  have d3 : w1.cell? ⟨w.heap.size, 3, none⟩ = some (.bool o.c) := by rw [hcc _ _ (by simp)]; simp
  have s0 : w.heap.size < w1.heap.size := by have := B1.size; simp at this; omega
  clear hcc B1
  go_wp2_with fail
  refine (few_any A l.length c _).mono ?_
  rintro e w1' ⟨rfl, rfl⟩
  by_cases hf : l.length ≤ 40
  rotate_left
  · rw [few_no hf]
    go_wp2_with fail
    go_ret
    exact ⟨rfl, hb1⟩
  rw [few_yes hf]
  go_wp2_with fail
  refine (rformed_any o _).mono ?_
  rintro e w2 ⟨rfl, B2⟩
  have hb2 := ext_trans hb1 B2
  cases hfm : fmd o
  · go_wp2_with fail
    go_ret
    exact ⟨rfl, hb2⟩
  go_wp2_with fail
  refine (withdraw_at (ys, ew) HI.out rfl (ha.ext hb2) (by omega)).mono ?_
  rintro e w3 ⟨A3, k3, rfl, S3, hk3, B3⟩
  have hb3 := ext_trans hb2 B3
  by_cases hew : ew = 0
  rotate_left
  · have hew' : (ew != 0) = true := by simp [hew]
    have hew2 : (ew == 0) = false := by simp [hew]
    have hys : ys = [] := by
      have := change_err l no wdG; unfold withdraw at HI; rw [HI.out] at this; exact this hew
    subst hys
    clear hew
    go_wp2_with fail
    go_ret
    exact ⟨rfl, hb3⟩
  subst hew
  obtain ⟨k, x, rfl, hv, hx, hw, hg, hys⟩ := change_ok (g := wdG) HI.out
  have hr : x.rd = false := by
    cases h : x.rd
    · rfl
    · simp [wdG, h] at hg
  have hys' : ys = l.set k { x with wd := true } := by rw [hys]; simp [wdG, hr]
  clear hg hys
  have HV := Lib.hid hv
  have HX := Lib.hid hx
  have HY := Lib.hid hys'
  have hlt : k < l.length := (List.getElem?_eq_some_iff.1 hx).1
  have hlt' : (k : Int) < l.length := by omega
  clear hv hx hys'
  by_cases hm : 0 ≤ m ∧ m ≤ 1439
  rotate_left
  · go_wp2_with fail
    all_goals first | (exfalso; omega) | skip
    all_goals
      go_ret
      exact ⟨rfl, hb3⟩
  obtain ⟨hm0, hm1⟩ := hm
  obtain ⟨q, hq⟩ : ∃ q, q = l.length - 1 := ⟨_, rfl⟩
  obtain ⟨y, b3, o3, hy, rfl, hbb3, hc3⟩ := (ha.ext hb3).at_ (show q < l.length by omega)
  have e2 := hc3 2 _ rfl
  have hi0 : ((l.length : Int) - 1).toNat = q := by omega
  have hi1 : (l.length : Int) - 1 = (q : Int) := by omega
  have hql : (q : Int) < l.length := by omega
  have HYL : Hid (l[l.length - 1]? = some y) := by rw [← hq]; exact hy
  clear hy hc3 hq
  obtain ⟨x', b1, o1, hx', e1, hbb, hc⟩ := (ha.ext hb3).at_ hlt
  cases e1
  obtain rfl : x = x' := Option.some.inj (HX.out.symm.trans hx')
  have HCC := Lib.hid hc
  have c1 := hc 1 _ rfl
  have f0 := ((ext_trans B2 B3).cell (p := ⟨w.heap.size, 0, none⟩) s0).trans d0
  have f1 := ((ext_trans B2 B3).cell (p := ⟨w.heap.size, 1, none⟩) s0).trans d1
  have f2 := ((ext_trans B2 B3).cell (p := ⟨w.heap.size, 2, none⟩) s0).trans d2
  have f3 := ((ext_trans B2 B3).cell (p := ⟨w.heap.size, 3, none⟩) s0).trans d3
  have s3 : w.heap.size < w3.heap.size := Nat.lt_of_lt_of_le s0 (ext_trans B2 B3).size
  clear hc hx' d0 d1 d2 d3
  by_cases hlast : m < y.iss
  · go_wp2_with fail
    go_ret
    exact ⟨rfl, hb3⟩
  have hA := anew (o := o) (m := m) HV.out HX.out hw hr hfm hm0 (by omega) (fun z hz => by rw [HYL.out] at hz; cases hz; omega)
  rw [← HY.out] at hA
  have H1 := Lib.hid hA.1
  have H2 := Lib.hid hA.2
  clear hA
  go_wp2_with fail
  clear hi0 hi1
  go_region_held3 (fun w' => w'.cell? ⟨b3, o3 + k * 9 + 1, none⟩ = some (.int .i64 x.fl) ∧ w'.cell? ⟨w.heap.size, 0, none⟩ = some (.int .i64 o.d) ∧ w'.cell? ⟨w.heap.size, 1, none⟩ = some (.int .i64 o.y) ∧ w'.cell? ⟨w.heap.size, 2, none⟩ = some (.int .i64 o.h) ∧ w'.cell? ⟨w.heap.size, 3, none⟩ = some (.bool o.c)) (first | exact ⟨(B4.cell (p := ⟨b3, o3 + k * 9 + 1, none⟩) hbb).trans c1, (B4.cell (p := ⟨w.heap.size, 0, none⟩) s3).trans f0, (B4.cell (p := ⟨w.heap.size, 1, none⟩) s3).trans f1, (B4.cell (p := ⟨w.heap.size, 2, none⟩) s3).trans f2, (B4.cell (p := ⟨w.heap.size, 3, none⟩) s3).trans f3⟩ | go_keep)
    ((go_at_call 12; refine (issue_at (ys ++ [newC l x.fl o m], 0) H1.out rfl S3.drew_ (by omega) hk3).mono ?_; rintro e w4 ⟨A4, k4, rfl, S4, hk4, B4⟩))
  have B4' : Below w3.heap.size w3 w4 := ext_trans (ext_drew (ext_refl w3)) B4
  have hb4 := ext_trans hb3 B4'
  have g1 := (B4'.cell (p := ⟨b3, o3 + k * 9 + 1, none⟩) hbb).trans c1
  have g0 := (B4'.cell (p := ⟨w.heap.size, 0, none⟩) s3).trans f0
  have g4 := (B4'.cell (p := ⟨w.heap.size, 1, none⟩) s3).trans f1
  have g2 := (B4'.cell (p := ⟨w.heap.size, 2, none⟩) s3).trans f2
  have g3 := (B4'.cell (p := ⟨w.heap.size, 3, none⟩) s3).trans f3
  have s4 : w.heap.size < w4.heap.size := Nat.lt_of_lt_of_le s3 B4'.size
  clear f0 f1 f2 f3 c1 e2
  go_wp2_with fail
  refine (inForce_at (newC l x.fl o m, true) H2.out (by simp) S4 (by simp; omega)).mono ?_
  rintro e w5 ⟨rfl, B5⟩
  have h0 := (B5.cell (p := ⟨w.heap.size, 0, none⟩) s4).trans g0
  have h1 := (B5.cell (p := ⟨w.heap.size, 1, none⟩) s4).trans g4
  have h2 := (B5.cell (p := ⟨w.heap.size, 2, none⟩) s4).trans g2
  have h3 := (B5.cell (p := ⟨w.heap.size, 3, none⟩) s4).trans g3
  have s5 : w.heap.size < w5.heap.size := Nat.lt_of_lt_of_le s4 B5.size
  have heq := fun w => run_eql24 o o w
  simp only [decide_true] at heq
  clear g0 g1 g2 g3 g4
  simp only [newC]
  go_wp2_with fail
  go_ret
  exact ⟨rfl, ext_alloc (ext_trans hb4 B5) _⟩
theorem walk8 (s : SliceOf Clr) (no : Int) (o : Opt) (m : Int) (w : World) (ok : SliceOf.ok Clr.cells 9 (fun _ _ => True) w s) (_ : True) :
    Calls Try.prog 8 #[.slice s.A s.l.length s.c, .int .i64 no, .agg o.cells.toArray, .int .i64 m] w fun e w' => e = .returned (.bool true) ∧ Below w.heap.size w w' :=
  law8 s.A s.c s.l no o m w ok.1
end Go.Proofs.Ytjebmcbpiobbaaa
