import Derived.Test.YtlnfjdbdgcafbaaC
namespace Go.Proofs.Ytlnfjdbdgcafbaa
open Go.RowKit
set_option maxHeartbeats 800000 in
theorem kbound_any (k : Kd) (n : Int) (w : World) (h1 : 1 ≤ n) (h2 : n ≤ 4096) (R : Rng k) :
    Calls Try.prog 17 #[k.v, .int .i64 n] w fun e w' => e = .returned (bnd k n).v ∧ Below w.heap.size w w' := by
  have r1 := R.s0
  have r2 := R.s1
  have r3 := R.f0
  have r4 := R.f1
  have r5 : 1 ≤ k.fast := by omega
  clear R
  go_enter Try.func17, Try.ntmps17
  go_wp2_with fail
  go_region_held3 (fun w' => w'.cell? ⟨w.heap.size, 0, none⟩ = some (.int .i64 k.slow) ∧ w'.cell? ⟨w.heap.size, 1, none⟩ = some (.int .i64 k.fast)) (go_keep)
    ((go_at_call 22; refine (minutes_any _ _ _ (by omega) (by omega) (by omega) (by omega)).mono ?_; rintro e w' ⟨rfl, rfl⟩))
  all_goals
    go_wp2_with fail
    refine bodyPost_ret (v := (bnd k n).v) (by simp [results, Try.results17, go_sem, bnd]) rfl ⟨rfl, ?_⟩
    exact ext_drew (ext_alloc (ext_alloc (ext_refl w) _) _)
/-- What Bound hands back. -/
def RetB (w : World) (r : Bd × Int) (e : Ending) (w' : World) : Prop := e = .returned (.tuple #[r.1.v, .int .i64 r.2]) ∧ Below w.heap.size w w'
set_option maxHeartbeats 800000 in
theorem bound_any (k : Kd) (n : Int) (w : World) (hk : k.ok w) (hf : k.few) : Calls Try.prog 10 #[k.v, .int .i64 n] w (RetB w (bound k n)) := by
  have HF := Lib.hid hf
  clear hf
  go_enter Try.func10, Try.ntmps10
  go_wp2_with fail
  refine (scheck_any k _ (hk.ext (ext_alloc (ext_alloc (ext_refl w) _) _)) HF.out).mono ?_
  rintro e w1 ⟨rfl, hB1⟩
  have hb1 : Below w.heap.size w w1 := ext_trans (ext_alloc (ext_alloc (ext_refl w) _) _) hB1
  have s1 : w.heap.size + 1 < w1.heap.size := by have := hB1.size; simp at this; omega
  have N1 := ((KdAt.new w k 24).ext (by simp) (ext_alloc (ext_refl _) _)).ext (by simp; omega) hB1
  obtain ⟨hcc, hff⟩ := bcell hB1
  have d0 : w1.cell? ⟨w.heap.size + 1, 0, none⟩ = some (.int .i64 0) := by rw [hcc _ _ (by simp)]; simp
  have d1 : w1.cell? ⟨w.heap.size + 1, 1, none⟩ = some (.int .i64 0) := by rw [hcc _ _ (by simp)]; simp
  have g0 : ∀ j, w1.frozen? ⟨w.heap.size + 1, j, none⟩ = false := by intro j; rw [hff _ _ (by simp)]; simp
  clear hcc hff hB1
  cases hv : vld k
  · have he : vldE k = 120 := by simp [vldE, hv]
    rw [he]
    go_wp2_with fail
    rw [show bound k n = (⟨0, 0⟩, 120) by simp [bound, hv]]
    refine bodyPost_ret (v := .tuple #[Bd.v ⟨0, 0⟩, .int .i64 120]) (by simp [results, Try.results10, go_sem, *]) rfl ⟨rfl, ?_⟩
    exact (hb1.setCell (p := ⟨w.heap.size + 1, 0, none⟩) (Nat.le_succ _) _).setCell (p := ⟨w.heap.size + 1, 1, none⟩) (Nat.le_succ _) _
  have he : vldE k = 0 := by simp [vldE, hv]
  rw [he]
  clear he
  have R := Lib.hid (vld_rng hv)
  go_wp2_with fail
  refine (length_any n _).mono ?_
  rintro e w2 ⟨rfl, hB2⟩
  have hb2 := ext_trans hb1 hB2
  have s2 : w.heap.size + 1 < w2.heap.size := Nat.lt_of_lt_of_le s1 hB2.size
  have N2 := N1.ext (by omega) hB2
  obtain ⟨n0, n1, n2, n3, n4, n5⟩ := N2.all
  have e0 := (hB2.cell (p := ⟨w.heap.size + 1, 0, none⟩) s1).trans d0
  have e1 := (hB2.cell (p := ⟨w.heap.size + 1, 1, none⟩) s1).trans d1
  have g2 : ∀ j, w2.frozen? ⟨w.heap.size + 1, j, none⟩ = false := fun j => (hB2.frozen (p := ⟨w.heap.size + 1, j, none⟩) s1).trans (g0 j)
  clear d0 d1 g0
  cases hl : isLen n
  · go_wp2_with fail
    rw [show bound k n = (⟨0, 0⟩, 1) by simp [bound, hv, hl]]
    refine bodyPost_ret (v := .tuple #[Bd.v ⟨0, 0⟩, .int .i64 1]) (by simp [results, Try.results10, go_sem, *]) rfl ⟨rfl, ?_⟩
    exact (hb2.setCell (p := ⟨w.heap.size + 1, 0, none⟩) (Nat.le_succ _) _).setCell (p := ⟨w.heap.size + 1, 1, none⟩) (Nat.le_succ _) _
  obtain ⟨m1, m2⟩ := isLen_iff.1 hl
  go_wp2_with fail
  refine (kbound_any k n _ m1 m2 R.out).mono ?_
  rintro e w3 ⟨rfl, hB3⟩
  have hb3 := ext_trans hb2 hB3
  have f0 := (hB3.cell (p := ⟨w.heap.size + 1, 0, none⟩) s2).trans e0
  have f1 := (hB3.cell (p := ⟨w.heap.size + 1, 1, none⟩) s2).trans e1
  have g3 : ∀ j, w3.frozen? ⟨w.heap.size + 1, j, none⟩ = false := fun j => (hB3.frozen (p := ⟨w.heap.size + 1, j, none⟩) s2).trans (g2 j)
  clear e0 e1 g2 n0 n1 n2 n3 n4 n5
  have HR : Hid (bound k n = (bnd k n, 0)) := by simp [Hid, bound, hv, hl]
  generalize bnd k n = b at *
  go_wp2_with fail
  rw [HR.out]
  refine bodyPost_ret (v := .tuple #[Bd.v b, .int .i64 0]) (by simp [results, Try.results10, go_sem, *]) rfl ⟨rfl, ?_⟩
  exact (hb3.setCell (p := ⟨w.heap.size + 1, 0, none⟩) (Nat.le_succ _) _).setCell (p := ⟨w.heap.size + 1, 1, none⟩) (Nat.le_succ _) _
end Go.Proofs.Ytlnfjdbdgcafbaa
