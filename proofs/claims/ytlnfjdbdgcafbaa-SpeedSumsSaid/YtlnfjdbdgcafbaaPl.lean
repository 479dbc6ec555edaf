/- The laws of chapter 12 in plain Lean. No program in sight. -/
import Derived.Test.YtlnfjdbdgcafbaaPlain
namespace Go.Proofs.Ytlnfjdbdgcafbaa

theorem mins_char {n s : Int} (hn : 1 ≤ n) (hs : 1 ≤ s) : n ≤ mins n s * s ∧ (mins n s - 1) * s < n ∧ 1 ≤ mins n s ∧ mins n s ≤ n := by
  unfold mins
  have h1 := Int.mul_ediv_add_emod (n + s - 1) s
  have h2 := Int.emod_nonneg (n + s - 1) (by omega : s ≠ 0)
  have h3 := Int.emod_lt_of_pos (n + s - 1) (by omega : 0 < s)
  have hq : 1 ≤ (n + s - 1) / s := by
    apply Int.le_ediv_of_mul_le (by omega); omega
  have hle : (n + s - 1) / s ≤ n := by
    have : (n + s - 1) / s < n + 1 := by
      apply Int.ediv_lt_of_lt_mul (by omega)
      have : 0 ≤ n * (s - 1) := Int.mul_nonneg (by omega) (by omega)
      have e : (n + 1) * s = n * (s - 1) + n + s := by rw [Int.add_mul, Int.mul_sub, Int.mul_one, Int.one_mul]; omega
      omega
    omega
  generalize (n + s - 1) / s = q at *
  generalize (n + s - 1) % s = r at *
  have e1 : q * s = s * q := Int.mul_comm _ _
  have e2 : (q - 1) * s = q * s - s := by rw [Int.sub_mul, Int.one_mul]
  refine ⟨by omega, by omega, hq, hle⟩
theorem mins_le {n s m : Int} (hn : 1 ≤ n) (hs : 1 ≤ s) (h : n ≤ m * s) : mins n s ≤ m := by
  obtain ⟨_, h2, _, _⟩ := mins_char hn hs
  have : mins n s - 1 < m := Int.lt_of_mul_lt_mul_right (Int.lt_of_lt_of_le h2 h) (by omega)
  omega
theorem mins_anti {n s t : Int} (hn : 1 ≤ n) (hs : 1 ≤ s) (h : s ≤ t) : mins n t ≤ mins n s := by
  obtain ⟨h1, _, h3, _⟩ := mins_char hn hs
  refine mins_le hn (by omega) (Int.le_trans h1 (Int.mul_le_mul_of_nonneg_left h (by omega)))
theorem mins_mono {m n s : Int} (hm : 1 ≤ m) (hs : 1 ≤ s) (h : m ≤ n) : mins m s ≤ mins n s := by
  obtain ⟨h1, _⟩ := mins_char (n := n) (s := s) (by omega) hs
  exact mins_le hm hs (by omega)
theorem mins_add {m n s : Int} (hm : 1 ≤ m) (hn : 1 ≤ n) (hs : 1 ≤ s) : 0 ≤ mins m s + mins n s - mins (m + n) s ∧ mins m s + mins n s - mins (m + n) s ≤ 1 := by
  obtain ⟨a1, a2, _⟩ := mins_char hm hs
  obtain ⟨b1, b2, _⟩ := mins_char hn hs
  obtain ⟨c1, c2, _⟩ := mins_char (n := m + n) (s := s) (by omega) hs
  constructor
  · have : mins (m + n) s ≤ mins m s + mins n s := mins_le (by omega) hs (by rw [Int.add_mul]; omega)
    omega
  · have h : (mins m s + mins n s - 2) * s < mins (m + n) s * s := by
      have e : (mins m s + mins n s - 2) * s = (mins m s - 1) * s + (mins n s - 1) * s := by
        rw [← Int.add_mul]; congr 1; omega
      omega
    have := Int.lt_of_mul_lt_mul_right h (by omega)
    omega
theorem mul_range {a b A B : Int} (h0 : 0 ≤ a) (h1 : a ≤ A) (h2 : 0 ≤ b) (h3 : b ≤ B) : 0 ≤ a * b ∧ a * b ≤ A * B :=
  ⟨Int.mul_nonneg h0 h2, Int.mul_le_mul h1 h3 h2 (by omega)⟩
theorem vld_rng {k : Kd} (h : vld k = true) : Rng k := by
  unfold vld at h
  simp only [Bool.and_eq_true] at h
  exact (rngB_iff k).1 h.1.1
theorem isLen_iff {n : Int} : isLen n = true ↔ 1 ≤ n ∧ n ≤ 4096 := by simp [isLen]
theorem bound_ok {k : Kd} {n : Int} {b : Bd} (h : bound k n = (b, 0)) : vld k = true ∧ 1 ≤ n ∧ n ≤ 4096 ∧ b = bnd k n := by
  unfold bound at h
  split at h
  · split at h
    · rename_i h1 h2
      obtain ⟨a, b'⟩ := isLen_iff.1 h2
      cases h; exact ⟨h1, a, b', rfl⟩
    · cases h
  · cases h
theorem bound_err {k : Kd} {n e : Int} {b : Bd} (h : bound k n = (b, e)) (he : e ≠ 0) : b = ⟨0, 0⟩ := by
  unfold bound at h
  split at h
  · split at h
    · injection h with _ h2; exact absurd h2.symm he
    · cases h; rfl
  · cases h; rfl
theorem bound_yes {k : Kd} {n : Int} (hv : vld k = true) (h1 : 1 ≤ n) (h2 : n ≤ 4096) : bound k n = (bnd k n, 0) := by
  unfold bound; rw [if_pos hv, if_pos (isLen_iff.2 ⟨h1, h2⟩)]
theorem bound_no {k : Kd} {n : Int} (hv : vld k = true) (h : ¬ (1 ≤ n ∧ n ≤ 4096)) : bound k n = (⟨0, 0⟩, 1) := by
  unfold bound; rw [if_pos hv, if_neg (fun h' => h (isLen_iff.1 h'))]
/-- The bounds of a length, in numbers. -/
theorem bnd_facts {k : Kd} {n : Int} (hv : vld k = true) (h1 : 1 ≤ n) : 1 ≤ (bnd k n).lo ∧ (bnd k n).lo ≤ (bnd k n).hi ∧ (bnd k n).hi ≤ n ∧ n ≤ (bnd k n).lo * k.fast ∧ ((bnd k n).lo - 1) * k.fast < n ∧ n ≤ (bnd k n).hi * k.slow ∧ ((bnd k n).hi - 1) * k.slow < n := by
  have r := vld_rng hv
  obtain ⟨a1, a2, a3, a4⟩ := mins_char (n := n) (s := k.fast) h1 (by have := r.s0; have := r.f0; omega)
  obtain ⟨b1, b2, b3, b4⟩ := mins_char (n := n) (s := k.slow) h1 r.s0
  exact ⟨a3, mins_anti h1 r.s0 r.f0, b4, a1, a2, b1, b2⟩
/-- The same kind, at one speed. -/
def Kd.at_ (k : Kd) (v : Int) : Kd := { k with slow := v, fast := v }
theorem vld_at {k : Kd} {v : Int} (hv : vld k = true) (h1 : k.slow ≤ v) (h2 : v ≤ k.fast) : vld (k.at_ v) = true := by
  have r := vld_rng hv
  have : rngB (k.at_ v) = true := (rngB_iff _).2 ⟨by show 1 ≤ v; have := r.s0; omega, by show v ≤ 64; have := r.f1; omega, by show v ≤ v; omega, by show v ≤ 64; have := r.f1; omega, r.p0, r.p1, r.w0, r.w1, r.l0, r.l1, r.c1⟩
  unfold vld at hv ⊢
  rw [this]
  simp only [Bool.and_eq_true] at hv
  simp only [Bool.and_eq_true, true_and]
  exact ⟨hv.1.2, hv.2⟩
theorem between {k : Kd} {n v : Int} (hv : vld k = true) (h1 : 1 ≤ n) (a : k.slow ≤ v) (b : v ≤ k.fast) : (bnd k n).lo ≤ (bnd (k.at_ v) n).lo ∧ (bnd (k.at_ v) n).lo ≤ (bnd k n).hi := by
  have r := vld_rng hv
  exact ⟨mins_anti (s := v) h1 (by have := r.s0; omega) b, mins_anti (t := v) h1 r.s0 a⟩
end Go.Proofs.Ytlnfjdbdgcafbaa
