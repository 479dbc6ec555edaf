/- The laws of sets of minutes, in plain Lean. No program in sight. -/
import Derived.Test.YtkannbmmgkohjaaK
namespace Go.Proofs.Ytkannbmmgkohjaa
theorem nrm_len (f : Nat → Bool) : (nrm f).length ≤ 1440 := runs_len f 1440
theorem nrm_lt (f : Nat → Bool) : (nrm f).length < 1000000 := Nat.lt_of_le_of_lt (nrm_len f) (by decide)
theorem nor_lt (a : List Sp) : (nor a).length < 1000000 := nrm_lt _
theorem yes {α : Type} [DecidableEq α] {a b : α} (h : a = b) : decide (a = b) = true := by simp [h]
section
variable (a b c : List Sp)
theorem alg1 : nrm (un a b) = nrm (un b a) := nrm_congr fun k hk => by
  simp only [un]; cases inL a k <;> cases inL b k <;> rfl
theorem alg2 : nrm (me a b) = nrm (me b a) := nrm_congr fun k hk => by
  simp only [me]; cases inL a k <;> cases inL b k <;> rfl
theorem alg3 : nrm (un (nrm (un a b)) c) = nrm (un a (nrm (un b c))) := nrm_congr fun k hk => by
  simp only [un, nrm_in _ k hk]; cases inL a k <;> cases inL b k <;> cases inL c k <;> rfl
theorem alg4 : nrm (me (nrm (me a b)) c) = nrm (me a (nrm (me b c))) := nrm_congr fun k hk => by
  simp only [me, nrm_in _ k hk]; cases inL a k <;> cases inL b k <;> cases inL c k <;> rfl
theorem alg5 : nrm (me a (nrm (un b c))) = nrm (un (nrm (me a b)) (nrm (me a c))) := nrm_congr fun k hk => by
  simp only [me, un, nrm_in _ k hk]; cases inL a k <;> cases inL b k <;> cases inL c k <;> rfl
theorem alg6 : nrm (un a a) = nor a := nrm_congr fun k hk => by
  simp only [un]; cases inL a k <;> rfl
theorem alg7 : nrm (me a a) = nor a := nrm_congr fun k hk => by
  simp only [me]; cases inL a k <;> rfl
theorem alg8 : nor (nor a) = nor a := nrm_congr fun k hk => by
  simp only [nor, nrm_in _ k hk]
theorem alg9 : nrm (mi a (nrm (un b c))) = nrm (mi (nrm (mi a b)) c) := nrm_congr fun k hk => by
  simp only [mi, un, nrm_in _ k hk]; cases inL a k <;> cases inL b k <;> cases inL c k <;> rfl
theorem alg10 : nrm (mi a a) = [] := List.eq_nil_of_length_eq_zero ((nrm_empty _).2 fun k hk => by
  simp only [mi]; cases inL a k <;> rfl)
theorem div1 : nrm (me (nrm (mi a b)) (nrm (me a b))) = [] := List.eq_nil_of_length_eq_zero ((nrm_empty _).2 fun k hk => by
  simp only [me, mi, nrm_in _ k hk]; cases inL a k <;> cases inL b k <;> rfl)
theorem div2 : nrm (me (nrm (mi a b)) b) = [] := List.eq_nil_of_length_eq_zero ((nrm_empty _).2 fun k hk => by
  simp only [me, mi, nrm_in _ k hk]; cases inL a k <;> cases inL b k <;> rfl)
theorem div3 : nrm (un (nrm (mi a b)) (nrm (me a b))) = nor a := nrm_congr fun k hk => by
  simp only [un, me, mi, nrm_in _ k hk]; cases inL a k <;> cases inL b k <;> rfl
theorem div4 : nrm (un (nrm (mi a b)) b) = nrm (un a b) := nrm_congr fun k hk => by
  simp only [un, mi, nrm_in _ k hk]; cases inL a k <;> cases inL b k <;> rfl
theorem cast_toNat {x : Int} (h : 0 ≤ x) : ((x.toNat : Nat) : Int) = x := by omega
theorem has_nrm (f : Nat → Bool) (x : Int) (g : Int → Bool) (h : ∀ k : Nat, f k = g k) : has (nrm f) x = (decide (0 ≤ x) && decide (x < 1440) && g x) := by
  rw [nrm_has]
  by_cases h0 : 0 ≤ x
  · rw [h, cast_toNat h0]
  · simp [h0]
theorem has_un (x : Int) : has (nrm (un a b)) x = (has a x || has b x) := by
  rw [has_nrm (un a b) x (fun m => inL a m || inL b m) (fun k => rfl)]
  simp only [has]; cases decide (0 ≤ x) <;> cases decide (x < 1440) <;> simp
theorem has_me (x : Int) : has (nrm (me a b)) x = (has a x && has b x) := by
  rw [has_nrm (me a b) x (fun m => inL a m && inL b m) (fun k => rfl)]
  simp only [has]; cases decide (0 ≤ x) <;> cases decide (x < 1440) <;> simp
theorem has_mi (x : Int) : has (nrm (mi a b)) x = (has a x && !has b x) := by
  rw [has_nrm (mi a b) x (fun m => inL a m && !inL b m) (fun k => rfl)]
  simp only [has]; cases decide (0 ≤ x) <;> cases decide (x < 1440) <;> simp
theorem has_nor (x : Int) : has (nor a) x = has a x := by
  rw [nor, has_nrm _ x (fun m => inL a m) (fun k => rfl)]; rfl
end
theorem norm_get : ∀ (l : List Sp) (lo : Int) (i : Nat) (s : Sp), Norm lo l → l[i]? = some s → lo ≤ s.f ∧ s.f < s.t ∧ s.t ≤ 1440 ∧ ∀ j t, j < i → l[j]? = some t → t.t < s.f
  | [], _, i, s, _, h => by simp at h
  | u :: r, lo, 0, s, hn, h => by
    simp at h; subst h
    exact ⟨hn.1, hn.2.1, hn.2.2.1, fun j t hj => absurd hj (Nat.not_lt_zero _)⟩
  | u :: r, lo, i + 1, s, hn, h => by
    obtain ⟨a, b, c, d⟩ := hn
    obtain ⟨e, f, g, k⟩ := norm_get r (u.t + 1) i s d (by simpa using h)
    refine ⟨by omega, f, g, fun j t hj ht => ?_⟩
    cases j with
    | zero => simp at ht; subst ht; omega
    | succ j => exact k j t (by omega) (by simpa using ht)
theorem norm_chk {l : List Sp} (h : Norm 0 l) : chkE l = 0 := by
  unfold chkE
  rw [if_neg]
  intro hb
  obtain ⟨s, hs, h2⟩ := List.any_eq_true.1 hb
  obtain ⟨i, hi, rfl⟩ := List.getElem_of_mem hs
  obtain ⟨a, b, c, _⟩ := norm_get l 0 i _ h (List.getElem?_eq_getElem hi)
  simp [badS] at h2
  omega
/-- A list covers a span exactly if it covers its two parts. -/
theorem cov_parts (l : List Sp) (a m b : Int) (h1 : a ≤ m) (h2 : m ≤ b) (ha : 0 ≤ a) (hb : b ≤ 1440) : cov l ⟨a, b⟩ = (cov l ⟨a, m⟩ && cov l ⟨m, b⟩) := by
  have key : ∀ x y : Int, 0 ≤ x → y ≤ 1440 → (cov l ⟨x, y⟩ = true ↔ ∀ k : Int, x ≤ k → k < y → inL l k = true) := by
    intro x y hx hy
    by_cases h : y ≤ x
    · simp only [cov, h, if_true, true_iff]; intro k; omega
    · exact cov_of l ⟨x, y⟩ h hx hy
  rw [Bool.eq_iff_iff, Bool.and_eq_true, key a b ha hb, key a m ha (by omega), key m b (by omega) hb]
  constructor
  · intro h; exact ⟨fun k x y => h k x (by omega), fun k x y => h k (by omega) y⟩
  · intro h k x y
    by_cases e : k < m
    · exact h.1 k x e
    · exact h.2 k (by omega) y
theorem cov_past (l : List Sp) (a b : Int) (h1 : a ≤ 1440) (h2 : 1440 < b) : cov l ⟨a, b⟩ = false := by
  simp [cov]; omega
theorem cov_empty (l : List Sp) (a b : Int) (h : b ≤ a) : cov l ⟨a, b⟩ = true := by simp [cov, h]
theorem cov_minus (l : List Sp) (a b : Int) (h : ¬ b ≤ a) (ha : 0 ≤ a) (hb : b ≤ 1440) : cov l ⟨a, b⟩ = decide ((nrm (mi [⟨a, b⟩] l)).length = 0) := by
  simp [cov, ha, hb]; omega
end Go.Proofs.Ytkannbmmgkohjaa
