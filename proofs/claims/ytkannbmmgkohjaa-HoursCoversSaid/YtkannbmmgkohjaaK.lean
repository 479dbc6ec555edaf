/- The reference's covers; lists from pairs of numbers. -/
import Derived.Test.YtkannbmmgkohjaaJ
namespace Go.Proofs.Ytkannbmmgkohjaa
open Go.RowKit Go.Shelf
theorem nrm_empty (g : Nat → Bool) : (nrm g).length = 0 ↔ ∀ k < 1440, g k = false := by
  constructor
  · intro h k hk
    rw [← nrm_in g k hk, List.eq_nil_of_length_eq_zero h]; rfl
  · intro h
    cases hn : nrm g with
    | nil => rfl
    | cons s r =>
      exfalso
      have h1 := nrm_norm g
      rw [hn] at h1
      obtain ⟨a, b, c, _⟩ := h1
      have h2 := nrm_in g s.f.toNat (by omega)
      rw [hn, h _ (by omega)] at h2
      simp [inL, inS] at h2
      omega
theorem cov_of (l : List Sp) (s : Sp) (h0 : ¬ s.t ≤ s.f) (h1 : 0 ≤ s.f) (h2 : s.t ≤ 1440) : cov l s = true ↔ ∀ m : Int, s.f ≤ m → m < s.t → inL l m = true := by
  unfold cov
  rw [if_neg h0]
  simp only [h1, h2, decide_true, Bool.true_and, decide_eq_true_eq, nrm_empty, mi]
  constructor
  · intro h m a b
    have := h m.toNat (by omega)
    rw [show ((m.toNat : Nat) : Int) = m by omega] at this
    simpa [inL, inS, a, b] using this
  · intro h k hk
    by_cases a : s.f ≤ k ∧ (k : Int) < s.t
    · simp [h k a.1 a.2]
    · have : inL [s] k = false := by simp [inL, inS]; omega
      simp [this]
set_option maxHeartbeats 400000 in
theorem rcovers_any (A : Option Addr) (c : Nat) (l : List Sp) (s : Sp) (w : World) (ha : Slc w Sp.cells 2 A l) (hn : l.length < 1000000) :
    Calls Try.prog 26 #[.slice A l.length c, s.v] w fun e w' => e = .returned (.bool (cov l s)) ∧ Below w.heap.size w w' := by
  by_cases h0 : s.t ≤ s.f
  · go_enter Try.func26, Try.ntmps26
    go_wp2_with fail
    go_ret
    exact ⟨ret_bool (by simp [cov, h0]), ext_alloc (ext_refl _) _⟩
  by_cases h1 : 0 ≤ s.f
  rotate_left
  · go_enter Try.func26, Try.ntmps26
    go_wp2_with fail
    go_ret
    exact ⟨ret_bool (by simp [cov]; omega), ext_alloc (ext_refl _) _⟩
  by_cases h2 : s.t ≤ 1440
  rotate_left
  · go_enter Try.func26, Try.ntmps26
    go_wp2_with fail
    go_ret
    exact ⟨ret_bool (by simp [cov]; omega), ext_alloc (ext_refl _) _⟩
  have HC := Lib.hid (cov_of l s h0 h1 h2)
  go_enter Try.func26, Try.ntmps26
  go_wp2_with fail
  refine (minutes_any A c l _ (ha.alloc _) hn).mono ?_
  rintro e w1 ⟨⟨b, rfl, hb, har⟩, hB⟩
  have q0 := (hB.cell (p := ⟨w.heap.size, 0, none⟩) (by simp)).trans (by simp : _ = some (.int .i64 s.f))
  have q1 := (hB.cell (p := ⟨w.heap.size, 1, none⟩) (by simp)).trans (by simp : _ = some (.int .i64 s.t))
  have hB' := ext_trans (ext_alloc (ext_refl w) _) hB
  clear hB hb
  go_wp2_with fail
  go_loop [6] (fun i => ∃ m : Nat, s.f ≤ m ∧ (m : Int) ≤ s.t ∧ i = .int .i64 m ∧ Hid (∀ j : Int, s.f ≤ j → j < m → inL l j = true)) (fun i => (1440 - intOf i).toNat)
  case atStart => exact ⟨s.f.toNat, by omega, by omega, by rw [show ((s.f.toNat : Nat) : Int) = s.f by omega], fun j a b => by omega⟩
  case round =>
    obtain ⟨m, hm1, hm2, rfl, HT⟩ := hrel
    by_cases hlt : (m : Int) < s.t
    · obtain ⟨d1, _⟩ := har.2 m (by omega)
      replace d1 : w1.cell? ⟨b, m, none⟩ = some (.bool (inL l m)) := d1
      cases hi : inL l m
      · rw [hi] at d1
        have HI := Lib.hid hi
        have hm : (m : Int) < 1440 := by omega
        clear hi
        go_wp2_with fail
        go_ret
        refine ⟨ret_bool ?_, hB'⟩
        rw [eq_comm, Bool.eq_false_iff]
        intro h
        have := HC.out.1 h m hm1 hlt
        rw [HI.out] at this; cases this
      · rw [hi] at d1
        have HI := Lib.hid hi
        have hm : (m : Int) < 1440 := by omega
        clear hi
        go_wp2_with fail
        go_round
        case rel => exact ⟨m + 1, by omega, by omega, by go_num, fun j a b => by
          by_cases e : j = m
          · rw [e]; exact HI.out
          · exact HT.out j a (by omega)⟩
        case measure => simp [intOf]; omega
    · go_wp2_with fail
      go_ret
      exact ⟨ret_bool (HC.out.2 (fun j a b => HT.out j a (by omega))).symm, hB'⟩
set_option maxHeartbeats 800000 in
theorem spans_of (A : Option Addr) (n c : Nat) (l : List Sp) (w : World) (ha : Slc w Sp.cells 2 A l) (hn : l.length < 1000000) (hnn : n = 2 * l.length) :
    Calls Try.prog 27 #[.slice A n c] w (RetS w l) := by
  have HN := Lib.hid hnn
  have hn1 : (n : Int) = 2 * l.length := by omega
  have hn2 : n ≤ 2 * l.length := by omega
  clear hnn
  have HN1 := Lib.hid hn1
  clear hn1
  go_enter Try.func27, Try.ntmps27
  go_wp2_with fail
  go_loopw [2, 3] (fun v i wr => ∃ k : Nat, k ≤ l.length ∧ i = .int .i64 ((2 * k : Nat) : Int) ∧ Own wr w.heap.size 31 Sp.cells 2 v (l.take k) ∧ Below w.heap.size w wr) (fun _ i _ => 2 * l.length - (intOf i).toNat)
  case atStart => exact ⟨0, Nat.zero_le _, rfl, Own.nil _ _ _ _ _, ext_refl _⟩
  case round =>
    obtain ⟨k, hk, rfl, hO, hB⟩ := hrel
    have hnn := HN.out
    have hnn1 := HN1.out
    by_cases hlt : k < l.length
    · have h1 : ((2 * k : Nat) : Int) + 1 < n := by omega
      have h1' : ((2 * k : Nat) : Int) < n := by omega
      obtain ⟨A2, c2, rfl, hc2, _, _⟩ := hO.form
      obtain ⟨x, b1, o1, hx, rfl, hb1, hc⟩ := ha.at_ hlt
      have HX := Lib.hid hx
      have c0 := (hB.cell (p := ⟨b1, _, none⟩) hb1).trans (hc 0 _ rfl)
      have c1 := (hB.cell (p := ⟨b1, _, none⟩) hb1).trans (hc 1 _ rfl)
      have e0 : o1 + k * 2 + 0 = o1 + 2 * k := by omega
      have e1 : o1 + k * 2 + 1 = o1 + (2 * k + 1) := by omega
      rw [e0] at c0
      rw [e1] at c1
      have hS := slc_litH wr [x] #[.int .i64 x.f, .int .i64 x.t] 31 (enc := Sp.cells) (sz := 2) (fun _ => rfl) rfl wr.heap.size rfl
      have hlk : (l.take k).length = k := by simp; omega
      have hrun := ((hO.alloc (.cells #[.int .i64 x.f, .int .i64 x.t] 31)).drew_.append I22 22 (ys := [x]) (m := 1) rfl 1 hS.drew_ (by simp only [List.length_cons, List.length_nil]; omega) (by unfold maxLen; simp only [List.length_cons, List.length_nil]; omega) (by have := hB.size; simp; omega))
      rw [hlk] at hrun
      have HRUN := Lib.hid hrun
      have HBr := Lib.hid hB
      have SS : ∀ w', Below w.heap.size w w' → (fun w' : World => w'.cell? ⟨b1, o1 + 2 * k, none⟩ = some (.int .i64 x.f) ∧ w'.cell? ⟨b1, o1 + (2 * k + 1), none⟩ = some (.int .i64 x.t)) w' := fun w' bw =>
        ⟨(bw.cell (p := ⟨b1, _, none⟩) hb1).trans (by have := hc 0 _ rfl; rwa [e0] at this), (bw.cell (p := ⟨b1, _, none⟩) hb1).trans (by have := hc 1 _ rfl; rwa [e1] at this)⟩
      have HLT : ∀ r, (Value.slice A2 k c2).ownBlock = some r → r < wr.heap.size ∧ w.heap.size ≤ r := fun r e => hO.lt r (by rw [hlk]; exact e)
      clear hrun hS hc hx e0 e1 hnn hnn1 hlk hB
      go_wp2_with fail
      have hw1 : IntKind.i64.wrap (2 * (k : Int) + 1) = 2 * (k : Int) + 1 := IntWalk.i64_in _ (by omega)
      have hw2 : (2 * (k : Int) + 1).toNat = 2 * k + 1 := by omega
      have hw3 : (2 * (k : Int)).toNat = 2 * k := by omega
      have hw4 : (0 : Int) ≤ 2 * (k : Int) + 1 := by omega
      have hw5 : (0 : Int) ≤ 2 * (k : Int) := by omega
      have hw6 : 2 * (k : Int) + 1 < n := by omega
      have hw7 : 2 * (k : Int) < n := by omega
      go_region_held3 (fun w' => w'.cell? ⟨b1, o1 + 2 * k, none⟩ = some (.int .i64 x.f) ∧ w'.cell? ⟨b1, o1 + (2 * k + 1), none⟩ = some (.int .i64 x.t)) (first | exact SS _ BW9 | go_keep)
        ((refine step_append_of rfl (.tmp 11) (.tmp 22) 22 rfl (.slice A2 k c2) (.slice (some ⟨wr.heap.size, 0, none⟩) 1 1) (by rfl) (by rfl) HRUN.out ?_; rintro v9 w9 ⟨hO9, hg9, hat9⟩; have BW9 : Below w.heap.size w w9 := (ext_drew (ext_alloc HBr.out _)).grown hg9 (by have := HBr.out.size; simp; omega) (fun r e => (HLT r e).2)))
      all_goals
        clear hw1 hw2 hw3 hw4 hw5 hw6 hw7
        go_wp2_with fail
        refine ⟨⟨k + 1, hlt, by congr 1, ?_, BW9⟩, by simp [intOf]; omega⟩
        rw [List.take_add_one, HX.out]; exact hO9
    · have h1 : ¬ 2 * (k : Int) + 1 < n := by omega
      rw [List.take_of_length_le (by omega)] at hO
      obtain ⟨A2, c2, rfl, hc2, _, _⟩ := hO.form
      go_wp2_with fail
      go_ret
      exact ⟨A2, c2, rfl, hO.slc (fun _ => rfl) (by decide), hB⟩
end Go.Proofs.Ytkannbmmgkohjaa
