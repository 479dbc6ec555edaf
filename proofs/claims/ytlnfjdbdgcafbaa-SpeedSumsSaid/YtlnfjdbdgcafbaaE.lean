import Derived.Test.YtlnfjdbdgcafbaaD
namespace Go.Proofs.Ytlnfjdbdgcafbaa
open Go.RowKit
theorem kind_any (a b : Int) (w : World) : Calls Try.prog 13 #[.int .i64 a, .int .i64 b] w fun e w' => e = .returned (Kd.v ⟨a, b, 1, 1, 0, ⟨none, 0, []⟩⟩) ∧ Below w.heap.size w w' := by
  go_enter Try.func13, Try.ntmps13
  go_wp2_with fail
  refine bodyPost_ret (v := Kd.v ⟨a, b, 1, 1, 0, ⟨none, 0, []⟩⟩) (by simp [results, Try.results13, go_sem]) rfl ⟨rfl, ?_⟩
  exact ext_alloc (ext_refl w) _
def fewK (k : Kd) : Bool := k.cur.l.all (fun s => decide (s.l.length ≤ 20)) && decide (k.cur.l.length ≤ 20)
theorem fewK_few {k : Kd} (h : fewK k = true) : k.few := by
  simp only [fewK, Bool.and_eq_true, List.all_eq_true, decide_eq_true_eq] at h
  exact ⟨by omega, fun s hs => by have := h.1 s hs; omega⟩
set_option maxHeartbeats 800000 in
theorem few_any (k : Kd) (w : World) (hk : k.ok w) (hn : k.cur.l.length ≤ maxLen) : Calls Try.prog 9 #[k.v] w fun e w' => e = .returned (.bool (fewK k)) ∧ Below w.heap.size w w' := by
  unfold maxLen at hn
  obtain ⟨s0, f0, p0, wt, lg, ⟨cA, cc, cl⟩⟩ := k
  have hk1 : Kd.ok (w.alloc (.cells #[.int .i64 s0, .int .i64 f0, .int .i64 p0, .int .i64 wt, .int .i64 lg, .slice cA cl.length cc] 24)) ⟨s0, f0, p0, wt, lg, ⟨cA, cc, cl⟩⟩ := hk.ext (ext_alloc (ext_refl w) _)
  obtain ⟨hk2, _⟩ := hk1
  have HB : Hid (Below w.heap.size w (w.alloc (.cells #[.int .i64 s0, .int .i64 f0, .int .i64 p0, .int .i64 wt, .int .i64 lg, .slice cA cl.length cc] 24))) := ext_alloc (ext_refl w) _
  simp only at hn hk2
  clear hk
  go_enter Try.func9, Try.ntmps9
  go_wp2_with fail
  go_loop [3] (fun i => ∃ q : Nat, q ≤ cl.length ∧ i = .int .i64 q ∧ Hid (∀ (j : Nat) (s : SliceOf Sp), j < q → cl[j]? = some s → s.l.length ≤ 20)) (fun i => cl.length - (intOf i).toNat)
  case atStart => exact ⟨0, Nat.zero_le _, rfl, fun j s h => absurd h (Nat.not_lt_zero _)⟩
  case round =>
    obtain ⟨q, hq, rfl, HI⟩ := hrel
    by_cases hlt : q < cl.length
    · obtain ⟨s, b1, o1, hs, rfl, hb1, hc⟩ := hk2.at_ hlt
      have c0 := hc 0 _ rfl
      simp only [Nat.mul_one, Nat.add_zero] at c0
      have HS := Lib.hid hs
      have hi : (q : Int) < cl.length := by omega
      clear hs hc
      by_cases h20 : s.l.length ≤ 20
      · go_wp2_with fail
        go_round
        case rel =>
          refine ⟨q + 1, hlt, by go_num, fun j t hj ht => ?_⟩
          rcases Nat.lt_or_ge j q with h | h
          · exact HI.out j t h ht
          · obtain rfl : j = q := by omega
            rw [HS.out] at ht; cases ht; exact h20
        case measure => simp [intOf]; omega
      · go_wp2_with fail
        go_ret
        refine ⟨ret_bool ?_, HB.out⟩
        rw [eq_comm, Bool.eq_false_iff]
        intro h
        simp only [fewK, Bool.and_eq_true, List.all_eq_true, decide_eq_true_eq] at h
        exact h20 (h.1 s (List.mem_of_getElem? HS.out))
    · go_wp2_with fail
      go_ret
      refine ⟨ret_bool ?_, HB.out⟩
      have : cl.all (fun s => decide (s.l.length ≤ 20)) = true := by
        simp only [List.all_eq_true, decide_eq_true_eq]
        intro s hs
        obtain ⟨j, hj, rfl⟩ := List.getElem_of_mem hs
        exact HI.out j _ (by omega) (List.getElem?_eq_getElem hj)
      simp only [fewK, this, Bool.true_and]
      rw [Bool.eq_iff_iff]
      simp
      omega
theorem fields28 : Try.prog.fieldsOf 28 = (match Try.prog.underlying 28 with | some (.struct fs) => fs | _ => #[]) := by kernel_rfl
theorem eq28 (x y : Bd) (d : Nat) (w : World) : (Op.equalIn (d + 2) 28 x.v y.v).run Try.prog w = .ok (decide (x = y)) w := by
  rw [run_equalIn_struct (P := Try.prog) w (d + 1) 28 _ _ (by kernel_rfl) (by kernel_rfl), fields28, Try.underlying28]
  simp [go_sem, Op.eqFields]
  go_simp
  simp only [Bd.eq_iff]
  repeat' split
  all_goals simp_all
theorem run_neq28 (x y : Bd) (w : World) : (binOp .neq 28 x.v y.v).run Try.prog w = .ok (.bool (!decide (x = y))) w := by
  rw [run_neq_struct, eq28 x y 9998 w]; rfl
theorem run_eql28 (x y : Bd) (w : World) : (binOp .eql 28 x.v y.v).run Try.prog w = .ok (.bool (decide (x = y))) w := by
  rw [run_eql_struct, eq28 x y 9998 w]; rfl
theorem same_stepBd {a b : List Bd} {k : Nat} {x y : Bd} (h : a.take k = b.take k) (hx : a[k]? = some x) (hy : b[k]? = some y) (hxy : x = y) : a.take (k + 1) = b.take (k + 1) := by
  simp [List.take_add_one, h, hx, hy, hxy]
theorem same_noBd {a b : List Bd} {k : Nat} {x y : Bd} (hx : a[k]? = some x) (hy : b[k]? = some y) (hxy : x ≠ y) : a ≠ b := by
  rintro rfl; rw [hx] at hy; exact hxy (Option.some.inj hy)
set_option maxHeartbeats 400000 in
theorem sameqBd (A B : Option Addr) (ca cb : Nat) (a b : List Bd) (w : World) (ha : Slc w Bd.cells 2 A a) (hb : Slc w Bd.cells 2 B b) (hn : a.length < 1048576) :
    Calls Try.prog 15 #[.slice A a.length ca, .slice B b.length cb] w fun e w' => e = .returned (.bool (decide (a = b))) ∧ ∃ n, w' = w.drewN n := by
  by_cases hl : a.length = b.length
  · have hl1 : ((a.length : Int) != (b.length : Int)) = false := by simp; omega
    have HL := Lib.hid hl
    have hlb : b.length ≤ a.length := by omega
    have hlb' : a.length ≤ b.length := by omega
    clear hl
    go_enter Try.func15, Try.ntmps15
    go_wp2
    go_loopw [5] (fun i wr => ∃ k : Nat, k ≤ a.length ∧ i = .int .i64 k ∧ a.take k = b.take k ∧ Hid (∃ n, wr = w.drewN n)) (fun i _ => a.length - (intOf i).toNat)
    case atStart => exact ⟨0, Nat.zero_le _, rfl, by simp, 0, rfl⟩
    case round =>
      obtain ⟨k, hk, rfl, htk, hbe⟩ := hrel
      have HT := Lib.hid htk
      clear htk
      by_cases hlt : k < a.length
      · obtain ⟨x, b1, o1, hx, rfl, _, hc⟩ := (Slc.drewE ha hbe.out).at_ hlt
        obtain ⟨y, b2, o2, hy, rfl, _, hd⟩ := (Slc.drewE hb hbe.out).at_ (show k < b.length by omega)
        have HX := Lib.hid hx
        have HY := Lib.hid hy
        clear hx hy
        have c0 := hc 0 _ rfl
        have c1 := hc 1 _ rfl
        have d0 := hd 0 _ rfl
        have d1 := hd 1 _ rfl
        simp only [Nat.add_zero] at c0 c1 d0 d1
        clear hc hd
        have hltb : k < b.length := by omega
        have hi1 : (k : Int) < (a.length : Int) := by omega
        have hi2 : (k : Int) < (b.length : Int) := by omega
        have hne := fun w => run_neq28 x y w
        go_wp2
        go_quiet (fail)
        go_wp2
        · have hxy : (!decide (x = y)) = true := by assumption
          go_ret
          exact ⟨ret_bool (by simp [same_noBd HX.out HY.out (by simpa using hxy)]), drewE hbe.out _⟩
        · have hxy : (!decide (x = y)) = false := by assumption
          go_roundw
          case rel => exact ⟨k + 1, hlt, by go_num, same_stepBd HT.out HX.out HY.out (by simpa using hxy), drewE hbe.out _⟩
          case measure => simp [intOf]; omega
      · go_wp2
        go_ret
        refine ⟨ret_bool ?_, hbe.out⟩
        have h1 := HT.out
        rw [List.take_of_length_le (by omega), List.take_of_length_le (by omega)] at h1
        simp [h1]
  · have hl1 : ((a.length : Int) != (b.length : Int)) = true := by simp; omega
    have HL := Lib.hid hl
    clear hl
    go_enter Try.func15, Try.ntmps15
    go_wp2
    go_ret
    exact ⟨ret_bool (by simp; intro h; exact HL.out (by rw [h])), 0, rfl⟩
theorem sameBd {A B : Option Addr} {ca cb : Nat} {a b : List Bd} {w : World} {n m : Nat} (r : Bool) (hr : decide (a = b) = r) (hl : n = a.length) (hm : m = b.length) (ha : Slc w Bd.cells 2 A a) (hb : Slc w Bd.cells 2 B b) (hn : a.length < 1000000) :
    Calls Try.prog 15 #[.slice A n ca, .slice B m cb] w fun e w' => e = .returned (.bool r) ∧ Below w.heap.size w w' := by
  subst hr hl hm
  exact (sameqBd A B ca cb a b w ha hb (by omega)).mono fun _ _ ⟨h1, n, h2⟩ => ⟨h1, by rw [h2]; exact ext_drewN (ext_refl w) n⟩
set_option maxHeartbeats 800000 in
theorem asked_any (k : Kd) (A : Option Addr) (c : Nat) (l : List Lg) (hold : Int) (w : World) (hk : k.ok w) (hf : k.few) (ha : Slc w Lg.cells 4 A l) (hn : l.length < 1000000) :
    Calls Try.prog 18 #[k.v, .slice A l.length c, .int .i64 hold] w fun e w' => e = .returned (.int .i64 (asked k l hold)) ∧ Below w.heap.size w w' := by
  have HF := Lib.hid hf
  clear hf
  go_enter Try.func18, Try.ntmps18
  go_wp2_with fail
  refine (scheck_any k _ (hk.ext (ext_alloc (ext_refl w) _)) HF.out).mono ?_
  rintro e w1 ⟨rfl, hB1⟩
  have hb1 : Below w.heap.size w w1 := ext_trans (ext_alloc (ext_refl w) _) hB1
  cases hv : vld k
  · have he : vldE k = 120 := by simp [vldE, hv]
    rw [he]
    go_wp2_with fail
    go_ret
    exact ⟨ret_int (by simp [asked, hv]), hb1⟩
  have he : vldE k = 0 := by simp [vldE, hv]
  rw [he]
  clear he
  go_wp2_with fail
  refine (within_lit [(l.length : Int), 1, 8, hold, 0, 10] rfl rfl (by simp) rfl).mono ?_
  rintro e w2 ⟨rfl, hB2⟩
  have hb2 := ext_trans hb1 hB2
  cases hw : wit [(l.length : Int), 1, 8, hold, 0, 10]
  · go_wp2_with fail
    go_ret
    exact ⟨ret_int (by simp [asked, hv, hw]), hb2⟩
  go_wp2_with fail
  refine (containsLg 24 badL A c l _ (ha.ext hb2) hn enters24 (fun x W _ _ => asked1_any x W)).mono ?_
  rintro e w3 ⟨rfl, hB3⟩
  cases hb : l.any badL
  all_goals
    go_wp2_with fail
    go_ret
    exact ⟨ret_int (by simp [asked, hv, hw, hb]), ext_trans hb2 hB3⟩
end Go.Proofs.Ytlnfjdbdgcafbaa
