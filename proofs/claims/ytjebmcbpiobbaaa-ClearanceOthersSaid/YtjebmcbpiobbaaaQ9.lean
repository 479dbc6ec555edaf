import Derived.Test.YtjebmcbpiobbaaaQ8
namespace Go.Proofs.Ytjebmcbpiobbaaa
open Go.RowKit

theorem set_other {l : List Clr} {k j : Nat} {y : Clr} (h : j ≠ k) : (l.set k y)[j]? = l[j]? := by
  rw [List.getElem?_set]; simp [Ne.symm h]
theorem others1 {l : List Clr} {a b : Nat} {x y : Clr} (hab : a ≠ b) (hv : Valid l) (hx : l[a]? = some x) (hxw : x.wd = false) (hy : l[b]? = some y) (hyw : y.wd = false) (hyr : y.rd = false) :
    withdraw (l.set a { x with rd := true }) b = ((l.set a { x with rd := true }).set b { y with wd := true }, 0) := by
  rw [withdraw_yes (valid_read hv hx hxw) (by rw [set_other (Ne.symm hab)]; exact hy) hyw, hyr]; rfl
theorem others2 {l : List Clr} {a b : Nat} {x y : Clr} (hab : a ≠ b) (hv : Valid l) (hx : l[a]? = some x) (hxw : x.wd = false) (hy : l[b]? = some y) (hyr : y.rd = false) :
    read (l.set b { y with wd := true }) a = ((l.set a { x with rd := true }).set b { y with wd := true }, 0) := by
  rw [read_yes (valid_withdraw hv hy hyr) (by rw [set_other hab]; exact hx) hxw, List.set_comm _ _ hab]

theorem dq {α : Type} {w wr : World} {enc : α → List Value} {sz : Nat} {A : Option Addr} {l : List α} (h : Slc w enc sz A l) (hd : ∃ n, wr = w.drewN n) : Slc wr enc sz A l := by
  obtain ⟨n, rfl⟩ := hd; exact h
theorem dq2 {w wr : World} (hd : ∃ n, wr = w.drewN n) (m : Nat) : ∃ n, wr.drewN m = w.drewN n := by
  obtain ⟨n, rfl⟩ := hd; exact ⟨n + m, by rw [World.drewN_drewN]⟩
set_option maxHeartbeats 400000 in
theorem same_q (A B : Option Addr) (ca cb : Nat) (a b : List Clr) (w : World) (ha : Slc w Clr.cells 9 A a) (hb : Slc w Clr.cells 9 B b) (hn : a.length < 1048576) :
    Calls Try.prog 16 #[.slice A a.length ca, .slice B b.length cb] w fun e w' => e = .returned (.bool (decide (a = b))) ∧ ∃ n, w' = w.drewN n := by
  by_cases hl : a.length = b.length
  · have hl1 : ((a.length : Int) != (b.length : Int)) = false := by simp; omega
    have HL := Lib.hid hl
    have hlb : b.length ≤ a.length := by omega
    have hlb' : a.length ≤ b.length := by omega
    clear hl
    go_enter Try.func16, Try.ntmps16
    go_wp2
    go_loopw [5] (fun i wr => ∃ k : Nat, k ≤ a.length ∧ i = .int .i64 k ∧ a.take k = b.take k ∧ Hid (∃ n, wr = w.drewN n)) (fun i _ => a.length - (intOf i).toNat)
    case atStart => exact ⟨0, Nat.zero_le _, rfl, by simp, 0, rfl⟩
    case round =>
      obtain ⟨k, hk, rfl, htk, hbe⟩ := hrel
      have HT := Lib.hid htk
      clear htk
      by_cases hlt : k < a.length
      · obtain ⟨x, b1, o1, hx, rfl, _, hc⟩ := (dq ha hbe.out).at_ hlt
        obtain ⟨y, b2, o2, hy, rfl, _, hd⟩ := (dq hb hbe.out).at_ (show k < b.length by omega)
        have HX := Lib.hid hx
        have HY := Lib.hid hy
        clear hx hy
        obtain ⟨c0, c1, c2, c3, c4, c5, c6, c7, c8⟩ := Clr.at9 hc
        obtain ⟨d0, d1, d2, d3, d4, d5, d6, d7, d8⟩ := Clr.at9 hd
        clear hc hd
        have hltb : k < b.length := by omega
        have hi1 : (k : Int) < (a.length : Int) := by omega
        have hi2 : (k : Int) < (b.length : Int) := by omega
        have hne := fun w => run_neq31 x y w
        go_wp2
        go_quiet (fail)
        go_wp2
        · have hxy : (!decide (x = y)) = true := by assumption
          go_ret
          exact ⟨ret_bool (by simp [same_no HX.out HY.out (by simpa using hxy)]), dq2 hbe.out _⟩
        · have hxy : (!decide (x = y)) = false := by assumption
          go_roundw
          case rel => exact ⟨k + 1, hlt, by go_num, same_step HT.out HX.out HY.out (by simpa using hxy), dq2 hbe.out _⟩
          case measure => simp [intOf]; omega
      · go_wp2
        go_ret
        refine ⟨ret_bool ?_, hbe.out⟩
        have h1 := HT.out
        rw [List.take_of_length_le (by omega), List.take_of_length_le (by omega)] at h1
        simp [h1]
  · have hl1 : ((a.length : Int) != (b.length : Int)) = true := by simp; omega
    have HL := Lib.hid hl
    clear hl
    go_enter Try.func16, Try.ntmps16
    go_wp2
    go_ret
    exact ⟨ret_bool (by simp; intro h; exact HL.out (by rw [h])), 0, rfl⟩
theorem sameq_at {A B : Option Addr} {ca cb : Nat} {a b : List Clr} {w : World} {n m : Nat} (r : Bool) (hr : decide (a = b) = r) (hl : n = a.length) (hm : m = b.length) (ha : Slc w Clr.cells 9 A a) (hb : Slc w Clr.cells 9 B b) (hn : a.length < 1000000) :
    Calls Try.prog 16 #[.slice A n ca, .slice B m cb] w fun e w' => e = .returned (.bool r) ∧ ∃ k, w' = w.drewN k := by
  subst hr hl hm; exact same_q A B ca cb a b w ha hb (by omega)
set_option maxHeartbeats 1600000 in
set_option maxRecDepth 100000 in
theorem law9 (A : Option Addr) (c : Nat) (l : List Clr) (a b : Int) (w : World) (ha : Slc w Clr.cells 9 A l) :
    Calls Try.prog 9 #[.slice A l.length c, .int .i64 a, .int .i64 b] w (Tru w) := by
  obtain ⟨⟨xs, er⟩, hr⟩ : ∃ r, read l a = r := ⟨_, rfl⟩
  have HR := Lib.hid hr
  obtain ⟨⟨ys, ew⟩, hi⟩ : ∃ r, withdraw l b = r := ⟨_, rfl⟩
  have HI := Lib.hid hi
  have hlx : xs.length ≤ l.length := by have := change_len l a rdG; unfold read at hr; rw [hr] at this; exact this
  have hly : ys.length ≤ l.length := by have := change_len l b wdG; unfold withdraw at hi; rw [hi] at this; exact this
  clear hr hi
  go_enter Try.func9, Try.ntmps9
  go_wp2_with fail
  refine (sane_any _).mono ?_
  rintro e w1 ⟨rfl, hb1⟩
  go_wp2_with fail
  refine (few_any A l.length c _).mono ?_
  rintro e w1' ⟨rfl, rfl⟩
  by_cases hf : l.length ≤ 40
  rotate_left
  · rw [few_no hf]
    go_wp2_with fail
    go_ret
    exact ⟨rfl, hb1⟩
  rw [few_yes hf]
  by_cases hab : a = b
  · have hab' : (a == b) = true := by simp [hab]
    have HAB := Lib.hid hab
    clear hab
    go_wp2_with fail
    go_ret
    exact ⟨rfl, hb1⟩
  have hab' : (a == b) = false := by simp [hab]
  have HAB := Lib.hid hab
  clear hab
  go_wp2_with fail
  refine (read_at (xs, er) HR.out rfl (ha.ext hb1) (by omega)).mono ?_
  rintro e w2 ⟨A2, k2, rfl, S2, hk2, B2⟩
  have hb2 := ext_trans hb1 B2
  go_wp2_with fail
  refine (withdraw_at (ys, ew) HI.out rfl (ha.ext hb2) (by omega)).mono ?_
  rintro e w3 ⟨A3, k3, rfl, S3, hk3, B3⟩
  have hb3 := ext_trans hb2 B3
  by_cases her : er = 0
  rotate_left
  · have her' : (er != 0) = true := by simp [her]
    clear her
    go_wp2_with fail
    go_ret
    exact ⟨rfl, hb3⟩
  subst her
  by_cases hew : ew = 0
  rotate_left
  · have hew' : (ew != 0) = true := by simp [hew]
    clear hew
    go_wp2_with fail
    go_ret
    exact ⟨rfl, hb3⟩
  subst hew
  clear hab'
  obtain ⟨i, x, rfl, hv, hx, hxw, _, hxs⟩ := change_ok (g := rdG) HR.out
  obtain ⟨j, y, rfl, _, hy, hyw, hgy, hys⟩ := change_ok (g := wdG) HI.out
  have hyr : y.rd = false := by
    cases h : y.rd
    · rfl
    · simp [wdG, h] at hgy
  have hij : i ≠ j := fun h => HAB.out (by rw [h])
  have hxs' : xs = l.set i { x with rd := true } := hxs
  have hys' : ys = l.set j { y with wd := true } := by rw [hys]; simp [wdG, hyr]
  have H1 := others1 hij hv hx hxw hy hyw hyr
  have H2 := others2 hij hv hx hxw hy hyr
  rw [← hxs'] at H1
  rw [← hys', ← hxs'] at H2
  have HH1 := Lib.hid H1
  have HH2 := Lib.hid H2
  have hxj : xs[j]? = some y := by rw [hxs', set_other (Ne.symm hij)]; exact hy
  have hyi : ys[i]? = some x := by rw [hys', set_other hij]; exact hx
  have HXJ := Lib.hid hxj
  have HYI := Lib.hid hyi
  have HX := Lib.hid hx
  have HY := Lib.hid hy
  have hil : i < l.length := (List.getElem?_eq_some_iff.1 hx).1
  have hjl : j < l.length := (List.getElem?_eq_some_iff.1 hy).1
  have hix : j < xs.length := (List.getElem?_eq_some_iff.1 hxj).1
  have hjy : i < ys.length := (List.getElem?_eq_some_iff.1 hyi).1
  clear hxs hys hxs' hys' H1 H2 hxj hyi hx hy hgy hv
  go_wp2_with fail
  refine (withdraw_at (xs.set j { y with wd := true }, 0) HH1.out rfl (S2.ext B3) (by omega)).mono ?_
  rintro e w4 ⟨A4, k4, rfl, S4, hk4, B4⟩
  have hb4 := ext_trans hb3 B4
  go_wp2_with fail
  refine (read_at (xs.set j { y with wd := true }, 0) HH2.out rfl (S3.ext B4) (by omega)).mono ?_
  rintro e w5 ⟨A5, k5, rfl, S5, hk5, B5⟩
  have hb5 := ext_trans hb4 B5
  have T2 := S2.ext (ext_trans (ext_trans B3 B4) B5)
  have T3 := S3.ext (ext_trans B4 B5)
  have TL := ha.ext hb5
  have S4e := S4.ext B5
  have S4' : ∀ n, Slc (w5.drewN n) Clr.cells 9 A4 (xs.set j { y with wd := true }) := fun _ => S4e
  have S5' : ∀ n, Slc (w5.drewN n) Clr.cells 9 A5 (xs.set j { y with wd := true }) := fun _ => S5
  go_wp2_with fail
  obtain ⟨y1, b1, o1, hy1, rfl, hbb1, hc1⟩ := T2.at_ hix
  obtain rfl : y = y1 := Option.some.inj (HXJ.out.symm.trans hy1)
  obtain ⟨p0, p1, p2, p3, p4, p5, p6, p7, p8⟩ := Clr.at9 hc1
  obtain ⟨y2, b2, o2, hy2, rfl, hbb2, hc2⟩ := TL.at_ hjl
  obtain rfl : y = y2 := Option.some.inj (HY.out.symm.trans hy2)
  obtain ⟨q0, q1, q2, q3, q4, q5, q6, q7, q8⟩ := Clr.at9 hc2
  obtain ⟨x1, b3, o3, hx1, rfl, hbb3, hc3⟩ := T3.at_ hjy
  obtain rfl : x = x1 := Option.some.inj (HYI.out.symm.trans hx1)
  obtain ⟨r0, r1, r2, r3, r4, r5, r6, r7, r8⟩ := Clr.at9 hc3
  obtain ⟨x2, b4, o4, hx2, e4, hbb4, hc4⟩ := TL.at_ hil
  cases e4
  obtain rfl : x = x2 := Option.some.inj (HX.out.symm.trans hx2)
  obtain ⟨t0, t1, t2, t3, t4, t5, t6, t7, t8⟩ := Clr.at9 hc4
  clear hc1 hc2 hc3 hc4 hy1 hy2 hx1 hx2
  have heq1 := fun w => run_eql31 x x w
  have heq2 := fun w => run_eql31 y y w
  simp only [decide_true] at heq1 heq2
  have hi1 : (i : Int) < l.length := by omega
  have hi2 : (j : Int) < l.length := by omega
  have hi3 : (j : Int) < xs.length := by omega
  have hi4 : (i : Int) < ys.length := by omega
  go_quiet ((go_at_call 16; exact Calls.quiet_of (sameq_at (a := xs.set j { y with wd := true }) (b := xs.set j { y with wd := true }) true (by simp) (by simp) (by simp) (S4' _) (S5' _) (by rw [List.length_set]; omega))))
  go_wp2_with fail
  go_ret
  exact ⟨rfl, ext_drewN hb5 _⟩
theorem walk9 (s : SliceOf Clr) (a b : Int) (w : World) (ok : SliceOf.ok Clr.cells 9 (fun _ _ => True) w s) :
    Calls Try.prog 9 #[.slice s.A s.l.length s.c, .int .i64 a, .int .i64 b] w fun e w' => e = .returned (.bool true) ∧ Below w.heap.size w w' :=
  law9 s.A s.c s.l a b w ok.1
end Go.Proofs.Ytjebmcbpiobbaaa
