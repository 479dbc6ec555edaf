import Derived.Test.YtjebmcbpiobbaaaQh
import Derived.Test.YtjebmcbpiobbaaaQ7
import Derived.Test.YtjebmcbpiobbaaaClrAt
namespace Go.Proofs.Ytjebmcbpiobbaaa
open Go.RowKit

theorem happens_at {A : Option Addr} {c : Nat} {l : List Clr} {v : Mv} {w : World} {n : Nat} (r : List Clr × Int) (hr : happen l v = r) (hl : n = l.length) (hv : v.wf) (ha : Slc w Clr.cells 9 A l) (hn : l.length < 1000000) (hc : l.length ≤ c) :
    Calls Try.prog 23 #[.slice A n c, v.v] w (RetL w r) := by
  subst hr hl; exact happens_any A c l v w hv ha hn hc
theorem Mv.at8 {w : World} {b o : Nat} {x : Mv} (h : ∀ j v, x.cells[j]? = some v → w.cell? ⟨b, o + j, none⟩ = some v) :
    w.cell? ⟨b, o, none⟩ = some (.int .u8 x.kind) ∧ w.cell? ⟨b, o + 1, none⟩ = some (.int .u8 x.fl) ∧ w.cell? ⟨b, o + 2, none⟩ = some (.int .u8 x.no) ∧ w.cell? ⟨b, o + 3, none⟩ = some (.int .i64 x.o.d) ∧ w.cell? ⟨b, o + 4, none⟩ = some (.int .i64 x.o.y) ∧ w.cell? ⟨b, o + 5, none⟩ = some (.int .i64 x.o.h) ∧ w.cell? ⟨b, o + 6, none⟩ = some (.bool x.o.c) ∧ w.cell? ⟨b, o + 7, none⟩ = some (.int .i64 x.m) :=
  ⟨h 0 _ rfl, h 1 _ rfl, h 2 _ rfl, h 3 _ rfl, h 4 _ rfl, h 5 _ rfl, h 6 _ rfl, h 7 _ rfl⟩
theorem zero3 (w : World) : (zeroValue 3).run Try.prog w = .ok (.int .i64 0) w := by kernel_rfl

set_option maxHeartbeats 8000000 in
set_option maxRecDepth 100000 in
theorem law5 (A : Option Addr) (c : Nat) (mv : List Mv) (w : World) (hwf : ∀ (i : Nat) (v : Mv), mv[i]? = some v → v.wf) (ha : Slc w Mv.cells 8 A mv) :
    Calls Try.prog 5 #[.slice A mv.length c] w (Tru w) := by
  have HWF := Lib.hid hwf
  have hmm := @run_makeMap Try.prog
  clear hwf
  go_enter Try.func5, Try.ntmps5
  go_wp2_with fail
  refine (sane_any _).mono ?_
  rintro e w1 ⟨rfl, hb1⟩
  by_cases h40 : 40 < mv.length
  · go_wp2_with fail
    go_ret
    exact ⟨rfl, hb1⟩
  go_wp2_with fail
  go_loopw [3, 23] (fun s i wr => ∃ (k : Nat) (A1 : Option Addr) (c1 : Nat) (l : List Clr), k ≤ mv.length ∧ i = .int .i64 k ∧ s = .slice A1 l.length c1 ∧ Slc wr Clr.cells 9 A1 l ∧ l.length ≤ c1 ∧ l.length ≤ k ∧ Hid (Valid l) ∧ Below w.heap.size w wr) (fun _ i _ => mv.length - (intOf i).toNat)
  case atStart => exact ⟨0, none, 0, [], Nat.zero_le _, rfl, rfl, Slc.nil, Nat.le_refl _, Nat.le_refl _, (fun i x h => by simp at h), hb1⟩
  case round =>
    obtain ⟨k, A1, c1, l, hk, rfl, rfl, hS, hlc, hlk, HV, hbe⟩ := hrel
    by_cases hlt : k < mv.length
    rotate_left
    · go_wp2_with fail
      go_ret
      exact ⟨rfl, hbe⟩
    obtain ⟨v, b0, o0, hv, rfl, hb0, hcv⟩ := (ha.ext hbe).at_ hlt
    have hvw := Lib.hid (HWF.out k v hv)
    obtain ⟨v0, v1, v2, v3, v4, v5, v6, v7⟩ := Mv.at8 hcv
    have hlt' : (k : Int) < mv.length := by omega
    obtain ⟨⟨xs, er⟩, hh⟩ : ∃ r, happen l v = r := ⟨_, rfl⟩
    have HH := Lib.hid hh
    clear hh hv hcv
    go_wp2_with fail
    refine (happens_at (xs, er) HH.out rfl hvw.out (hS.alloc _) (by omega) hlc).mono ?_
    rintro e w2 ⟨A2, c2, rfl, S2, hc2, B2⟩
    have hB2 : Below wr.heap.size wr w2 := ext_trans (ext_alloc (ext_refl wr) _) B2
    clear B2 v0 v1 v2 v3 v4 v5 v6 v7
    by_cases her : er = 0
    rotate_left
    · have hxs := happen_err HH.out her
      subst hxs
      have her' : (er != 0) = true := by simp [her]
      clear her
      go_wp2_with fail
      go_roundw
      case rel => exact ⟨k + 1, A1, c1, l, hlt, by go_num, rfl, hS.ext hB2, hlc, by omega, HV, ext_trans hbe hB2⟩
      case measure => simp [intOf]; omega
    subst her
    have HK := Lib.hid (happen_kept HH.out)
    have hlo : l.length ≤ xs.length := HK.out.lo
    have hhi : xs.length ≤ l.length + 1 := HK.out.hi
    have hdl : decide (xs.length < l.length) = false := decide_eq_false (by omega)
    have hdl2 : decide ((l.length : Int) + 1 < (xs.length : Int)) = false := decide_eq_false (by omega)
    go_wp2_with fail
    refine (check_at 0 (chkE_0 ((chk_iff _).2 HK.out.valid)) rfl S2 (by omega)).mono ?_
    rintro e w3 ⟨rfl, B3⟩
    have S3 := S2.ext B3
    have L3 := (hS.ext hB2).ext B3
    have hb3 := ext_trans (ext_trans hbe hB2) B3
    clear S2 B3 hB2 hS
    go_wp2_with fail
    have hS3a : ∀ (W : World), Below w3.heap.size w3 W → Slc W Clr.cells 9 A2 xs := fun W h => S3.ext h
    have hL3a : ∀ (W : World), Below w3.heap.size w3 W → Slc W Clr.cells 9 A1 l := fun W h => L3.ext h
    have HS := Lib.hid hS3a
    have HL := Lib.hid hL3a
    clear hS3a hL3a S3 L3
    obtain ⟨wo, hwo⟩ : ∃ wo : World, wo = wr := ⟨_, rfl⟩
    clear hwo
    go_loopw [58] (fun i W => ∃ q : Nat, q ≤ l.length ∧ i = .int .i64 q ∧ Below w3.heap.size w3 W) (fun i _ => l.length - (intOf i).toNat)
    case atStart => exact ⟨0, Nat.zero_le _, rfl, ext_refl _⟩
    case round =>
      obtain ⟨q, hq, rfl, hbq⟩ := hrel
      by_cases hql : q < l.length
      · obtain ⟨x, b1, o1, hx, rfl, hbb1, hc1⟩ := (HL.out _ hbq).at_ hql
        obtain ⟨⟨dno, dfl, diss, dop, drd, dwd⟩, hd, ht⟩ := HK.out.turn q x hx
        obtain ⟨d', b2, o2, hd', rfl, hbb2, hc2⟩ := (HS.out _ hbq).at_ (show q < xs.length by omega)
        obtain rfl := Option.some.inj (hd.symm.trans hd')
        obtain ⟨t1, t2, t3, t4, t5, t6⟩ := ht
        simp only at t1 t2 t3 t4 t5 t6
        subst t1 t2 t3 t4
        have hrw := (HV.out q x hx).rw_
        obtain ⟨c0, c1', c2', c3, c4, c5, c6, c7, c8⟩ := Clr.at9 hc1
        obtain ⟨d0, d1, d2, d3, d4, d5, d6, d7, d8⟩ := Clr.at9 hc2
        clear hc1 hc2 hd hd' hx
        have hi1 : (q : Int) < l.length := by omega
        have hi2 : (q : Int) < xs.length := by omega
        have hne := fun w => run_neq24 x.o x.o w
        simp only [decide_true, Bool.not_true] at hne
        have hcas : (x.rd = false ∧ x.wd = false) ∨ (x.rd = true ∧ x.wd = false ∧ drd = true ∧ dwd = false) ∨ (x.rd = false ∧ x.wd = true ∧ dwd = true) := by
          cases h1 : x.rd <;> cases h2 : x.wd
          · exact .inl ⟨rfl, rfl⟩
          · exact .inr (.inr ⟨rfl, rfl, t6 h2⟩)
          · exact .inr (.inl ⟨rfl, rfl, t5 h1⟩)
          · simp [h1, h2] at hrw
        clear t5 t6 hrw
        rcases hcas with ⟨h1, h2⟩ | ⟨h1, h2, rfl, rfl⟩ | ⟨h1, h2, rfl⟩
        all_goals
          go_wp2_with fail
          go_roundw
          case rel => exact ⟨q + 1, hql, by go_num, ext_alloc (ext_alloc hbq _) _⟩
          case measure => simp [intOf]; omega
      · go_wp2_with fail
        obtain ⟨w4, rfl⟩ : ∃ w4 : World, w4 = wr := ⟨_, rfl⟩
        go_loopw [119] (fun i W => ∃ (q : Nat) (f : Int → Int), q ≤ xs.length ∧ i = .int .i64 q ∧ Hid (∀ j, f j = cnt xs q j) ∧ NMap Try.prog 3 3 W w4.heap.size q f ∧ Below w4.heap.size w4 W) (fun i _ => xs.length - (intOf i).toNat)
        case atStart => exact ⟨0, fun _ => 0, Nat.zero_le _, rfl, (fun j => by simp [cnt]), NMap.made _, ext_alloc (ext_refl _) _⟩
        case round =>
          obtain ⟨p, f, hp, rfl, HF, hM, hbp⟩ := hrel
          by_cases hpl : p < xs.length
          · obtain ⟨x, b1, o1, hx, rfl, hbb1, hc1⟩ := (HS.out _ (ext_trans hbq hbp)).at_ hpl
            have gx := HK.out.valid p x hx
            have hwfx : (Lit.int .i64 x.fl).wf = true := WalkArith.wf_i64 (by have := gx.fl0; have := gx.fl1; omega)
            obtain ⟨c0, c1', c2', c3, c4, c5, c6, c7, c8⟩ := Clr.at9 hc1
            have hcl := cnt_le HK.out.valid x.fl p (by omega)
            have hcl1 := cnt_le HK.out.valid x.fl (p + 1) (by omega)
            have hrw := gx.rw_
            have HX := Lib.hid hx
            have hi2 : (p : Int) < xs.length := by omega
            have hw4 : w4.heap.size < wr.heap.size := hM.lt
            clear hc1 hx gx
            have hcas : (x.rd = false ∧ x.wd = false) ∨ (x.rd = true ∧ x.wd = false) ∨ (x.rd = false ∧ x.wd = true) := by
              cases h1 : x.rd <;> cases h2 : x.wd <;> simp [h1, h2] at hrw ⊢
            rcases hcas with ⟨hr, hw⟩ | ⟨hr, hw⟩ | ⟨hr, hw⟩
            rotate_left
            rotate_left
            · have hf1 : f x.fl ≤ 1 := by rw [HF.out]; exact hcl.2.1
              have hd1 : decide (1 < f x.fl) = false := decide_eq_false (by omega)
              have HSTEP : Hid (∀ j, f j = cnt xs (p + 1) j) := fun j => by rw [cnt_step HX.out, HF.out, if_neg (by simp [hw])]; simp
              clear hcl hcl1 hf1 hrw
              obtain ⟨⟨ci, bi⟩, hci⟩ : ∃ r, inForce xs x.fl = r := ⟨_, rfl⟩
              have HCI := Lib.hid hci
              clear hci
              go_wp2_with fail
              refine (inForce_at (ci, bi) HCI.out rfl ((HS.out _ (ext_trans hbq hbp)).alloc _) (by omega)).mono ?_
              rintro e w6 ⟨rfl, B6⟩
              have N6 := ClrAt.new' wr w6 x B6 hr hw
              obtain ⟨n0, n1, n2, n3, n4, n5, n6, n7, n8⟩ := N6.all
              have B6' := ext_trans (ext_alloc (ext_refl wr) _) B6
              have s6 : wr.heap.size < w6.heap.size := by have := B6.size; simp at this; omega
              have hM6 := hM.ext B6'
              have hlk := fun o => (hM6.ext (ext_alloc (ext_refl w6) o)).look Try.underlying3 Try.underlying43 Try.underlying3 (zero3 _) x.fl hwfx
              clear B6
              go_wp2_with fail
              go_roundw
              case rel => exact ⟨p + 1, f, hpl, by go_num, HSTEP, (hM6.ext (ext_alloc (ext_refl w6) _)).mono_ (Nat.le_succ _), ext_alloc (ext_trans hbp B6') _⟩
              case measure => simp [intOf]; omega
            all_goals
              have hcs := cnt_step HX.out x.fl
              rw [if_pos ⟨rfl, hw⟩] at hcs
              have hf0 : f x.fl = 0 := by rw [HF.out]; omega
              have HSTEP : Hid (∀ j, (if j = x.fl then 1 else f j) = cnt xs (p + 1) j) := fun j => by
                rw [cnt_step HX.out, ← HF.out]
                by_cases hj : j = x.fl
                · subst hj; rw [if_pos rfl, if_pos ⟨rfl, hw⟩, hf0]; rfl
                · rw [if_neg hj, if_neg (fun h => hj h.1.symm)]; simp
              clear hcl hcl1 hrw hcs
              have HIF := Lib.hid (inForce_is HK.out.valid HX.out hw)
              have hlk0 := fun o => (hM.ext (ext_alloc (ext_refl wr) o)).look Try.underlying3 Try.underlying43 Try.underlying3 (zero3 _) x.fl hwfx
              rw [hf0] at hlk0
              have hM1 := hM.ext (ext_alloc (ext_refl wr) (.cells #[.int .i64 x.no, .int .i64 x.fl, .int .i64 x.iss, .int .i64 x.o.d, .int .i64 x.o.y, .int .i64 x.o.h, .bool x.o.c, .bool x.rd, .bool x.wd] 31))
              obtain ⟨w5, hput, hM5, hg5⟩ := hM1.put Try.underlying3 Try.underlying43 Try.underlying3 (by unfold maxLen; omega) x.fl 1 hwfx (by decide)
              have N1 := clrAt_alloc wr x
              have N5 := N1.grown hg5 (by simp) (by simp; omega)
              have B5 : Below w4.heap.size w4 w5 := (ext_alloc hbp _).grown hg5 (Nat.le_trans hbp.size (le1 wr _)) (fun j e => by cases e; exact Nat.le_refl _)
              have s5 : wr.heap.size < w5.heap.size := Nat.lt_of_lt_of_le (by simp) hg5.size
              rw [hr, hw] at hput
              have HF0 := Lib.hid hf0
              have m1 := N5 1 _ rfl
              clear hg5 hM1 N1 hf0
              go_wp2_with fail
              refine (inForce_at (x, true) HIF.out rfl (HS.out _ (ext_trans hbq B5)) (by omega)).mono ?_
              rintro e w6 ⟨rfl, B6⟩
              have N6 := N5.ext s5 B6
              obtain ⟨n0, n1, n2, n3, n4, n5, n6, n7, n8⟩ := N6.all
              have s6 : wr.heap.size < w6.heap.size := Nat.lt_of_lt_of_le s5 B6.size
              have hM6 := hM5.ext B6
              have hlk := fun o => (hM6.ext (ext_alloc (ext_refl w6) o)).look Try.underlying3 Try.underlying43 Try.underlying3 (zero3 _) x.fl hwfx
              simp only [if_true] at hlk
              have hne := fun w => run_neq31 x x w
              simp only [decide_true, Bool.not_true] at hne
              rw [show x.v = .agg #[.int .i64 x.no, .int .i64 x.fl, .int .i64 x.iss, .int .i64 x.o.d, .int .i64 x.o.y, .int .i64 x.o.h, .bool x.o.c, .bool x.rd, .bool x.wd] from rfl, hr, hw] at hne
              clear hput hlk0 m1
              go_wp2_with fail
              go_roundw
              case rel => exact ⟨p + 1, _, hpl, by go_num, HSTEP, hM6.ext (ext_alloc (ext_refl w6) _), ext_alloc (ext_trans B5 B6) _⟩
              case measure => simp [intOf]; omega
          · go_wp2_with fail
            go_roundw
            case rel => exact ⟨k + 1, A2, c2, xs, hlt, by go_num, rfl, HS.out _ (ext_trans hbq hbp), hc2, by omega, HK.out.valid, ext_trans hb3 (ext_trans hbq hbp)⟩
            case measure => simp [intOf]; omega
theorem walk5 (s : SliceOf Mv) (w : World) (ok : SliceOf.ok Mv.cells 8 (fun _ v => v.wf) w s) :
    Calls Try.prog 5 #[.slice s.A s.l.length s.c] w fun e w' => e = .returned (.bool true) ∧ Below w.heap.size w w' :=
  law5 s.A s.c s.l w (fun _ v hv => ok.2.2.2.2 v (List.mem_of_getElem? hv)) ok.1
end Go.Proofs.Ytjebmcbpiobbaaa
