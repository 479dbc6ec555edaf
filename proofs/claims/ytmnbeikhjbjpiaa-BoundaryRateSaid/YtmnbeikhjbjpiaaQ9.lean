/- BoundaryRate, walked. -/
import Derived.Test.YtmnbeikhjbjpiaaQ0
set_option linter.unusedSimpArgs false
set_option linter.unusedVariables false
namespace Go.Proofs.Ytmnbeikhjbjpiaa
open Go.RowKit
def later2 (x a : Ag) : Bool := decide (a.m < x.m) || (decide (x.m = a.m) && decide (a.no < x.no))
def hit (f t m : Int) (a x : Ag) : Bool := cnt f t m x && later2 x a
def lastB (f t m : Int) (l : List Ag) (a : Ag) : Bool := !(l.any (hit f t m a))
def metB (f t m r : Int) (l : List Ag) (a : Ag) : Bool := cnt f t m a && (lastB f t m l a && decide (a.r = r))
theorem anyT {l : List Ag} {k : Nat} {x : Ag} (p : Ag → Bool) (hx : l[k]? = some x) : (l.take (k + 1)).any p = ((l.take k).any p || p x) := by
  rw [List.take_add_one, hx, Option.toList_some, List.any_append]; simp
theorem rate_law {l : List Ag} {f t m : Int} {o : Option Ag} (h : rateL l f t m = o) : l.any (cnt f t m) = o.isSome ∧ l.any (metB f t m (rateV o) l) = o.isSome ∧ (o.isSome = false → rateV o = 0) := by
  refine ⟨by rw [← h, rate_isSome], ?_, fun hn => by cases o with | none => rfl | some _ => cases hn⟩
  cases o with
  | none =>
    have h1 : l.any (cnt f t m) = false := by rw [← rate_isSome, h]; rfl
    rw [List.any_eq_false] at h1
    show l.any _ = false
    rw [List.any_eq_false]
    intro x hx
    have := h1 x hx
    unfold metB; simp only [Bool.not_eq_true] at this; rw [this]; simp
  | some b =>
    obtain ⟨h1, h2, h3⟩ := rate_best h
    show l.any _ = true
    rw [List.any_eq_true]
    refine ⟨b, h1, ?_⟩
    unfold metB
    rw [h2, Bool.true_and, Bool.and_eq_true]
    refine ⟨?_, by simp [rateV]⟩
    unfold lastB
    rw [Bool.not_eq_true', List.any_eq_false]
    intro x hx
    unfold hit later2
    by_cases hc : cnt f t m x = true
    · have := h3 x hx hc
      rw [hc]
      simp only [Bool.true_and, Bool.or_eq_true, Bool.and_eq_true, decide_eq_true_eq]
      exact this
    · simp only [Bool.not_eq_true] at hc; rw [hc]; simp
theorem rateV_isSome {o : Option Ag} : o.isSome = true ∨ rateV o = 0 := by cases o <;> simp [rateV]
set_option maxHeartbeats 3200000 in
set_option maxRecDepth 100000 in
theorem law9 (b : Bd) (f t m : Int) (w : World) (hb : BOk w b) : Calls Try.prog 9 #[b.v, .int .i64 f, .int .i64 t, .int .i64 m] w (Tru w) := by
  obtain ⟨fw, hfw⟩ : ∃ v, fewB b.bl = v := ⟨_, rfl⟩
  have HF := Lib.hid hfw
  clear hfw
  obtain ⟨ok, hok⟩ : ∃ v, b.bl.ok = v := ⟨_, rfl⟩
  have HV := Lib.hid hok
  clear hok
  cases fw
  · have E := Lib.hid (ext_refl w)
    have HB := Lib.hid (hb)
    clear hb
    replace E := Lib.hid (ext_alloc E.out (.cells #[.int .i64 b.own, .int .i64 b.ot, .slice b.ag.A b.ag.l.length b.ag.c, .slice b.op.A b.op.l.length b.op.c] 24))
    replace HB := Lib.hid (HB.out.alloc (.cells #[.int .i64 b.own, .int .i64 b.ot, .slice b.ag.A b.ag.l.length b.ag.c, .slice b.op.A b.op.l.length b.op.c] 24))
    have BB := Lib.hid (Blk.newH w [.int .i64 b.own, .int .i64 b.ot, .slice b.ag.A b.ag.l.length b.ag.c, .slice b.op.A b.op.l.length b.op.c] 24 (w.heap.size) (by first | rfl | simp))
    go_enter Try.func9, Try.ntmps9
    go_wp2_with fail
    refine (sane_any _).mono ?_
    rintro e v1 ⟨rfl, B⟩
    replace E := Lib.hid (ext_trans E.out B)
    replace HB := Lib.hid (HB.out.ext B)
    replace BB := Lib.hid (BB.out.ext B)
    clear B
    have c0 := BB.out.c 0 _ rfl
    have c1 := BB.out.c 1 _ rfl
    have c2 := BB.out.c 2 _ rfl
    have c3 := BB.out.c 3 _ rfl
    go_wp2_with fail
    refine (few_at false HF.out).mono ?_
    rintro e v2 ⟨rfl, B⟩
    clear c0 c1 c2 c3
    replace E := Lib.hid (ext_trans E.out B)
    replace HB := Lib.hid (HB.out.ext B)
    replace BB := Lib.hid (BB.out.ext B)
    clear B
    go_wp2_with fail
    go_ret
    exact ⟨rfl, E.out⟩
  cases ok
  · have E := Lib.hid (ext_refl w)
    have HB := Lib.hid (hb)
    clear hb
    replace E := Lib.hid (ext_alloc E.out (.cells #[.int .i64 b.own, .int .i64 b.ot, .slice b.ag.A b.ag.l.length b.ag.c, .slice b.op.A b.op.l.length b.op.c] 24))
    replace HB := Lib.hid (HB.out.alloc (.cells #[.int .i64 b.own, .int .i64 b.ot, .slice b.ag.A b.ag.l.length b.ag.c, .slice b.op.A b.op.l.length b.op.c] 24))
    have BB := Lib.hid (Blk.newH w [.int .i64 b.own, .int .i64 b.ot, .slice b.ag.A b.ag.l.length b.ag.c, .slice b.op.A b.op.l.length b.op.c] 24 (w.heap.size) (by first | rfl | simp))
    go_enter Try.func9, Try.ntmps9
    go_wp2_with fail
    refine (sane_any _).mono ?_
    rintro e v1 ⟨rfl, B⟩
    replace E := Lib.hid (ext_trans E.out B)
    replace HB := Lib.hid (HB.out.ext B)
    replace BB := Lib.hid (BB.out.ext B)
    clear B
    have c0 := BB.out.c 0 _ rfl
    have c1 := BB.out.c 1 _ rfl
    have c2 := BB.out.c 2 _ rfl
    have c3 := BB.out.c 3 _ rfl
    go_wp2_with fail
    refine (few_at true HF.out).mono ?_
    rintro e v2 ⟨rfl, B⟩
    clear c0 c1 c2 c3
    replace E := Lib.hid (ext_trans E.out B)
    replace HB := Lib.hid (HB.out.ext B)
    replace BB := Lib.hid (BB.out.ext B)
    clear B
    have c0 := BB.out.c 0 _ rfl
    have c1 := BB.out.c 1 _ rfl
    have c2 := BB.out.c 2 _ rfl
    have c3 := BB.out.c 3 _ rfl
    go_wp2_with fail
    refine (check_at 480 (by unfold Bl.chk; rw [HV.out]; rfl) HB.out).mono ?_
    rintro e v3 ⟨rfl, B⟩
    clear c0 c1 c2 c3
    replace E := Lib.hid (ext_trans E.out B)
    replace HB := Lib.hid (HB.out.ext B)
    replace BB := Lib.hid (BB.out.ext B)
    clear B
    go_wp2_with fail
    go_ret
    exact ⟨rfl, E.out⟩
  have E := Lib.hid (ext_refl w)
  have HB := Lib.hid (hb)
  clear hb
  replace E := Lib.hid (ext_alloc E.out (.cells #[.int .i64 b.own, .int .i64 b.ot, .slice b.ag.A b.ag.l.length b.ag.c, .slice b.op.A b.op.l.length b.op.c] 24))
  replace HB := Lib.hid (HB.out.alloc (.cells #[.int .i64 b.own, .int .i64 b.ot, .slice b.ag.A b.ag.l.length b.ag.c, .slice b.op.A b.op.l.length b.op.c] 24))
  have BB := Lib.hid (Blk.newH w [.int .i64 b.own, .int .i64 b.ot, .slice b.ag.A b.ag.l.length b.ag.c, .slice b.op.A b.op.l.length b.op.c] 24 (w.heap.size) (by first | rfl | simp))
  have hfl := (LenS.few HF.out).1
  have hfl : b.ag.l.length ≤ 30 := hfl
  obtain ⟨o, ho⟩ : ∃ o, rateL b.ag.l f t m = o := ⟨_, rfl⟩
  have HO := Lib.hid ho
  obtain ⟨r, hr⟩ : ∃ r, rateV o = r := ⟨_, rfl⟩
  obtain ⟨os, hos⟩ : ∃ s, o.isSome = s := ⟨_, rfl⟩
  have HLAW := Lib.hid (show b.ag.l.any (cnt f t m) = os ∧ b.ag.l.any (metB f t m r b.ag.l) = os ∧ (os = false → r = 0) by have := rate_law ho; rw [hr, hos] at this; exact this)
  have HOS := Lib.hid (show _ ∧ _ from ⟨hr, hos⟩)
  clear ho hr hos
  go_enter Try.func9, Try.ntmps9
  go_wp2_with fail
  refine (sane_any _).mono ?_
  rintro e v1 ⟨rfl, B⟩
  replace E := Lib.hid (ext_trans E.out B)
  replace HB := Lib.hid (HB.out.ext B)
  replace BB := Lib.hid (BB.out.ext B)
  clear B
  have c0 := BB.out.c 0 _ rfl
  have c1 := BB.out.c 1 _ rfl
  have c2 := BB.out.c 2 _ rfl
  have c3 := BB.out.c 3 _ rfl
  go_wp2_with fail
  refine (few_at true HF.out).mono ?_
  rintro e v2 ⟨rfl, B⟩
  clear c0 c1 c2 c3
  replace E := Lib.hid (ext_trans E.out B)
  replace HB := Lib.hid (HB.out.ext B)
  replace BB := Lib.hid (BB.out.ext B)
  clear B
  have c0 := BB.out.c 0 _ rfl
  have c1 := BB.out.c 1 _ rfl
  have c2 := BB.out.c 2 _ rfl
  have c3 := BB.out.c 3 _ rfl
  go_wp2_with fail
  refine (check_at 0 (by unfold Bl.chk; rw [HV.out]; rfl) HB.out).mono ?_
  rintro e v3 ⟨rfl, B⟩
  clear c0 c1 c2 c3
  replace E := Lib.hid (ext_trans E.out B)
  replace HB := Lib.hid (HB.out.ext B)
  replace BB := Lib.hid (BB.out.ext B)
  clear B
  have c0 := BB.out.c 0 _ rfl
  have c1 := BB.out.c 1 _ rfl
  have c2 := BB.out.c 2 _ rfl
  have c3 := BB.out.c 3 _ rfl
  go_wp2_with fail
  refine (rate_at (b := b) (f := f) (t := t) (m := m) o HO.out HB.out.ag (maxLen_of HB.out.agl HB.out.agc)).mono ?_
  rintro e v4 ⟨he, B⟩
  clear c0 c1 c2 c3
  replace E := Lib.hid (ext_trans E.out B)
  replace HB := Lib.hid (HB.out.ext B)
  replace BB := Lib.hid (BB.out.ext B)
  clear B
  rw [HOS.out.1, HOS.out.2] at he
  subst he
  have c0 := BB.out.c 2 _ rfl
  go_wp2_with fail
  go_loopw [11, 12, 39] (fun v1 v2 i wr => ∃ k : Nat, k ≤ b.ag.l.length ∧ i = .int .i64 k ∧ v1 = .bool ((b.ag.l.take k).any (metB f t m r b.ag.l)) ∧ v2 = .bool ((b.ag.l.take k).any (cnt f t m)) ∧ Hid (Blk wr (w.heap.size) [.int .i64 b.own, .int .i64 b.ot, .slice b.ag.A b.ag.l.length b.ag.c, .slice b.op.A b.op.l.length b.op.c]) ∧ Hid (BOk wr b) ∧ Hid (Below w.heap.size w wr)) (fun _ _ i _ => b.ag.l.length - (intOf i).toNat)
  case atStart => exact ⟨0, Nat.zero_le _, rfl, rfl, rfl, BB.out, HB.out, E.out⟩
  clear BB HB E c0
  case round =>
    obtain ⟨k, hk, rfl, rfl, rfl, BB, HB, E⟩ := hrel
    obtain ⟨mt, hmt⟩ : ∃ v, (b.ag.l.take k).any (metB f t m r b.ag.l) = v := ⟨_, rfl⟩
    obtain ⟨an, han⟩ : ∃ v, (b.ag.l.take k).any (cnt f t m) = v := ⟨_, rfl⟩
    have HMT := Lib.hid hmt
    have HAN := Lib.hid han
    rw [hmt, han]
    clear hmt han
    by_cases hlt : k < b.ag.l.length
    rotate_left
    · have hge : ¬ (k : Int) < b.ag.l.length := by omega
      have HL := HLAW.out
      have hm1 := HMT.out
      have ha1 := HAN.out
      rw [List.take_of_length_le (by omega)] at hm1 ha1
      obtain rfl : os = an := HL.1.symm.trans ha1
      obtain rfl : mt = os := hm1.symm.trans HL.2.1
      have HR0 := Lib.hid HL.2.2
      clear HL hm1 ha1
      cases mt
      · have hr0 : (r == 0) = true := by simpa using HR0.out rfl
        go_wp2_with fail
        go_ret
        exact ⟨rfl, E.out⟩
      · go_wp2_with fail
        go_ret
        exact ⟨rfl, E.out⟩
    obtain ⟨a, b1, o1, hx, hA, hb1, hd⟩ := HB.out.ag.at_ hlt
    have c0 := hd 0 _ rfl
    have c1 := hd 1 _ rfl
    have c2 := hd 2 _ rfl
    have c3 := hd 3 _ rfl
    have c4 := hd 4 _ rfl
    simp only [Nat.add_zero] at c0
    have hlt' : (k : Int) < b.ag.l.length := by omega
    have SL := Lib.hid HB.out.ag
    have HM1 := Lib.hid (anyT (metB f t m r b.ag.l) hx)
    have HA1 := Lib.hid (anyT (cnt f t m) hx)
    rw [HMT.out] at HM1
    rw [HAN.out] at HA1
    obtain ⟨sA, hsA⟩ : ∃ sA, b.ag.A = sA := ⟨_, rfl⟩
    rw [hsA] at hA
    subst hA
    simp only [hsA] at *
    clear hd hx
    rename_i K2 a2
    have HC := Lib.hid (show cnt f t m a = (decide (a.f = f) && decide (a.t = t) && decide (a.m ≤ m)) from rfl)
    by_cases h1 : a.f = f
    rotate_left
    · clear a2
      have e1 : (a.f != f) = true := by simpa using h1
      have HCF := Lib.hid (show cnt f t m a = false by rw [HC.out, decide_eq_false h1]; simp)
      have HM2 := Lib.hid (show (b.ag.l.take (k + 1)).any (metB f t m r b.ag.l) = mt by rw [HM1.out]; unfold metB; rw [HCF.out]; simp)
      have HA2 := Lib.hid (show (b.ag.l.take (k + 1)).any (cnt f t m) = an by rw [HA1.out, HCF.out]; simp)
      clear h1
      replace E := Lib.hid (ext_alloc E.out (.cells #[.int .i64 a.no, .int .i64 a.f, .int .i64 a.t, .int .i64 a.m, .int .i64 a.r] 26))
      replace HB := Lib.hid (HB.out.alloc (.cells #[.int .i64 a.no, .int .i64 a.f, .int .i64 a.t, .int .i64 a.m, .int .i64 a.r] 26))
      replace BB := Lib.hid (BB.out.alloc (.cells #[.int .i64 a.no, .int .i64 a.f, .int .i64 a.t, .int .i64 a.m, .int .i64 a.r] 26))
      go_wp2_with fail
      go_roundw
      case rel => exact ⟨k + 1, hlt, by go_num, by rw [HM2.out], by rw [HA2.out], BB.out, HB.out, E.out⟩
      case measure => simp [intOf]; omega
    have e1 : (a.f != f) = false := by simpa using h1
    have HH1 := Lib.hid h1
    clear h1
    by_cases h2 : a.t = t
    rotate_left
    · clear a2
      have e2 : (a.t != t) = true := by simpa using h2
      have HCF := Lib.hid (show cnt f t m a = false by rw [HC.out, decide_eq_false h2]; simp)
      have HM2 := Lib.hid (show (b.ag.l.take (k + 1)).any (metB f t m r b.ag.l) = mt by rw [HM1.out]; unfold metB; rw [HCF.out]; simp)
      have HA2 := Lib.hid (show (b.ag.l.take (k + 1)).any (cnt f t m) = an by rw [HA1.out, HCF.out]; simp)
      clear h2
      replace E := Lib.hid (ext_alloc E.out (.cells #[.int .i64 a.no, .int .i64 a.f, .int .i64 a.t, .int .i64 a.m, .int .i64 a.r] 26))
      replace HB := Lib.hid (HB.out.alloc (.cells #[.int .i64 a.no, .int .i64 a.f, .int .i64 a.t, .int .i64 a.m, .int .i64 a.r] 26))
      replace BB := Lib.hid (BB.out.alloc (.cells #[.int .i64 a.no, .int .i64 a.f, .int .i64 a.t, .int .i64 a.m, .int .i64 a.r] 26))
      go_wp2_with fail
      go_roundw
      case rel => exact ⟨k + 1, hlt, by go_num, by rw [HM2.out], by rw [HA2.out], BB.out, HB.out, E.out⟩
      case measure => simp [intOf]; omega
    have e2 : (a.t != t) = false := by simpa using h2
    have HH2 := Lib.hid h2
    clear h2
    by_cases h3 : a.m ≤ m
    rotate_left
    · clear a2
      have e3 : decide (m < a.m) = true := by simp; omega
      have HCF := Lib.hid (show cnt f t m a = false by rw [HC.out, decide_eq_false h3]; simp)
      have HM2 := Lib.hid (show (b.ag.l.take (k + 1)).any (metB f t m r b.ag.l) = mt by rw [HM1.out]; unfold metB; rw [HCF.out]; simp)
      have HA2 := Lib.hid (show (b.ag.l.take (k + 1)).any (cnt f t m) = an by rw [HA1.out, HCF.out]; simp)
      clear h3
      replace E := Lib.hid (ext_alloc E.out (.cells #[.int .i64 a.no, .int .i64 a.f, .int .i64 a.t, .int .i64 a.m, .int .i64 a.r] 26))
      replace HB := Lib.hid (HB.out.alloc (.cells #[.int .i64 a.no, .int .i64 a.f, .int .i64 a.t, .int .i64 a.m, .int .i64 a.r] 26))
      replace BB := Lib.hid (BB.out.alloc (.cells #[.int .i64 a.no, .int .i64 a.f, .int .i64 a.t, .int .i64 a.m, .int .i64 a.r] 26))
      go_wp2_with fail
      go_roundw
      case rel => exact ⟨k + 1, hlt, by go_num, by rw [HM2.out], by rw [HA2.out], BB.out, HB.out, E.out⟩
      case measure => simp [intOf]; omega
    have e3 : decide (m < a.m) = false := by simp; omega
    have HCT := Lib.hid (show cnt f t m a = true by rw [HC.out, decide_eq_true HH1.out, decide_eq_true HH2.out, decide_eq_true h3]; rfl)
    have HA2 := Lib.hid (show (b.ag.l.take (k + 1)).any (cnt f t m) = true by rw [HA1.out, HCT.out]; simp)
    have HM2 := Lib.hid (show (b.ag.l.take (k + 1)).any (metB f t m r b.ag.l) = (mt || (lastB f t m b.ag.l a && decide (a.r = r))) by rw [HM1.out]; unfold metB; rw [HCT.out, Bool.true_and])
    clear HH1 HH2 h3
    have bb2 := BB.out.c 2 _ rfl
    have bbl := BB.out.lt
    replace BB := Lib.hid (BB.out.alloc (.cells #[.int .i64 a.no, .int .i64 a.f, .int .i64 a.t, .int .i64 a.m, .int .i64 a.r] 26))
    replace HB := Lib.hid (HB.out.alloc (.cells #[.int .i64 a.no, .int .i64 a.f, .int .i64 a.t, .int .i64 a.m, .int .i64 a.r] 26))
    replace E := Lib.hid (ext_alloc E.out (.cells #[.int .i64 a.no, .int .i64 a.f, .int .i64 a.t, .int .i64 a.m, .int .i64 a.r] 26))
    replace SL := Lib.hid (SL.out.alloc (.cells #[.int .i64 a.no, .int .i64 a.f, .int .i64 a.t, .int .i64 a.m, .int .i64 a.r] 26))
    have AX := Lib.hid (Blk.newH wr [.int .i64 a.no, .int .i64 a.f, .int .i64 a.t, .int .i64 a.m, .int .i64 a.r] 26 (wr.heap.size) (by first | rfl | simp))
    go_wp2_with fail
    clear c0 c1 c2 c3 c4 bb2 bbl e1 e2 e3 HM1 HA1 HC HCT
    obtain ⟨wo, hNwo⟩ : ∃ W0, W0 = (wr.alloc (.cells #[.int .i64 a.no, .int .i64 a.f, .int .i64 a.t, .int .i64 a.m, .int .i64 a.r] 26)) := ⟨_, rfl⟩
    rw [← hNwo] at BB HB E SL AX ⊢
    clear hNwo
    go_loopw [15, 62] (fun v i wr => ∃ j : Nat, j ≤ b.ag.l.length ∧ i = .int .i64 j ∧ v = .bool (!((b.ag.l.take j).any (hit f t m a))) ∧ Hid (Below wo.heap.size wo wr)) (fun _ i _ => b.ag.l.length - (intOf i).toNat)
    case atStart => exact ⟨0, Nat.zero_le _, rfl, rfl, ext_refl wo⟩
    case round =>
      obtain ⟨j, hj, rfl, rfl, EJ⟩ := hrel
      obtain ⟨la, hla⟩ : ∃ v, (!((b.ag.l.take j).any (hit f t m a))) = v := ⟨_, rfl⟩
      have HLA := Lib.hid hla
      rw [hla]
      clear hla
      replace BB := Lib.hid (BB.out.ext EJ.out)
      replace AX := Lib.hid (AX.out.ext EJ.out)
      replace SL := Lib.hid (SL.out.ext EJ.out)
      by_cases hjl : j < b.ag.l.length
      rotate_left
      · have hge : ¬ (j : Int) < b.ag.l.length := by omega
        have HZ := Lib.hid (show lastB f t m b.ag.l a = la by rw [← HLA.out]; unfold lastB; rw [List.take_of_length_le (by omega)])
        have HM3 := Lib.hid (show (b.ag.l.take (k + 1)).any (metB f t m r b.ag.l) = (mt || (la && decide (a.r = r))) by rw [HM2.out, HZ.out])
        have x4 := AX.out.c 4 _ rfl
        have E9 := Lib.hid (ext_trans E.out EJ.out)
        have HB9 := Lib.hid (HB.out.ext EJ.out)
        clear E HB HM2 hge
        have hge : ¬ (j : Int) < b.ag.l.length := by omega
        cases mt
        rotate_left
        · go_wp2_with fail
          go_roundw
          case rel => exact ⟨k + 1, hlt, by go_num, by rw [HM3.out]; rfl, by rw [HA2.out], BB.out, HB9.out, E9.out⟩
          case measure => simp [intOf]; omega
        cases la
        · go_wp2_with fail
          go_roundw
          case rel => exact ⟨k + 1, hlt, by go_num, by rw [HM3.out]; rfl, by rw [HA2.out], BB.out, HB9.out, E9.out⟩
          case measure => simp [intOf]; omega
        by_cases hrr : a.r = r
        · have g1 : (a.r == r) = true := by simpa using hrr
          have HM4 := Lib.hid (show (b.ag.l.take (k + 1)).any (metB f t m r b.ag.l) = true by rw [HM3.out]; simp [hrr])
          clear hrr
          go_wp2_with fail
          go_roundw
          case rel => exact ⟨k + 1, hlt, by go_num, by rw [HM4.out], by rw [HA2.out], BB.out, HB9.out, E9.out⟩
          case measure => simp [intOf]; omega
        · have g1 : (a.r == r) = false := by simpa using hrr
          have HM4 := Lib.hid (show (b.ag.l.take (k + 1)).any (metB f t m r b.ag.l) = false by rw [HM3.out]; simp [hrr])
          clear hrr
          go_wp2_with fail
          go_roundw
          case rel => exact ⟨k + 1, hlt, by go_num, by rw [HM4.out], by rw [HA2.out], BB.out, HB9.out, E9.out⟩
          case measure => simp [intOf]; omega
      obtain ⟨x, b2, o2, hx, hA2, hb2, hd⟩ := SL.out.at_ hjl
      cases hA2
      have d0 := hd 0 _ rfl
      have d1 := hd 1 _ rfl
      have d2 := hd 2 _ rfl
      have d3 := hd 3 _ rfl
      have d4 := hd 4 _ rfl
      simp only [Nat.add_zero] at d0
      have hjl' : (j : Int) < b.ag.l.length := by omega
      have x0 := AX.out.c 0 _ rfl
      have x3 := AX.out.c 3 _ rfl
      have axl := AX.out.lt
      have HS := Lib.hid (anyT (hit f t m a) hx)
      have HHX := Lib.hid (show hit f t m a x = ((decide (x.f = f) && decide (x.t = t) && decide (x.m ≤ m)) && (decide (a.m < x.m) || (decide (x.m = a.m) && decide (a.no < x.no)))) from rfl)
      clear hd hx
      rename_i K3 a3
      clear a3
      by_cases p1 : x.f = f
      rotate_left
      · have ep1 : (x.f == f) = false := by simpa using p1
        have HZ := Lib.hid (show (!((b.ag.l.take (j + 1)).any (hit f t m a))) = la by rw [HS.out, HHX.out, ← HLA.out]; simp [p1])
        clear p1
        go_wp2_with fail
        go_roundw
        case rel => exact ⟨j + 1, hjl, by go_num, by rw [HZ.out], ext_alloc EJ.out _⟩
        case measure => simp [intOf]; omega
      have ep1 : (x.f == f) = true := by simpa using p1
      by_cases p2 : x.t = t
      rotate_left
      · have ep2 : (x.t == t) = false := by simpa using p2
        have HZ := Lib.hid (show (!((b.ag.l.take (j + 1)).any (hit f t m a))) = la by rw [HS.out, HHX.out, ← HLA.out]; simp [p1, p2])
        clear p1 p2
        go_wp2_with fail
        go_roundw
        case rel => exact ⟨j + 1, hjl, by go_num, by rw [HZ.out], ext_alloc EJ.out _⟩
        case measure => simp [intOf]; omega
      have ep2 : (x.t == t) = true := by simpa using p2
      by_cases p3 : x.m ≤ m
      rotate_left
      · have ep3 : decide (x.m ≤ m) = false := by simpa using p3
        have HZ := Lib.hid (show (!((b.ag.l.take (j + 1)).any (hit f t m a))) = la by rw [HS.out, HHX.out, ← HLA.out]; simp [p1, p2, p3])
        clear p1 p2 p3
        go_wp2_with fail
        go_roundw
        case rel => exact ⟨j + 1, hjl, by go_num, by rw [HZ.out], ext_alloc EJ.out _⟩
        case measure => simp [intOf]; omega
      have ep3 : decide (x.m ≤ m) = true := by simpa using p3
      by_cases p4 : a.m < x.m
      · have ep4 : decide (a.m < x.m) = true := by simpa using p4
        have ep4b : decide (x.m > a.m) = true := by simpa using p4
        have HZ := Lib.hid (show (!((b.ag.l.take (j + 1)).any (hit f t m a))) = false by rw [HS.out, HHX.out]; simp [p1, p2, p3, p4])
        clear p1 p2 p3 p4
        go_wp2_with fail
        go_roundw
        case rel => exact ⟨j + 1, hjl, by go_num, by rw [HZ.out], ext_alloc EJ.out _⟩
        case measure => simp [intOf]; omega
      have ep4 : decide (a.m < x.m) = false := by simpa using p4
      have ep4b : decide (x.m > a.m) = false := by simpa using p4
      by_cases p5 : x.m = a.m
      rotate_left
      · have ep5 : (x.m == a.m) = false := by simpa using p5
        have HZ := Lib.hid (show (!((b.ag.l.take (j + 1)).any (hit f t m a))) = la by rw [HS.out, HHX.out, ← HLA.out]; simp [p1, p2, p3, p4, p5])
        clear p1 p2 p3 p4 p5
        go_wp2_with fail
        go_roundw
        case rel => exact ⟨j + 1, hjl, by go_num, by rw [HZ.out], ext_alloc EJ.out _⟩
        case measure => simp [intOf]; omega
      have ep5 : (x.m == a.m) = true := by simpa using p5
      by_cases p6 : a.no < x.no
      · have p7 : a.m ≤ m := p5 ▸ p3
        have ep6 : decide (a.no < x.no) = true := by simpa using p6
        have ep6b : decide (x.no > a.no) = true := by simpa using p6
        have HZ := Lib.hid (show (!((b.ag.l.take (j + 1)).any (hit f t m a))) = false by rw [HS.out, HHX.out]; simp [p1, p2, p3, p4, p5, p6, p7])
        clear p1 p2 p3 p4 p5 p6 p7
        go_wp2_with fail
        go_roundw
        case rel => exact ⟨j + 1, hjl, by go_num, by rw [HZ.out], ext_alloc EJ.out _⟩
        case measure => simp [intOf]; omega
      · have p7 : a.m ≤ m := p5 ▸ p3
        have ep6 : decide (a.no < x.no) = false := by simpa using p6
        have ep6b : decide (x.no > a.no) = false := by simpa using p6
        have HZ := Lib.hid (show (!((b.ag.l.take (j + 1)).any (hit f t m a))) = la by rw [HS.out, HHX.out, ← HLA.out]; simp [p1, p2, p3, p4, p5, p6, p7])
        clear p1 p2 p3 p4 p5 p6 p7
        go_wp2_with fail
        go_roundw
        case rel => exact ⟨j + 1, hjl, by go_num, by rw [HZ.out], ext_alloc EJ.out _⟩
        case measure => simp [intOf]; omega
end Go.Proofs.Ytmnbeikhjbjpiaa
