/- Contracts: equal lists and boundaries; few agreements; what a list has; a new boundary. -/
import Derived.Test.YtmnbeikhjbjpiaaC
import Derived.Test.YtmnbeikhjbjpiaaL0
set_option linter.unusedSimpArgs false
set_option linter.unusedVariables false
namespace Go.Proofs.Ytmnbeikhjbjpiaa
open Go.RowKit
theorem same_stepAg {a b : List Ag} {k : Nat} {x y : Ag} (h : a.take k = b.take k) (hx : a[k]? = some x) (hy : b[k]? = some y) (hxy : x = y) : a.take (k + 1) = b.take (k + 1) := by
  simp [List.take_add_one, h, hx, hy, hxy]
theorem same_noAg {a b : List Ag} {k : Nat} {x y : Ag} (hx : a[k]? = some x) (hy : b[k]? = some y) (hxy : x ≠ y) : a ≠ b := by
  rintro rfl; rw [hx] at hy; exact hxy (Option.some.inj hy)
set_option maxHeartbeats 400000 in
theorem sameqAg (A B : Option Addr) (ca cb : Nat) (a b : List Ag) (w : World) (ha : Slc w Ag.cells 5 A a) (hb : Slc w Ag.cells 5 B b) (hn : a.length < 1048576) :
    Calls Try.prog 30 #[.slice A a.length ca, .slice B b.length cb] w fun e w' => e = .returned (.bool (decide (a = b))) ∧ ∃ n, w' = w.drewN n := by
  by_cases hl : a.length = b.length
  · have hl1 : ((a.length : Int) != (b.length : Int)) = false := by simp; omega
    have HL := Lib.hid hl
    have hlb : b.length ≤ a.length := by omega
    have hlb' : a.length ≤ b.length := by omega
    clear hl
    go_enter Try.func30, Try.ntmps30
    go_wp2
    go_loopw [5] (fun i wr => ∃ k : Nat, k ≤ a.length ∧ i = .int .i64 k ∧ a.take k = b.take k ∧ Hid (∃ n, wr = w.drewN n)) (fun i _ => a.length - (intOf i).toNat)
    case atStart => exact ⟨0, Nat.zero_le _, rfl, by simp, 0, rfl⟩
    case round =>
      obtain ⟨k, hk, rfl, htk, hbe⟩ := hrel
      have HT := Lib.hid htk
      clear htk
      by_cases hlt : k < a.length
      · obtain ⟨x, b1, o1, hx, rfl, _, hc⟩ := (Slc.drewE ha hbe.out).at_ hlt
        obtain ⟨y, b2, o2, hy, rfl, _, hd⟩ := (Slc.drewE hb hbe.out).at_ (show k < b.length by omega)
        have HX := Lib.hid hx
        have HY := Lib.hid hy
        clear hx hy
        have c0 := hc 0 _ rfl
        have c1 := hc 1 _ rfl
        have c2 := hc 2 _ rfl
        have c3 := hc 3 _ rfl
        have c4 := hc 4 _ rfl
        have d0 := hd 0 _ rfl
        have d1 := hd 1 _ rfl
        have d2 := hd 2 _ rfl
        have d3 := hd 3 _ rfl
        have d4 := hd 4 _ rfl
        simp only [Nat.mul_one, Nat.add_zero] at c0 c1 c2 c3 c4 d0 d1 d2 d3 d4
        clear hc hd
        have hltb : k < b.length := by omega
        have hi1 : (k : Int) < (a.length : Int) := by omega
        have hi2 : (k : Int) < (b.length : Int) := by omega
        have hne := fun w => run_neq26 x y w
        go_wp2
        go_quiet (fail)
        go_wp2
        · have hxy : (!decide (x = y)) = true := by assumption
          go_ret
          exact ⟨ret_bool (by simp [same_noAg HX.out HY.out (by simpa using hxy)]), drewE hbe.out _⟩
        · have hxy : (!decide (x = y)) = false := by assumption
          go_roundw
          case rel => exact ⟨k + 1, hlt, by go_num, same_stepAg HT.out HX.out HY.out (by simpa using hxy), drewE hbe.out _⟩
          case measure => simp [intOf]; omega
      · go_wp2
        go_ret
        refine ⟨ret_bool ?_, hbe.out⟩
        have h1 := HT.out
        rw [List.take_of_length_le (by omega), List.take_of_length_le (by omega)] at h1
        simp [h1]
  · have hl1 : ((a.length : Int) != (b.length : Int)) = true := by simp; omega
    have HL := Lib.hid hl
    clear hl
    go_enter Try.func30, Try.ntmps30
    go_wp2
    go_ret
    exact ⟨ret_bool (by simp; intro h; exact HL.out (by rw [h])), 0, rfl⟩
theorem sameAg {A B : Option Addr} {ca cb : Nat} {a b : List Ag} {w : World} {n m : Nat} (r : Bool) (hr : decide (a = b) = r) (hl : n = a.length) (hm : m = b.length) (ha : Slc w Ag.cells 5 A a) (hb : Slc w Ag.cells 5 B b) (hn : a.length < 1000000) :
    Calls Try.prog 30 #[.slice A n ca, .slice B m cb] w fun e w' => e = .returned (.bool r) ∧ Below w.heap.size w w' := by
  subst hr hl hm
  exact (sameqAg A B ca cb a b w ha hb (by omega)).mono fun _ _ ⟨h1, n, h2⟩ => ⟨h1, by rw [h2]; exact ext_drewN (ext_refl w) n⟩
def fewB (b : Bl) : Bool := decide (b.ag.length ≤ 30) && decide (b.op.length ≤ 30)
theorem few_any (b : Bd) (w : World) : Calls Try.prog 11 #[b.v] w (RetB w (fewB b.bl)) := by
  have HF := Lib.hid (show fewB b.bl = (decide (b.ag.l.length ≤ 30) && decide (b.op.l.length ≤ 30)) from rfl)
  by_cases h1 : b.ag.l.length ≤ 30
  · by_cases h2 : b.op.l.length ≤ 30
    all_goals
      go_enter Try.func11, Try.ntmps11
      go_wp2_with fail
      go_ret
      exact ⟨ret_bool (by rw [HF.out]; simp [h1, h2]; try omega), ext_alloc (ext_refl w) _⟩
  · go_enter Try.func11, Try.ntmps11
    go_wp2_with fail
    go_ret
    exact ⟨ret_bool (by rw [HF.out]; simp [h1]; try omega), ext_alloc (ext_refl w) _⟩
theorem few_at {b : Bd} {w : World} (r : Bool) (hr : fewB b.bl = r) : Calls Try.prog 11 #[.agg #[.int .i64 b.own, .int .i64 b.ot, .slice b.ag.A b.ag.l.length b.ag.c, .slice b.op.A b.op.l.length b.op.c]] w (RetB w r) := by
  subst hr; exact few_any b w
theorem any_step {l : List Ag} {x y : Ag} {k : Nat} (hx : l[k]? = some y) (h : decide (y = x) = false) (hq : l.any (fun y => decide (y = x)) = (l.drop k).any (fun y => decide (y = x))) : l.any (fun y => decide (y = x)) = (l.drop (k + 1)).any (fun y => decide (y = x)) := by
  rw [hq, drop_at hx]; simp [h]
theorem any_hit {l : List Ag} {x y : Ag} {k : Nat} (hx : l[k]? = some y) (h : decide (y = x) = true) (hq : l.any (fun y => decide (y = x)) = (l.drop k).any (fun y => decide (y = x))) : l.any (fun y => decide (y = x)) = true := by
  rw [hq, drop_at hx]; simp [h]
theorem any_end {l : List Ag} {x : Ag} {k : Nat} (hk : l.length ≤ k) (hq : l.any (fun y => decide (y = x)) = (l.drop k).any (fun y => decide (y = x))) : l.any (fun y => decide (y = x)) = false := by
  rw [hq, List.drop_eq_nil_of_le hk]; rfl
set_option maxHeartbeats 800000 in
theorem has_any (x : Ag) (A : Option Addr) (c : Nat) (l : List Ag) (w : World) (ha : Slc w Ag.cells 5 A l) (hn : l.length ≤ maxLen) :
    Calls Try.prog 31 #[.slice A l.length c, x.v] w (RetB w (l.any (fun y => decide (y = x)))) := by
  unfold maxLen at hn
  obtain ⟨r, hr⟩ : ∃ r, l.any (fun y => decide (y = x)) = r := ⟨_, rfl⟩
  have HR := Lib.hid hr
  rw [hr]
  clear hr
  have HBX := Lib.hid (Blk.new w (Ag.cells x) 26)
  have HW := Lib.hid (ext_alloc (ext_refl w) (.cells (Ag.cells x).toArray 26))
  simp only [Ag.cells] at HBX HW
  go_enter Try.func31, Try.ntmps31
  go_wp2_with fail
  go_loopw [5] (fun i wr => ∃ k : Nat, k ≤ l.length ∧ i = .int .i64 k ∧ Hid (l.any (fun y => decide (y = x)) = (l.drop k).any (fun y => decide (y = x))) ∧ Hid (Blk wr w.heap.size (Ag.cells x)) ∧ Hid (Below w.heap.size w wr)) (fun i _ => l.length - (intOf i).toNat)
  case atStart => exact ⟨0, Nat.zero_le _, rfl, rfl, HBX.out, HW.out⟩
  case round =>
    obtain ⟨k, hk, rfl, HQ, HBX1, HB⟩ := hrel
    by_cases hlt : k < l.length
    · obtain ⟨y, b1, o1, hy, rfl, hb1, hc⟩ := (ha.ext HB.out).at_ hlt
      have HX := Lib.hid hy
      clear hy
      have c0 := hc 0 _ rfl
      have c1 := hc 1 _ rfl
      have c2 := hc 2 _ rfl
      have c3 := hc 3 _ rfl
      have c4 := hc 4 _ rfl
      have HBX2 := HBX1.out
      have d0 := HBX2.c 0 _ rfl
      have d1 := HBX2.c 1 _ rfl
      have d2 := HBX2.c 2 _ rfl
      have d3 := HBX2.c 3 _ rfl
      have d4 := HBX2.c 4 _ rfl
      simp only [Nat.mul_one, Nat.add_zero] at c0 c1 c2 c3 c4
      have hb0 := HBX2.lt
      clear hc HBX2
      have hlt' : (k : Int) < l.length := by omega
      have heq := fun w => run_eql26 y x w
      by_cases hxy : y = x
      · have HXY := Lib.hid hxy
        have hd : decide (y = x) = true := by simpa using hxy
        have HZ := Lib.hid (show r = true by rw [← HR.out]; exact any_hit HX.out hd HQ.out)
        clear hxy
        rw [hd] at heq
        go_wp2_with fail
        go_quiet (fail)
        go_wp2_with fail
        go_ret
        exact ⟨ret_bool HZ.out.symm, ext_drewN HB.out _⟩
      · have HXY := Lib.hid hxy
        have hd : decide (y = x) = false := by simpa using hxy
        have HZ := Lib.hid (any_step HX.out hd HQ.out)
        clear hxy
        rw [hd] at heq
        go_wp2_with fail
        go_quiet (fail)
        go_wp2_with fail
        go_roundw
        case rel => exact ⟨k + 1, hlt, by go_num, HZ.out, HBX1.out.ext (ext_drewN (ext_refl _) _), ext_drewN HB.out _⟩
        case measure => simp [intOf]; omega
    · have HZ := Lib.hid (show r = false by rw [← HR.out]; exact any_end (by omega) HQ.out)
      go_wp2_with fail
      go_ret
      exact ⟨ret_bool HZ.out.symm, HB.out⟩
theorem has_at {x : Ag} {A : Option Addr} {c n : Nat} {l : List Ag} {w : World} (r : Bool) (hr : l.any (fun y => decide (y = x)) = r) (hl : n = l.length) (ha : Slc w Ag.cells 5 A l) (hn : l.length ≤ maxLen) :
    Calls Try.prog 31 #[.slice A n c, .agg #[.int .i64 x.no, .int .i64 x.f, .int .i64 x.t, .int .i64 x.m, .int .i64 x.r]] w (RetB w r) := by
  subst hr hl; exact has_any x A c l w ha hn
set_option maxHeartbeats 800000 in
theorem sameB_any (a b : Bd) (w : World) (ha : BOk w a) (hb : BOk w b) (hl : a.ag.l.length < 1000000 ∧ a.op.l.length < 1000000) : Calls Try.prog 16 #[a.v, b.v] w (RetB w (decide (a.bl = b.bl))) := by
  obtain ⟨r, hr⟩ : ∃ r, decide (a.bl = b.bl) = r := ⟨_, rfl⟩
  have HR := Lib.hid (show (a.own = b.own ∧ a.ot = b.ot ∧ a.ag.l = b.ag.l ∧ a.op.l = b.op.l) ↔ r = true by rw [← hr, decide_eq_true_eq, bl_eq_iff])
  rw [hr]
  clear hr
  have HN : ∀ {p : Prop}, (a.own = b.own ∧ a.ot = b.ot ∧ a.ag.l = b.ag.l ∧ a.op.l = b.op.l → False) → r = false := fun h => by
    cases hh : r
    · rfl
    · exact (h (HR.out.2 hh)).elim
  have HL := Lib.hid hl
  have E := Lib.hid (ext_refl w)
  have HA := Lib.hid (ha)
  have HB := Lib.hid (hb)
  replace E := Lib.hid (ext_alloc E.out (.cells #[.int .i64 a.own, .int .i64 a.ot, .slice a.ag.A a.ag.l.length a.ag.c, .slice a.op.A a.op.l.length a.op.c] 24))
  replace HA := Lib.hid (HA.out.alloc (.cells #[.int .i64 a.own, .int .i64 a.ot, .slice a.ag.A a.ag.l.length a.ag.c, .slice a.op.A a.op.l.length a.op.c] 24))
  replace HB := Lib.hid (HB.out.alloc (.cells #[.int .i64 a.own, .int .i64 a.ot, .slice a.ag.A a.ag.l.length a.ag.c, .slice a.op.A a.op.l.length a.op.c] 24))
  have X := Lib.hid (Blk.newH w [.int .i64 a.own, .int .i64 a.ot, .slice a.ag.A a.ag.l.length a.ag.c, .slice a.op.A a.op.l.length a.op.c] 24 (w.heap.size) (by first | rfl | simp))
  replace E := Lib.hid (ext_alloc E.out (.cells #[.int .i64 b.own, .int .i64 b.ot, .slice b.ag.A b.ag.l.length b.ag.c, .slice b.op.A b.op.l.length b.op.c] 24))
  replace HA := Lib.hid (HA.out.alloc (.cells #[.int .i64 b.own, .int .i64 b.ot, .slice b.ag.A b.ag.l.length b.ag.c, .slice b.op.A b.op.l.length b.op.c] 24))
  replace HB := Lib.hid (HB.out.alloc (.cells #[.int .i64 b.own, .int .i64 b.ot, .slice b.ag.A b.ag.l.length b.ag.c, .slice b.op.A b.op.l.length b.op.c] 24))
  replace X := Lib.hid (X.out.alloc (.cells #[.int .i64 b.own, .int .i64 b.ot, .slice b.ag.A b.ag.l.length b.ag.c, .slice b.op.A b.op.l.length b.op.c] 24))
  have Y := Lib.hid (Blk.newH (w.alloc (.cells #[.int .i64 a.own, .int .i64 a.ot, .slice a.ag.A a.ag.l.length a.ag.c, .slice a.op.A a.op.l.length a.op.c] 24)) [.int .i64 b.own, .int .i64 b.ot, .slice b.ag.A b.ag.l.length b.ag.c, .slice b.op.A b.op.l.length b.op.c] 24 (w.heap.size + 1) (by first | rfl | simp))
  clear ha hb
  by_cases h1 : a.own = b.own
  rotate_left
  · have e1 : (a.own == b.own) = false := by simpa using h1
    have HZ := Lib.hid (show r = false from HN (p := True) (fun h => h1 h.1))
    clear h1 HN
    go_enter Try.func16, Try.ntmps16
    go_wp2_with fail
    go_ret
    exact ⟨ret_bool HZ.out.symm, E.out⟩
  have e1 : (a.own == b.own) = true := by simpa using h1
  by_cases h2 : a.ot = b.ot
  rotate_left
  · have e2 : (a.ot == b.ot) = false := by simpa using h2
    have HZ := Lib.hid (show r = false from HN (p := True) (fun h => h2 h.2.1))
    clear h1 h2 HN
    go_enter Try.func16, Try.ntmps16
    go_wp2_with fail
    go_ret
    exact ⟨ret_bool HZ.out.symm, E.out⟩
  have e2 : (a.ot == b.ot) = true := by simpa using h2
  have H12 := Lib.hid (show _ ∧ _ from ⟨h1, h2⟩)
  clear h1 h2
  by_cases h3 : a.ag.l = b.ag.l
  rotate_left
  · have HZ := Lib.hid (show r = false from HN (p := True) (fun h => h3 h.2.2.1))
    have H3 := Lib.hid h3
    clear h3 HN
    go_enter Try.func16, Try.ntmps16
    go_wp2_with fail
    refine (sameAg false (by simpa using H3.out) rfl rfl HA.out.ag HB.out.ag HL.out.1).mono ?_
    rintro e v1 ⟨rfl, B⟩
    replace E := Lib.hid (ext_trans E.out B)
    replace HA := Lib.hid (HA.out.ext B)
    replace HB := Lib.hid (HB.out.ext B)
    replace X := Lib.hid (X.out.ext B)
    replace Y := Lib.hid (Y.out.ext B)
    clear B
    go_wp2_with fail
    go_ret
    exact ⟨ret_bool HZ.out.symm, E.out⟩
  have H3 := Lib.hid h3
  clear h3
  by_cases h4 : a.op.l = b.op.l
  · have HZ := Lib.hid (show r = true from HR.out.1 ⟨H12.out.1, H12.out.2, H3.out, h4⟩)
    have H4 := Lib.hid h4
    clear h4 HN
    go_enter Try.func16, Try.ntmps16
    go_wp2_with fail
    refine (sameAg true (by simpa using H3.out) rfl rfl HA.out.ag HB.out.ag HL.out.1).mono ?_
    rintro e v1 ⟨rfl, B⟩
    replace E := Lib.hid (ext_trans E.out B)
    replace HA := Lib.hid (HA.out.ext B)
    replace HB := Lib.hid (HB.out.ext B)
    replace X := Lib.hid (X.out.ext B)
    replace Y := Lib.hid (Y.out.ext B)
    clear B
    have c0 := X.out.c 3 _ rfl
    have c1 := Y.out.c 3 _ rfl
    go_wp2_with fail
    refine (sameAg true (by simpa using H4.out) rfl rfl HA.out.op HB.out.op HL.out.2).mono ?_
    rintro e v2 ⟨rfl, B⟩
    clear c0 c1
    replace E := Lib.hid (ext_trans E.out B)
    replace HA := Lib.hid (HA.out.ext B)
    replace HB := Lib.hid (HB.out.ext B)
    replace X := Lib.hid (X.out.ext B)
    replace Y := Lib.hid (Y.out.ext B)
    clear B
    go_wp2_with fail
    go_ret
    exact ⟨ret_bool HZ.out.symm, E.out⟩
  · have HZ := Lib.hid (show r = false from HN (p := True) (fun h => h4 h.2.2.2))
    have H4 := Lib.hid h4
    clear h4 HN
    go_enter Try.func16, Try.ntmps16
    go_wp2_with fail
    refine (sameAg true (by simpa using H3.out) rfl rfl HA.out.ag HB.out.ag HL.out.1).mono ?_
    rintro e v1 ⟨rfl, B⟩
    replace E := Lib.hid (ext_trans E.out B)
    replace HA := Lib.hid (HA.out.ext B)
    replace HB := Lib.hid (HB.out.ext B)
    replace X := Lib.hid (X.out.ext B)
    replace Y := Lib.hid (Y.out.ext B)
    clear B
    have c0 := X.out.c 3 _ rfl
    have c1 := Y.out.c 3 _ rfl
    go_wp2_with fail
    refine (sameAg false (by simpa using H4.out) rfl rfl HA.out.op HB.out.op HL.out.2).mono ?_
    rintro e v2 ⟨rfl, B⟩
    clear c0 c1
    replace E := Lib.hid (ext_trans E.out B)
    replace HA := Lib.hid (HA.out.ext B)
    replace HB := Lib.hid (HB.out.ext B)
    replace X := Lib.hid (X.out.ext B)
    replace Y := Lib.hid (Y.out.ext B)
    clear B
    go_wp2_with fail
    go_ret
    exact ⟨ret_bool HZ.out.symm, E.out⟩
theorem sameB_at {a b : Bd} {w : World} (r : Bool) (hr : decide (a.bl = b.bl) = r) (ha : BOk w a) (hb : BOk w b) (hl : a.ag.l.length < 1000000 ∧ a.op.l.length < 1000000) : Calls Try.prog 16 #[.agg #[.int .i64 a.own, .int .i64 a.ot, .slice a.ag.A a.ag.l.length a.ag.c, .slice a.op.A a.op.l.length a.op.c], .agg #[.int .i64 b.own, .int .i64 b.ot, .slice b.ag.A b.ag.l.length b.ag.c, .slice b.op.A b.op.l.length b.op.c]] w (RetB w r) := by
  subst hr; exact sameB_any a b w ha hb hl
set_option maxHeartbeats 800000 in
theorem new_any (own ot : Int) (F : Nat → Prop) (w : World) : Calls Try.prog 21 #[.int .i64 own, .int .i64 ot] w (BdR w F (Bl.new own ot) (newE own ot)) := by
  obtain ⟨c, hc⟩ : ∃ c, cen own ot = c := ⟨_, rfl⟩
  have HC := Lib.hid hc
  clear hc
  have E := Lib.hid (ext_refl w)
  replace E := Lib.hid (ext_alloc E.out (.cells #[.int .i64 0, .int .i64 0, .slice none 0 0, .slice none 0 0] 24))
  have X := Lib.hid (Blk.newH w [.int .i64 0, .int .i64 0, .slice none 0 0, .slice none 0 0] 24 (w.heap.size) (by first | rfl | simp))
  go_enter Try.func21, Try.ntmps21
  go_wp2_with fail
  refine (cen_any own ot _).mono ?_
  rintro e w1 ⟨he, B⟩
  rw [HC.out] at he
  subst he
  replace E := Lib.hid (ext_trans E.out B)
  replace X := Lib.hid (X.out.ext B)
  clear B
  have c0 := X.out.c 0 _ rfl
  have c1 := X.out.c 1 _ rfl
  have c2 := X.out.c 2 _ rfl
  have c3 := X.out.c 3 _ rfl
  have cf := X.out.f
  have hb := X.out.lt
  have EE := fun v0 v1 v2 v3 => Lib.hid (ext_set4 E.out w.heap.size v0 v1 v2 v3 (Nat.le_refl _))
  unfold set4 at EE
  cases c
  · have E1 := EE (.int .i64 0) (.int .i64 0) (.slice none 0 0) (.slice none 0 0)
    clear EE
    go_wp2_with fail
    refine bodyPost_ret (v := .tuple #[.agg #[.int .i64 0, .int .i64 0, .slice none 0 0, .slice none 0 0], .int .i64 480]) (by simp [results, Try.results21, go_sem, *]) rfl ?_
    exact BdR.zero (by unfold newE; rw [HC.out]; rfl) (fun _ => by unfold Bl.new; rw [HC.out]; rfl) (by decide) rfl E1.out
  · have E1 := EE (.int .i64 own) (.int .i64 ot) (.slice none 0 0) (.slice none 0 0)
    clear EE
    go_wp2_with fail
    refine bodyPost_ret (v := .tuple #[.agg #[.int .i64 own, .int .i64 ot, .slice none 0 0, .slice none 0 0], .int .i64 0]) (by simp [results, Try.results21, go_sem, *]) rfl ?_
    exact ⟨⟨own, ot, ⟨none, 0, []⟩, ⟨none, 0, []⟩⟩, by unfold newE; rw [HC.out]; rfl, by unfold Bl.new; rw [HC.out]; rfl, BOk.lists, E1.out, fun b _ _ => off_lists b⟩
set_option maxHeartbeats 800000 in
theorem rnew_any (own ot : Int) (F : Nat → Prop) (w : World) : Calls Try.prog 22 #[.int .i64 own, .int .i64 ot] w (BdR w F (Bl.new own ot) (newE own ot)) := by
  obtain ⟨c, hc⟩ : ∃ c, cen own ot = c := ⟨_, rfl⟩
  have HC := Lib.hid hc
  clear hc
  have E := Lib.hid (ext_refl w)
  replace E := Lib.hid (ext_alloc E.out (.cells #[.int .i64 0, .int .i64 0, .slice none 0 0, .slice none 0 0] 24))
  have X := Lib.hid (Blk.newH w [.int .i64 0, .int .i64 0, .slice none 0 0, .slice none 0 0] 24 (w.heap.size) (by first | rfl | simp))
  go_enter Try.func22, Try.ntmps22
  go_wp2_with fail
  refine (rcen_any own ot _).mono ?_
  rintro e w1 ⟨he, hw⟩
  rw [HC.out] at he
  subst he
  subst hw
  have c0 := X.out.c 0 _ rfl
  have c1 := X.out.c 1 _ rfl
  have c2 := X.out.c 2 _ rfl
  have c3 := X.out.c 3 _ rfl
  have cf := X.out.f
  have hb := X.out.lt
  have EE := fun v0 v1 v2 v3 => Lib.hid (ext_set4 E.out w.heap.size v0 v1 v2 v3 (Nat.le_refl _))
  unfold set4 at EE
  cases c
  · have E1 := EE (.int .i64 0) (.int .i64 0) (.slice none 0 0) (.slice none 0 0)
    clear EE
    go_wp2_with fail
    refine bodyPost_ret (v := .tuple #[.agg #[.int .i64 0, .int .i64 0, .slice none 0 0, .slice none 0 0], .int .i64 480]) (by simp [results, Try.results22, go_sem, *]) rfl ?_
    exact BdR.zero (by unfold newE; rw [HC.out]; rfl) (fun _ => by unfold Bl.new; rw [HC.out]; rfl) (by decide) rfl (ext_alloc (ext_refl w) _)
  · have E1 := EE (.int .i64 own) (.int .i64 ot) (.slice none 0 0) (.slice none 0 0)
    clear EE
    go_wp2_with fail
    refine bodyPost_ret (v := .tuple #[.agg #[.int .i64 own, .int .i64 ot, .slice none 0 0, .slice none 0 0], .int .i64 0]) (by simp [results, Try.results22, go_sem, *]) rfl ?_
    exact ⟨⟨own, ot, ⟨none, 0, []⟩, ⟨none, 0, []⟩⟩, by unfold newE; rw [HC.out]; rfl, by unfold Bl.new; rw [HC.out]; rfl, BOk.lists, (ext_alloc (ext_refl w) _), fun b _ _ => off_lists b⟩
end Go.Proofs.Ytmnbeikhjbjpiaa
