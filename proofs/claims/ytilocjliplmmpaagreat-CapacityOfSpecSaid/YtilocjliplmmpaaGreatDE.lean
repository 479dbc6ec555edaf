/- The closures of airspace.Check. -/
import Derived.Test.YtilocjliplmmpaaGreatB
set_option linter.unusedSimpArgs false
set_option linter.unusedVariables false
namespace Go.Proofs.YtilocjliplmmpaaGreat
open Go.RowKit
theorem inn_any (n a b : Int) (w : World) : Calls Tryz.prog 42 #[.int .i64 n, .int .i64 a, .int .i64 b] w fun e w' => e = .returned (.bool (inn n a b)) ∧ w = w' := by
  go_enter Tryz.func42, Tryz.ntmps42
  by_cases h1 : a ≤ n
  · by_cases h2 : n ≤ b
    · have e1 : decide (n ≥ a) = true := by simpa using h1
      have e2 : decide (n ≤ b) = true := by simpa using h2
      go_wp2
      all_goals go_ret
      all_goals exact ⟨ret_bool (by simp [inn]; omega), rfl⟩
    · have e1 : decide (n ≥ a) = true := by simpa using h1
      have e2 : decide (n ≤ b) = false := by simpa using h2
      go_wp2
      all_goals go_ret
      all_goals exact ⟨ret_bool (by simp [inn]; omega), rfl⟩
  · have e1 : decide (n ≥ a) = false := by simpa using h1
    go_wp2
    all_goals go_ret
    all_goals exact ⟨ret_bool (by simp [inn]; omega), rfl⟩
theorem inn_at {n a b : Int} {w : World} (r : Bool) (hr : inn n a b = r) : Calls Tryz.prog 42 #[.int .i64 n, .int .i64 a, .int .i64 b] w fun e w' => e = .returned (.bool r) ∧ w = w' := by
  subst hr; exact inn_any n a b w
theorem secB_any (x : Sec) (w : World) : Calls Tryz.prog 41 #[x.v] w (RetB w (secB x)) := by
  go_enter Tryz.func41, Tryz.ntmps41
  cases h1 : inn x.rad 0 64
  · go_wp2_with fail
    refine (inn_at false h1).mono ?_
    rintro e w1 ⟨rfl, rfl⟩
    go_wp2_with fail
    go_ret
    exact ⟨ret_bool (by simp [secB, h1]), ext_alloc (ext_refl _) _⟩
  · go_wp2_with fail
    refine (inn_at true h1).mono ?_
    rintro e w1 ⟨rfl, rfl⟩
    go_wp2_with fail
    refine (inn_any _ _ _ _).mono ?_
    rintro e w1 ⟨rfl, rfl⟩
    go_wp2_with fail
    go_ret
    exact ⟨ret_bool (by simp [secB, h1]), ext_alloc (ext_refl _) _⟩
theorem enters44 : Enters Tryz.prog 45 := fun args w => by kernel_rfl
theorem enters40 : Enters Tryz.prog 41 := fun args w => by kernel_rfl
theorem enters42 : Enters Tryz.prog 43 := fun args w => by kernel_rfl
theorem enters45 : Enters Tryz.prog 46 := fun args w => by kernel_rfl
theorem enters48 : Enters Tryz.prog 49 := fun args w => by kernel_rfl
theorem enters50 : Enters Tryz.prog 51 := fun args w => by kernel_rfl
theorem plcB_any (n : Int) (w : World) : Calls Tryz.prog 45 #[.int .i64 n] w (RetB w (plcB n)) := by
  go_enter Tryz.func45, Tryz.ntmps45
  go_wp2_with fail
  refine (inn_any _ _ _ _).mono ?_
  rintro e w1 ⟨rfl, rfl⟩
  go_wp2_with fail
  go_ret
  exact ⟨ret_bool rfl, ext_refl _⟩
theorem modeB_any (x : SliceOf Int) (w : World) (ha : Slc w ic 1 x.A x.l) (hn : x.l.length ≤ maxLen) : Calls Tryz.prog 43 #[.slice x.A x.l.length x.c] w (RetB w (modeB x)) := by
  have HL := Lib.hid (allI 45 plcB x.A x.c x.l w ha hn enters44 (fun n W _ _ => plcB_any n W))
  clear ha hn
  go_enter Tryz.func43, Tryz.ntmps43
  cases h1 : inn x.l.length 1 16
  · go_wp2_with fail
    refine (inn_at false h1).mono ?_
    rintro e w1 ⟨rfl, rfl⟩
    go_wp2_with fail
    go_ret
    exact ⟨ret_bool (by simp [modeB, h1]), ext_refl _⟩
  · go_wp2_with fail
    refine (inn_at true h1).mono ?_
    rintro e w1 ⟨rfl, rfl⟩
    go_wp2_with fail
    refine HL.out.mono ?_
    rintro e w1 ⟨rfl, B⟩
    go_wp2_with fail
    go_ret
    exact ⟨ret_bool (by simp [modeB, h1]), B⟩
end Go.Proofs.YtilocjliplmmpaaGreat
/- The closures of airspace.Check that read the tables. -/
set_option linter.unusedSimpArgs false
set_option linter.unusedVariables false
namespace Go.Proofs.YtilocjliplmmpaaGreat
open Go.RowKit
abbrev ptr (b : Nat) : Value := .pointer (some ⟨b, 0, none⟩)
theorem hcheck_at {A : Option Addr} {n c : Nat} {l : List Sp} {w : World} (r : Int) (hr : chkHE l = r) (hn' : n = l.length) (ha : Slc w Sp.cells 2 A l) (hn : l.length ≤ maxLen) :
    Calls Tryz.prog 47 #[.slice A n c] w (RetE w r) := by
  subst hr hn'; exact hcheck_any A c l w ha hn
theorem chkHE_01 (l : List Sp) : chkHE l = 0 ∨ chkHE l = 50 := by unfold chkHE; split <;> simp
set_option maxHeartbeats 2000000 in
theorem legB_any (t : Tab) (b : Nat) (x : Lg) (w : World) (hx : Lg.ok w x) (hb : Blk w b t.cells) (h1 : 1 ≤ t.n) (h64 : t.n ≤ 64) : Calls Tryz.prog 46 #[x.v, ptr b] w (RetB w (legB t.n x)) := by
  have q0 := hb.c 0 _ rfl
  have bl := hb.lt
  have HX := Lib.hid hx
  have HD : Hid (legB t.n x = (inn x.seg 0 127 && inn x.vol 0 (t.n - 1) && inn x.len 1 4096 && decide (0 < x.mi.l.length) && chkHE x.mi.l == 0)) := rfl
  clear hb hx
  go_enter Tryz.func46, Tryz.ntmps46
  cases h1 : inn x.seg 0 127
  · go_wp2_with fail
    refine (inn_at false h1).mono ?_
    rintro e w1 ⟨rfl, rfl⟩
    go_wp2_with fail
    go_ret
    exact ⟨ret_bool (by rw [HD.out]; simp [h1]), ext_alloc (ext_refl _) _⟩
  have hw : IntKind.i64.wrap (t.n - 1) = t.n - 1 := IntWalk.i64_in _ (by omega)
  cases h2 : inn x.vol 0 (t.n - 1)
  · go_wp2_with fail
    refine (inn_at true h1).mono ?_
    rintro e w1 ⟨rfl, rfl⟩
    go_wp2_with fail
    refine (inn_at false h2).mono ?_
    rintro e w1 ⟨rfl, rfl⟩
    go_wp2_with fail
    go_ret
    exact ⟨ret_bool (by rw [HD.out]; simp [h1, h2]), ext_alloc (ext_refl _) _⟩
  cases h3 : inn x.len 1 4096
  · go_wp2_with fail
    refine (inn_at true h1).mono ?_
    rintro e w1 ⟨rfl, rfl⟩
    go_wp2_with fail
    refine (inn_at true h2).mono ?_
    rintro e w1 ⟨rfl, rfl⟩
    go_wp2_with fail
    refine (inn_at false h3).mono ?_
    rintro e w1 ⟨rfl, rfl⟩
    go_wp2_with fail
    go_ret
    exact ⟨ret_bool (by rw [HD.out]; simp [h1, h2, h3]), ext_alloc (ext_refl _) _⟩
  by_cases h4 : 0 < x.mi.l.length
  · have h4' : decide ((0 : Int) < x.mi.l.length) = true := decide_eq_true (by omega)
    go_wp2_with fail
    refine (inn_at true h1).mono ?_
    rintro e w1 ⟨rfl, rfl⟩
    go_wp2_with fail
    refine (inn_at true h2).mono ?_
    rintro e w1 ⟨rfl, rfl⟩
    go_wp2_with fail
    refine (inn_at true h3).mono ?_
    rintro e w1 ⟨rfl, rfl⟩
    go_wp2_with fail
    rcases chkHE_01 x.mi.l with h5 | h5
    · refine (hcheck_at 0 h5 rfl (HX.out.slc.alloc _) HX.out.len).mono ?_
      rintro e w1 ⟨rfl, B⟩
      go_wp2_with fail
      go_ret
      exact ⟨ret_bool (by rw [HD.out]; simp [h1, h2, h3, h4, h5]), ext_trans (ext_alloc (ext_refl _) _) B⟩
    · refine (hcheck_at 50 h5 rfl (HX.out.slc.alloc _) HX.out.len).mono ?_
      rintro e w1 ⟨rfl, B⟩
      go_wp2_with fail
      go_ret
      exact ⟨ret_bool (by rw [HD.out]; simp [h1, h2, h3, h4, h5]), ext_trans (ext_alloc (ext_refl _) _) B⟩
  · have h4' : decide ((0 : Int) < x.mi.l.length) = false := decide_eq_false (by omega)
    go_wp2_with fail
    refine (inn_at true h1).mono ?_
    rintro e w1 ⟨rfl, rfl⟩
    go_wp2_with fail
    refine (inn_at true h2).mono ?_
    rintro e w1 ⟨rfl, rfl⟩
    go_wp2_with fail
    refine (inn_at true h3).mono ?_
    rintro e w1 ⟨rfl, rfl⟩
    go_wp2_with fail
    go_ret
    exact ⟨ret_bool (by rw [HD.out]; simp [h4]), ext_alloc (ext_refl _) _⟩
theorem apB_at {t : Tab} {b : Nat} {n : Int} {w : World} (r : Bool) (hr : apB t.ms.l.length n = r) (hb : Blk w b t.cells) (hm : t.ms.l.length ≤ maxLen) : Calls Tryz.prog 48 #[.int .i64 n, ptr b] w fun e w' => e = .returned (.bool r) ∧ w = w' := by
  subst hr
  have q4 := hb.c 4 _ rfl
  have bl := hb.lt
  clear hb
  unfold maxLen at hm
  have hw : IntKind.i64.wrap ((t.ms.l.length : Int) - 1) = (t.ms.l.length : Int) - 1 := IntWalk.i64_in _ (by omega)
  go_enter Tryz.func48, Tryz.ntmps48
  go_wp2_with fail
  refine (inn_any _ _ _ _).mono ?_
  rintro e w1 ⟨rfl, rfl⟩
  go_wp2_with fail
  go_ret
  exact ⟨ret_bool rfl, rfl⟩
set_option maxHeartbeats 2000000 in
theorem wayB_any (t : Tab) (b ba bg : Nat) (x : Wy) (w : World) (hx : Wy.ok w x) (hb : Blk w b t.cells) (h1 : 1 ≤ t.n) (h64 : t.n ≤ 64) (hm : t.ms.l.length ≤ maxLen) (hba : Blk w ba [.func (.func 48) #[] #[ptr b]]) (hbg : Blk w bg [.func (.func 46) #[] #[ptr b]]) :
    Calls Tryz.prog 49 #[x.v, ptr ba, ptr bg] w (RetB w (wayB t.n t.ms.l.length x)) := by
  have qa := hba.c 0 _ rfl
  have qg := hbg.c 0 _ rfl
  have la := hba.lt
  have lg := hbg.lt
  have HB := Lib.hid hb
  have HX := Lib.hid hx
  have HD : Hid (wayB t.n t.ms.l.length x = (apB t.ms.l.length x.f && apB t.ms.l.length x.t && inn x.legs.l.length 1 8 && x.legs.l.all (legB t.n))) := rfl
  have HL := Lib.hid (allLg 46 (ptr b) (legB t.n) x.legs.A x.legs.c x.legs.l (w.alloc (.cells #[.int .i64 x.f, .int .i64 x.t, .slice x.legs.A x.legs.l.length x.legs.c] 68)) (hx.slc.alloc _) hx.len enters45
    (fun y W hy hW => legB_any t b y W (((hx.all hy).ext (ext_alloc (ext_refl w) _)).ext hW) ((hb.alloc _).ext hW) h1 h64))
  clear hb hx hba hbg h1 h64
  go_enter Tryz.func49, Tryz.ntmps49
  cases h1 : apB t.ms.l.length x.f
  · go_wp2_with fail
    refine (apB_at false h1 (HB.out.alloc _) hm).mono ?_
    rintro e w1 ⟨rfl, rfl⟩
    go_wp2_with fail
    go_ret
    exact ⟨ret_bool (by rw [HD.out]; simp [h1]), ext_alloc (ext_refl _) _⟩
  cases h2 : apB t.ms.l.length x.t
  · go_wp2_with fail
    refine (apB_at true h1 (HB.out.alloc _) hm).mono ?_
    rintro e w1 ⟨rfl, rfl⟩
    go_wp2_with fail
    refine (apB_at false h2 (HB.out.alloc _) hm).mono ?_
    rintro e w1 ⟨rfl, rfl⟩
    go_wp2_with fail
    go_ret
    exact ⟨ret_bool (by rw [HD.out]; simp [h1, h2]), ext_alloc (ext_refl _) _⟩
  cases h3 : inn x.legs.l.length 1 8
  · go_wp2_with fail
    refine (apB_at true h1 (HB.out.alloc _) hm).mono ?_
    rintro e w1 ⟨rfl, rfl⟩
    go_wp2_with fail
    refine (apB_at true h2 (HB.out.alloc _) hm).mono ?_
    rintro e w1 ⟨rfl, rfl⟩
    go_wp2_with fail
    refine (inn_at false h3).mono ?_
    rintro e w1 ⟨rfl, rfl⟩
    go_wp2_with fail
    go_ret
    exact ⟨ret_bool (by rw [HD.out]; simp [h1, h2, h3]), ext_alloc (ext_refl _) _⟩
  · go_wp2_with fail
    refine (apB_at true h1 (HB.out.alloc _) hm).mono ?_
    rintro e w1 ⟨rfl, rfl⟩
    go_wp2_with fail
    refine (apB_at true h2 (HB.out.alloc _) hm).mono ?_
    rintro e w1 ⟨rfl, rfl⟩
    go_wp2_with fail
    refine (inn_at true h3).mono ?_
    rintro e w1 ⟨rfl, rfl⟩
    go_wp2_with fail
    refine HL.out.mono ?_
    rintro e w1 ⟨rfl, B⟩
    go_wp2_with fail
    go_ret
    exact ⟨ret_bool (by rw [HD.out]; simp [h1, h2, h3]), ext_trans (ext_alloc (ext_refl _) _) B⟩
theorem scheck_at {k : Kd} {w : World} (r : Int) (hr : chkK k = r) (hk : Kd.ok w k) : Calls Tryz.prog 52 #[k.v] w (RetE w r) := by
  subst hr; exact scheck_any k w hk
theorem chkK_01 (k : Kd) : chkK k = 0 ∨ chkK k = 120 := by unfold chkK; split <;> simp
set_option maxHeartbeats 2000000 in
theorem kindB_any (t : Tab) (b : Nat) (x : Kd) (w : World) (hx : Kd.ok w x) (hb : Blk w b t.cells) : Calls Tryz.prog 51 #[x.v, ptr b] w (RetB w (kindB t.ms.l.length x)) := by
  have HB := Lib.hid hb
  have HX := Lib.hid hx
  have HN := Lib.hid (Blk.newH w x.cells 74 w.heap.size rfl)
  clear hb hx
  go_enter Tryz.func51, Tryz.ntmps51
  rcases chkK_01 x with h1 | h1
  · go_wp2_with fail
    refine (scheck_at 0 h1 (HX.out.ext (ext_alloc (ext_refl _) _))).mono ?_
    rintro e w1 ⟨rfl, B⟩
    have q4 := ((HB.out.alloc _).ext B).c 4 _ rfl
    have l4 := ((HB.out.alloc _).ext B).lt
    have n5 := (HN.out.ext B).c 5 _ rfl
    have nl := (HN.out.ext B).lt
    by_cases h2 : x.cur.l.length = t.ms.l.length
    · have h2' : ((x.cur.l.length : Int) == t.ms.l.length) = true := by simp; omega
      go_wp2_with fail
      go_ret
      exact ⟨ret_bool (by simp [kindB, h1, h2]), ext_trans (ext_alloc (ext_refl _) _) B⟩
    · have h2' : ((x.cur.l.length : Int) == t.ms.l.length) = false := by simp; omega
      go_wp2_with fail
      go_ret
      exact ⟨ret_bool (by simp [kindB, h1, h2]), ext_trans (ext_alloc (ext_refl _) _) B⟩
  · go_wp2_with fail
    refine (scheck_at 120 h1 (HX.out.ext (ext_alloc (ext_refl _) _))).mono ?_
    rintro e w1 ⟨rfl, B⟩
    go_wp2_with fail
    go_ret
    exact ⟨ret_bool (by simp [kindB, h1]), ext_trans (ext_alloc (ext_refl _) _) B⟩
end Go.Proofs.YtilocjliplmmpaaGreat
