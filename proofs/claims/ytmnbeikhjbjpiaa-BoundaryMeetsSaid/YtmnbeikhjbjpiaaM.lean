/- Contracts: is a boundary valid? -/
import Derived.Test.YtmnbeikhjbjpiaaD
import Derived.Test.YtmnbeikhjbjpiaaD2
import Derived.Test.YtmnbeikhjbjpiaaE
import Derived.Test.YtmnbeikhjbjpiaaL0
set_option linter.unusedSimpArgs false
set_option linter.unusedVariables false
namespace Go.Proofs.Ytmnbeikhjbjpiaa
open Go.RowKit
theorem both_find (ag op : List Ag) : (op.find? (fun a => (numd ag a.no).isSome)).isSome = both ag op := by
  rw [Bool.eq_iff_iff, List.find?_isSome]; unfold both; rw [List.any_eq_true]
theorem listed_at {b : Bd} {A : Option Addr} {c n : Nat} {l : List Ag} {w : World} (r : Bool) (hr : okL b.own b.ot l = r) (hn : n = l.length) (ha : Slc w Ag.cells 5 A l) (hl : l.length ≤ maxLen) : Calls Try.prog 50 #[.agg #[.int .i64 b.own, .int .i64 b.ot, .slice b.ag.A b.ag.l.length b.ag.c, .slice b.op.A b.op.l.length b.op.c], .slice A n c] w (RetB w r) := by
  subst hr hn; exact listed_any b A c l w ha hl
theorem rlist_at {own ot : Int} {A : Option Addr} {c n : Nat} {l : List Ag} {w : World} (r : Bool) (hr : okL own ot l = r) (hn : n = l.length) (ha : Slc w Ag.cells 5 A l) (hl : l.length ≤ maxLen) : Calls Try.prog 48 #[.slice A n c, .int .i64 own, .int .i64 ot] w (RetB w r) := by
  subst hr hn; exact rlist_any own ot A c l w ha hl
theorem cen_at {a b : Int} {w : World} (r : Bool) (hr : cen a b = r) : Calls Try.prog 46 #[.int .i64 a, .int .i64 b] w (RetB w r) := by subst hr; exact cen_any a b w
theorem rcen_at {a b : Int} {w : World} (r : Bool) (hr : cen a b = r) : Calls Try.prog 47 #[.int .i64 a, .int .i64 b] w (RetB w r) := by
  subst hr; exact (rcen_any a b w).mono fun e w' ⟨h1, h2⟩ => ⟨h1, by rw [← h2]; exact ext_refl w⟩
set_option maxHeartbeats 600000 in
theorem v1_any (x : Ag) (b : Bd) (B : Nat) (w : World) (hB : Blk w B [.int .i64 b.own, .int .i64 b.ot, .slice b.ag.A b.ag.l.length b.ag.c, .slice b.op.A b.op.l.length b.op.c]) (hb : Slc w Ag.cells 5 b.ag.A b.ag.l) (hl : b.ag.l.length ≤ maxLen) : Calls Try.prog 52 #[x.v, .pointer (some ⟨B, 0, none⟩)] w (RetB w (numd b.ag.l x.no).isSome) := by
  obtain ⟨o, ho⟩ : ∃ o, numd b.ag.l x.no = o := ⟨_, rfl⟩
  have HO := Lib.hid ho
  rw [ho]
  clear ho
  have E := Lib.hid (ext_refl w)
  have BB := Lib.hid (hB)
  have SL := Lib.hid (hb)
  clear hB hb
  replace E := Lib.hid (ext_alloc E.out (.cells #[.int .i64 x.no, .int .i64 x.f, .int .i64 x.t, .int .i64 x.m, .int .i64 x.r] 26))
  replace BB := Lib.hid (BB.out.alloc (.cells #[.int .i64 x.no, .int .i64 x.f, .int .i64 x.t, .int .i64 x.m, .int .i64 x.r] 26))
  replace SL := Lib.hid (SL.out.alloc (.cells #[.int .i64 x.no, .int .i64 x.f, .int .i64 x.t, .int .i64 x.m, .int .i64 x.r] 26))
  have X := Lib.hid (Blk.newH w [.int .i64 x.no, .int .i64 x.f, .int .i64 x.t, .int .i64 x.m, .int .i64 x.r] 26 (w.heap.size) (by first | rfl | simp))
  go_enter Try.func52, Try.ntmps52
  have c0 := BB.out.c 2 _ rfl
  have c1 := X.out.c 0 _ rfl
  go_wp2_with fail
  refine (numd_at o HO.out rfl SL.out hl).mono ?_
  rintro e v1 ⟨y, rfl, -, B⟩
  clear c0 c1
  replace E := Lib.hid (ext_trans E.out B)
  replace BB := Lib.hid (BB.out.ext B)
  replace SL := Lib.hid (SL.out.ext B)
  replace X := Lib.hid (X.out.ext B)
  clear B
  go_wp2_with fail
  go_ret
  exact ⟨rfl, ext_alloc E.out _⟩
theorem find_at (g : Nat) (cap1 : Value) (p : Ag → Bool) {A : Option Addr} {c : Nat} {l : List Ag} {w : World} (o : Option Ag) (ho : l.find? p = o) (ha : Slc w Ag.cells 5 A l) (hn : l.length ≤ maxLen) (hE : Enters Try.prog g)
    (hp : ∀ (x : Ag) (W : World), x ∈ l → Below w.heap.size w W → Calls Try.prog g #[x.v, cap1] W fun e W' => e = .returned (.bool (p x)) ∧ Below W.heap.size W W') :
    Calls Try.prog 51 #[.slice A l.length c, .func (.func g) #[] #[cap1]] w (FindR w o) := by
  subst ho; exact find_any g cap1 p A c l w ha hn hE hp
set_option maxHeartbeats 800000 in
theorem valid33_any (b : Bd) (w : World) (hb : BOk w b) : Calls Try.prog 33 #[b.v] w (RetB w b.bl.ok) := by
  have hagl := maxLen_of hb.agl hb.agc
  have hopl := maxLen_of hb.opl hb.opc
  obtain ⟨c, hc⟩ : ∃ c, cen b.own b.ot = c := ⟨_, rfl⟩
  obtain ⟨r1, h1⟩ : ∃ r, okL b.own b.ot b.ag.l = r := ⟨_, rfl⟩
  obtain ⟨r2, h2⟩ : ∃ r, okL b.own b.ot b.op.l = r := ⟨_, rfl⟩
  obtain ⟨o, ho⟩ : ∃ o, b.op.l.find? (fun a => (numd b.ag.l a.no).isSome) = o := ⟨_, rfl⟩
  have HV := Lib.hid (show b.bl.ok = (c && r1 && r2 && !o.isSome) by rw [← hc, ← h1, ← h2, ← ho, both_find]; rfl)
  have HC := Lib.hid hc
  have H1 := Lib.hid h1
  have H2 := Lib.hid h2
  have HO := Lib.hid ho
  clear hc h1 h2 ho
  cases c
  · have E := Lib.hid (ext_refl w)
    have HB := Lib.hid (hb)
    replace E := Lib.hid (ext_alloc E.out (.cells #[.int .i64 b.own, .int .i64 b.ot, .slice b.ag.A b.ag.l.length b.ag.c, .slice b.op.A b.op.l.length b.op.c] 64))
    replace HB := Lib.hid (HB.out.alloc (.cells #[.int .i64 b.own, .int .i64 b.ot, .slice b.ag.A b.ag.l.length b.ag.c, .slice b.op.A b.op.l.length b.op.c] 64))
    have BB := Lib.hid (Blk.newH w [.int .i64 b.own, .int .i64 b.ot, .slice b.ag.A b.ag.l.length b.ag.c, .slice b.op.A b.op.l.length b.op.c] 64 (w.heap.size) (by first | rfl | simp))
    go_enter Try.func33, Try.ntmps33
    have c0 := BB.out.c 0 _ rfl
    have c1 := BB.out.c 1 _ rfl
    go_wp2_with fail
    refine (cen_at false HC.out).mono ?_
    rintro e v1 ⟨rfl, B⟩
    clear c0 c1
    replace E := Lib.hid (ext_trans E.out B)
    replace HB := Lib.hid (HB.out.ext B)
    replace BB := Lib.hid (BB.out.ext B)
    clear B
    go_wp2_with fail
    go_ret
    exact ⟨ret_bool (by rw [HV.out]; rfl), E.out⟩
  cases r1
  · have E := Lib.hid (ext_refl w)
    have HB := Lib.hid (hb)
    replace E := Lib.hid (ext_alloc E.out (.cells #[.int .i64 b.own, .int .i64 b.ot, .slice b.ag.A b.ag.l.length b.ag.c, .slice b.op.A b.op.l.length b.op.c] 64))
    replace HB := Lib.hid (HB.out.alloc (.cells #[.int .i64 b.own, .int .i64 b.ot, .slice b.ag.A b.ag.l.length b.ag.c, .slice b.op.A b.op.l.length b.op.c] 64))
    have BB := Lib.hid (Blk.newH w [.int .i64 b.own, .int .i64 b.ot, .slice b.ag.A b.ag.l.length b.ag.c, .slice b.op.A b.op.l.length b.op.c] 64 (w.heap.size) (by first | rfl | simp))
    go_enter Try.func33, Try.ntmps33
    have c0 := BB.out.c 0 _ rfl
    have c1 := BB.out.c 1 _ rfl
    go_wp2_with fail
    refine (cen_at true HC.out).mono ?_
    rintro e v1 ⟨rfl, B⟩
    clear c0 c1
    replace E := Lib.hid (ext_trans E.out B)
    replace HB := Lib.hid (HB.out.ext B)
    replace BB := Lib.hid (BB.out.ext B)
    clear B
    have c0 := BB.out.c 0 _ rfl
    have c1 := BB.out.c 1 _ rfl
    have c2 := BB.out.c 2 _ rfl
    have c3 := BB.out.c 3 _ rfl
    go_wp2_with fail
    refine (listed_at (b := b) false H1.out rfl HB.out.ag hagl).mono ?_
    rintro e v2 ⟨rfl, B⟩
    clear c0 c1 c2 c3
    replace E := Lib.hid (ext_trans E.out B)
    replace HB := Lib.hid (HB.out.ext B)
    replace BB := Lib.hid (BB.out.ext B)
    clear B
    go_wp2_with fail
    go_ret
    exact ⟨ret_bool (by rw [HV.out]; rfl), E.out⟩
  cases r2
  · have E := Lib.hid (ext_refl w)
    have HB := Lib.hid (hb)
    replace E := Lib.hid (ext_alloc E.out (.cells #[.int .i64 b.own, .int .i64 b.ot, .slice b.ag.A b.ag.l.length b.ag.c, .slice b.op.A b.op.l.length b.op.c] 64))
    replace HB := Lib.hid (HB.out.alloc (.cells #[.int .i64 b.own, .int .i64 b.ot, .slice b.ag.A b.ag.l.length b.ag.c, .slice b.op.A b.op.l.length b.op.c] 64))
    have BB := Lib.hid (Blk.newH w [.int .i64 b.own, .int .i64 b.ot, .slice b.ag.A b.ag.l.length b.ag.c, .slice b.op.A b.op.l.length b.op.c] 64 (w.heap.size) (by first | rfl | simp))
    go_enter Try.func33, Try.ntmps33
    have c0 := BB.out.c 0 _ rfl
    have c1 := BB.out.c 1 _ rfl
    go_wp2_with fail
    refine (cen_at true HC.out).mono ?_
    rintro e v1 ⟨rfl, B⟩
    clear c0 c1
    replace E := Lib.hid (ext_trans E.out B)
    replace HB := Lib.hid (HB.out.ext B)
    replace BB := Lib.hid (BB.out.ext B)
    clear B
    have c0 := BB.out.c 0 _ rfl
    have c1 := BB.out.c 1 _ rfl
    have c2 := BB.out.c 2 _ rfl
    have c3 := BB.out.c 3 _ rfl
    go_wp2_with fail
    refine (listed_at (b := b) true H1.out rfl HB.out.ag hagl).mono ?_
    rintro e v2 ⟨rfl, B⟩
    clear c0 c1 c2 c3
    replace E := Lib.hid (ext_trans E.out B)
    replace HB := Lib.hid (HB.out.ext B)
    replace BB := Lib.hid (BB.out.ext B)
    clear B
    have c0 := BB.out.c 0 _ rfl
    have c1 := BB.out.c 1 _ rfl
    have c2 := BB.out.c 2 _ rfl
    have c3 := BB.out.c 3 _ rfl
    go_wp2_with fail
    refine (listed_at (b := b) false H2.out rfl HB.out.op hopl).mono ?_
    rintro e v3 ⟨rfl, B⟩
    clear c0 c1 c2 c3
    replace E := Lib.hid (ext_trans E.out B)
    replace HB := Lib.hid (HB.out.ext B)
    replace BB := Lib.hid (BB.out.ext B)
    clear B
    go_wp2_with fail
    go_ret
    exact ⟨ret_bool (by rw [HV.out]; rfl), E.out⟩
  have E := Lib.hid (ext_refl w)
  have HB := Lib.hid (hb)
  replace E := Lib.hid (ext_alloc E.out (.cells #[.int .i64 b.own, .int .i64 b.ot, .slice b.ag.A b.ag.l.length b.ag.c, .slice b.op.A b.op.l.length b.op.c] 64))
  replace HB := Lib.hid (HB.out.alloc (.cells #[.int .i64 b.own, .int .i64 b.ot, .slice b.ag.A b.ag.l.length b.ag.c, .slice b.op.A b.op.l.length b.op.c] 64))
  have BB := Lib.hid (Blk.newH w [.int .i64 b.own, .int .i64 b.ot, .slice b.ag.A b.ag.l.length b.ag.c, .slice b.op.A b.op.l.length b.op.c] 64 (w.heap.size) (by first | rfl | simp))
  go_enter Try.func33, Try.ntmps33
  have c0 := BB.out.c 0 _ rfl
  have c1 := BB.out.c 1 _ rfl
  go_wp2_with fail
  refine (cen_at true HC.out).mono ?_
  rintro e v1 ⟨rfl, B⟩
  clear c0 c1
  replace E := Lib.hid (ext_trans E.out B)
  replace HB := Lib.hid (HB.out.ext B)
  replace BB := Lib.hid (BB.out.ext B)
  clear B
  have c0 := BB.out.c 0 _ rfl
  have c1 := BB.out.c 1 _ rfl
  have c2 := BB.out.c 2 _ rfl
  have c3 := BB.out.c 3 _ rfl
  go_wp2_with fail
  refine (listed_at (b := b) true H1.out rfl HB.out.ag hagl).mono ?_
  rintro e v2 ⟨rfl, B⟩
  clear c0 c1 c2 c3
  replace E := Lib.hid (ext_trans E.out B)
  replace HB := Lib.hid (HB.out.ext B)
  replace BB := Lib.hid (BB.out.ext B)
  clear B
  have c0 := BB.out.c 0 _ rfl
  have c1 := BB.out.c 1 _ rfl
  have c2 := BB.out.c 2 _ rfl
  have c3 := BB.out.c 3 _ rfl
  go_wp2_with fail
  refine (listed_at (b := b) true H2.out rfl HB.out.op hopl).mono ?_
  rintro e v3 ⟨rfl, B⟩
  clear c0 c1 c2 c3
  replace E := Lib.hid (ext_trans E.out B)
  replace HB := Lib.hid (HB.out.ext B)
  replace BB := Lib.hid (BB.out.ext B)
  clear B
  have c0 := BB.out.c 3 _ rfl
  go_wp2_with fail
  refine (find_at 52 (.pointer (some ⟨w.heap.size, 0, none⟩)) (fun a => (numd b.ag.l a.no).isSome) o HO.out HB.out.op hopl enters52 (fun x W _ hW => v1_any x b w.heap.size W (BB.out.ext hW) (HB.out.ag.ext hW) hagl)).mono ?_
  rintro e v4 ⟨y, rfl, -, B⟩
  clear c0
  replace E := Lib.hid (ext_trans E.out B)
  replace HB := Lib.hid (HB.out.ext B)
  replace BB := Lib.hid (BB.out.ext B)
  clear B
  obtain ⟨s, hs⟩ : ∃ s, o.isSome = s := ⟨_, rfl⟩
  have HS := Lib.hid hs
  rw [hs]
  clear hs
  cases s
  · go_wp2_with fail
    go_ret
    exact ⟨ret_bool (by rw [HV.out, HS.out]; rfl), ext_alloc E.out _⟩
  · go_wp2_with fail
    go_ret
    exact ⟨ret_bool (by rw [HV.out, HS.out]; rfl), ext_alloc E.out _⟩
theorem valid33_at {b : Bd} {w : World} (r : Bool) (hr : b.bl.ok = r) (hb : BOk w b) : Calls Try.prog 33 #[.agg #[.int .i64 b.own, .int .i64 b.ot, .slice b.ag.A b.ag.l.length b.ag.c, .slice b.op.A b.op.l.length b.op.c]] w (RetB w r) := by
  subst hr; exact valid33_any b w hb
theorem check_any (b : Bd) (w : World) (hb : BOk w b) : Calls Try.prog 25 #[b.v] w (RetE w b.bl.chk) := by
  obtain ⟨r, hr⟩ : ∃ r, b.bl.ok = r := ⟨_, rfl⟩
  have HR := Lib.hid hr
  have HC := Lib.hid (show b.bl.chk = if r then 0 else 480 by rw [← hr]; rfl)
  clear hr
  have E := Lib.hid (ext_refl w)
  have HB := Lib.hid (hb)
  replace E := Lib.hid (ext_alloc E.out (.cells #[.int .i64 b.own, .int .i64 b.ot, .slice b.ag.A b.ag.l.length b.ag.c, .slice b.op.A b.op.l.length b.op.c] 24))
  replace HB := Lib.hid (HB.out.alloc (.cells #[.int .i64 b.own, .int .i64 b.ot, .slice b.ag.A b.ag.l.length b.ag.c, .slice b.op.A b.op.l.length b.op.c] 24))
  have BB := Lib.hid (Blk.newH w [.int .i64 b.own, .int .i64 b.ot, .slice b.ag.A b.ag.l.length b.ag.c, .slice b.op.A b.op.l.length b.op.c] 24 (w.heap.size) (by first | rfl | simp))
  go_enter Try.func25, Try.ntmps25
  go_wp2_with fail
  refine (valid33_at r HR.out HB.out).mono ?_
  rintro e v1 ⟨rfl, B⟩
  replace E := Lib.hid (ext_trans E.out B)
  replace HB := Lib.hid (HB.out.ext B)
  replace BB := Lib.hid (BB.out.ext B)
  clear B
  cases r
  · go_wp2_with fail
    go_ret
    exact ⟨ret_int (by rw [HC.out]; rfl), E.out⟩
  · go_wp2_with fail
    go_ret
    exact ⟨ret_int (by rw [HC.out]; rfl), E.out⟩
theorem check_at {b : Bd} {w : World} (r : Int) (hr : b.bl.chk = r) (hb : BOk w b) : Calls Try.prog 25 #[.agg #[.int .i64 b.own, .int .i64 b.ot, .slice b.ag.A b.ag.l.length b.ag.c, .slice b.op.A b.op.l.length b.op.c]] w (RetE w r) := by
  subst hr; exact check_any b w hb
theorem both_no {ag op : List Ag} (h : ∀ a ∈ op, numd ag a.no = none) : both ag op = false := by
  unfold both; rw [List.any_eq_false]; intro a ha; rw [h a ha]; simp
theorem both_yes {ag op : List Ag} {a : Ag} (ha : a ∈ op) (h : (numd ag a.no).isSome = true) : both ag op = true := by
  unfold both; rw [List.any_eq_true]; exact ⟨a, ha, h⟩
set_option maxHeartbeats 1200000 in
theorem rcheck_any (b : Bd) (w : World) (hb : BOk w b) : Calls Try.prog 26 #[b.v] w (RetE w b.bl.chk) := by
  have hagl := maxLen_of hb.agl hb.agc
  have hopl := maxLen_of hb.opl hb.opc
  obtain ⟨c, hc⟩ : ∃ c, cen b.own b.ot = c := ⟨_, rfl⟩
  obtain ⟨r1, h1⟩ : ∃ r, okL b.own b.ot b.ag.l = r := ⟨_, rfl⟩
  obtain ⟨r2, h2⟩ : ∃ r, okL b.own b.ot b.op.l = r := ⟨_, rfl⟩
  have HV := Lib.hid (show b.bl.ok = (c && r1 && r2 && !both b.ag.l b.op.l) by rw [← hc, ← h1, ← h2]; rfl)
  have HC := Lib.hid hc
  have H1 := Lib.hid h1
  have H2 := Lib.hid h2
  clear hc h1 h2
  cases c
  · have E := Lib.hid (ext_refl w)
    have HB := Lib.hid (hb)
    replace E := Lib.hid (ext_alloc E.out (.cells #[.int .i64 b.own, .int .i64 b.ot, .slice b.ag.A b.ag.l.length b.ag.c, .slice b.op.A b.op.l.length b.op.c] 24))
    replace HB := Lib.hid (HB.out.alloc (.cells #[.int .i64 b.own, .int .i64 b.ot, .slice b.ag.A b.ag.l.length b.ag.c, .slice b.op.A b.op.l.length b.op.c] 24))
    have BB := Lib.hid (Blk.newH w [.int .i64 b.own, .int .i64 b.ot, .slice b.ag.A b.ag.l.length b.ag.c, .slice b.op.A b.op.l.length b.op.c] 24 (w.heap.size) (by first | rfl | simp))
    go_enter Try.func26, Try.ntmps26
    have c0 := BB.out.c 0 _ rfl
    have c1 := BB.out.c 1 _ rfl
    go_wp2_with fail
    refine (rcen_at false HC.out).mono ?_
    rintro e v1 ⟨rfl, B⟩
    clear c0 c1
    replace E := Lib.hid (ext_trans E.out B)
    replace HB := Lib.hid (HB.out.ext B)
    replace BB := Lib.hid (BB.out.ext B)
    clear B
    go_wp2_with fail
    go_ret
    exact ⟨ret_int (by unfold Bl.chk; rw [HV.out]; rfl), E.out⟩
  cases r1
  · have E := Lib.hid (ext_refl w)
    have HB := Lib.hid (hb)
    replace E := Lib.hid (ext_alloc E.out (.cells #[.int .i64 b.own, .int .i64 b.ot, .slice b.ag.A b.ag.l.length b.ag.c, .slice b.op.A b.op.l.length b.op.c] 24))
    replace HB := Lib.hid (HB.out.alloc (.cells #[.int .i64 b.own, .int .i64 b.ot, .slice b.ag.A b.ag.l.length b.ag.c, .slice b.op.A b.op.l.length b.op.c] 24))
    have BB := Lib.hid (Blk.newH w [.int .i64 b.own, .int .i64 b.ot, .slice b.ag.A b.ag.l.length b.ag.c, .slice b.op.A b.op.l.length b.op.c] 24 (w.heap.size) (by first | rfl | simp))
    go_enter Try.func26, Try.ntmps26
    have c0 := BB.out.c 0 _ rfl
    have c1 := BB.out.c 1 _ rfl
    go_wp2_with fail
    refine (rcen_at true HC.out).mono ?_
    rintro e v1 ⟨rfl, B⟩
    clear c0 c1
    replace E := Lib.hid (ext_trans E.out B)
    replace HB := Lib.hid (HB.out.ext B)
    replace BB := Lib.hid (BB.out.ext B)
    clear B
    have c0 := BB.out.c 0 _ rfl
    have c1 := BB.out.c 1 _ rfl
    have c2 := BB.out.c 2 _ rfl
    go_wp2_with fail
    refine (rlist_at false H1.out rfl HB.out.ag hagl).mono ?_
    rintro e v2 ⟨rfl, B⟩
    clear c0 c1 c2
    replace E := Lib.hid (ext_trans E.out B)
    replace HB := Lib.hid (HB.out.ext B)
    replace BB := Lib.hid (BB.out.ext B)
    clear B
    go_wp2_with fail
    go_ret
    exact ⟨ret_int (by unfold Bl.chk; rw [HV.out]; rfl), E.out⟩
  cases r2
  · have E := Lib.hid (ext_refl w)
    have HB := Lib.hid (hb)
    replace E := Lib.hid (ext_alloc E.out (.cells #[.int .i64 b.own, .int .i64 b.ot, .slice b.ag.A b.ag.l.length b.ag.c, .slice b.op.A b.op.l.length b.op.c] 24))
    replace HB := Lib.hid (HB.out.alloc (.cells #[.int .i64 b.own, .int .i64 b.ot, .slice b.ag.A b.ag.l.length b.ag.c, .slice b.op.A b.op.l.length b.op.c] 24))
    have BB := Lib.hid (Blk.newH w [.int .i64 b.own, .int .i64 b.ot, .slice b.ag.A b.ag.l.length b.ag.c, .slice b.op.A b.op.l.length b.op.c] 24 (w.heap.size) (by first | rfl | simp))
    go_enter Try.func26, Try.ntmps26
    have c0 := BB.out.c 0 _ rfl
    have c1 := BB.out.c 1 _ rfl
    go_wp2_with fail
    refine (rcen_at true HC.out).mono ?_
    rintro e v1 ⟨rfl, B⟩
    clear c0 c1
    replace E := Lib.hid (ext_trans E.out B)
    replace HB := Lib.hid (HB.out.ext B)
    replace BB := Lib.hid (BB.out.ext B)
    clear B
    have c0 := BB.out.c 0 _ rfl
    have c1 := BB.out.c 1 _ rfl
    have c2 := BB.out.c 2 _ rfl
    go_wp2_with fail
    refine (rlist_at true H1.out rfl HB.out.ag hagl).mono ?_
    rintro e v2 ⟨rfl, B⟩
    clear c0 c1 c2
    replace E := Lib.hid (ext_trans E.out B)
    replace HB := Lib.hid (HB.out.ext B)
    replace BB := Lib.hid (BB.out.ext B)
    clear B
    have c0 := BB.out.c 0 _ rfl
    have c1 := BB.out.c 1 _ rfl
    have c2 := BB.out.c 3 _ rfl
    go_wp2_with fail
    refine (rlist_at false H2.out rfl HB.out.op hopl).mono ?_
    rintro e v3 ⟨rfl, B⟩
    clear c0 c1 c2
    replace E := Lib.hid (ext_trans E.out B)
    replace HB := Lib.hid (HB.out.ext B)
    replace BB := Lib.hid (BB.out.ext B)
    clear B
    go_wp2_with fail
    go_ret
    exact ⟨ret_int (by unfold Bl.chk; rw [HV.out]; rfl), E.out⟩
  have E := Lib.hid (ext_refl w)
  have HB := Lib.hid (hb)
  replace E := Lib.hid (ext_alloc E.out (.cells #[.int .i64 b.own, .int .i64 b.ot, .slice b.ag.A b.ag.l.length b.ag.c, .slice b.op.A b.op.l.length b.op.c] 24))
  replace HB := Lib.hid (HB.out.alloc (.cells #[.int .i64 b.own, .int .i64 b.ot, .slice b.ag.A b.ag.l.length b.ag.c, .slice b.op.A b.op.l.length b.op.c] 24))
  have BB := Lib.hid (Blk.newH w [.int .i64 b.own, .int .i64 b.ot, .slice b.ag.A b.ag.l.length b.ag.c, .slice b.op.A b.op.l.length b.op.c] 24 (w.heap.size) (by first | rfl | simp))
  go_enter Try.func26, Try.ntmps26
  have c0 := BB.out.c 0 _ rfl
  have c1 := BB.out.c 1 _ rfl
  go_wp2_with fail
  refine (rcen_at true HC.out).mono ?_
  rintro e v1 ⟨rfl, B⟩
  clear c0 c1
  replace E := Lib.hid (ext_trans E.out B)
  replace HB := Lib.hid (HB.out.ext B)
  replace BB := Lib.hid (BB.out.ext B)
  clear B
  have c0 := BB.out.c 0 _ rfl
  have c1 := BB.out.c 1 _ rfl
  have c2 := BB.out.c 2 _ rfl
  go_wp2_with fail
  refine (rlist_at true H1.out rfl HB.out.ag hagl).mono ?_
  rintro e v2 ⟨rfl, B⟩
  clear c0 c1 c2
  replace E := Lib.hid (ext_trans E.out B)
  replace HB := Lib.hid (HB.out.ext B)
  replace BB := Lib.hid (BB.out.ext B)
  clear B
  have c0 := BB.out.c 0 _ rfl
  have c1 := BB.out.c 1 _ rfl
  have c2 := BB.out.c 3 _ rfl
  go_wp2_with fail
  refine (rlist_at true H2.out rfl HB.out.op hopl).mono ?_
  rintro e v3 ⟨rfl, B⟩
  clear c0 c1 c2
  replace E := Lib.hid (ext_trans E.out B)
  replace HB := Lib.hid (HB.out.ext B)
  replace BB := Lib.hid (BB.out.ext B)
  clear B
  have HV2 := Lib.hid (show b.bl.chk = if both b.ag.l b.op.l then 480 else 0 by unfold Bl.chk; rw [HV.out]; cases both b.ag.l b.op.l <;> rfl)
  clear HV H1 H2 HC
  have hopl2 := hopl
  unfold maxLen at hopl2
  go_wp2_with fail
  go_loopw [3] (fun i wr => ∃ k : Nat, k ≤ b.op.l.length ∧ i = .int .i64 k ∧ Hid (∀ z a, z < k → b.op.l[z]? = some a → numd b.ag.l a.no = none) ∧ Hid (Blk wr w.heap.size [.int .i64 b.own, .int .i64 b.ot, .slice b.ag.A b.ag.l.length b.ag.c, .slice b.op.A b.op.l.length b.op.c]) ∧ Hid (BOk wr b) ∧ Hid (Below w.heap.size w wr)) (fun i _ => b.op.l.length - (intOf i).toNat)
  case atStart => exact ⟨0, Nat.zero_le _, rfl, (fun z a h => by omega), BB.out, HB.out, E.out⟩
  clear BB HB E
  case round =>
    obtain ⟨k, hk, rfl, HP, BB, HB, E⟩ := hrel
    have q2 := BB.out.c 2 _ rfl
    have q3 := BB.out.c 3 _ rfl
    by_cases hlt : k < b.op.l.length
    rotate_left
    · have hge : ¬ (k : Int) < b.op.l.length := by omega
      have HZ := Lib.hid (show both b.ag.l b.op.l = false from both_no (fun a ha => by
        obtain ⟨z, hz, rfl⟩ := List.getElem_of_mem ha
        exact HP.out z _ (by omega) (List.getElem?_eq_getElem hz)))
      go_wp2_with fail
      go_ret
      exact ⟨ret_int (by rw [HV2.out, HZ.out]; rfl), E.out⟩
    obtain ⟨x, b1, o1, hx, hA, hb1, hd⟩ := HB.out.op.at_ hlt
    have d0 := hd 0 _ rfl
    simp only [Nat.add_zero] at d0
    have HX := Lib.hid hx
    have hlt' : (k : Int) < b.op.l.length := by omega
    obtain ⟨sA, hsA⟩ : ∃ sA, b.op.A = sA := ⟨_, rfl⟩
    have HSA := Lib.hid hsA
    rw [hsA] at hA
    subst hA
    simp only [hsA] at *
    obtain ⟨o, ho⟩ : ∃ o, numd b.ag.l x.no = o := ⟨_, rfl⟩
    have HO := Lib.hid ho
    clear hd hx ho
    rename_i K2 a2
    clear a2
    go_wp2_with fail
    have E0 := E
    have HOFF := Lib.hid (HB.out.off (c := wr.heap.size) (Nat.le_refl _))
    have BBl := BB.out.lt
    have SS := Lib.hid (show ∀ w', Below wr.heap.size wr w' → (fun w' => Below wr.heap.size wr w' ∧ w'.cell? ⟨w.heap.size, 2, none⟩ = some (.slice b.ag.A b.ag.l.length b.ag.c) ∧ w'.cell? ⟨w.heap.size, 3, none⟩ = some (.slice (some ⟨b1, o1, none⟩) b.op.l.length b.op.c) ∧ w'.cell? ⟨b1, o1 + k * 5, none⟩ = some (.int .i64 x.no)) w' from fun w' h => ⟨h, (BB.out.ext h).c 2 _ rfl, (BB.out.ext h).c 3 _ rfl, (h.cell (p := ⟨b1, _, none⟩) hb1).trans d0⟩)
    refine rg_begin (S := (fun w' => Below wr.heap.size wr w' ∧ w'.cell? ⟨w.heap.size, 2, none⟩ = some (.slice b.ag.A b.ag.l.length b.ag.c) ∧ w'.cell? ⟨w.heap.size, 3, none⟩ = some (.slice (some ⟨b1, o1, none⟩) b.op.l.length b.op.c) ∧ w'.cell? ⟨b1, o1 + k * 5, none⟩ = some (.int .i64 x.no))) 13 (by kernel_rfl) (by intro d; cases d <;> intro _ _ _ _ h <;> exact h) ?_ (fun Q7 hQ7 hN7 hHeld => ?_)
    · exact SS.out _ (ext_drew (ext_refl _))
    refine rg_take (i := 0) (some 40) (v := ?_) rfl rfl (by kernel_rfl) (by rfl) hQ7 hHeld ?_ ?_
    rotate_left
    · intro w7 hSw; (try dsimp only at hSw); go_simp; all_goals with_reducible rfl
    try simp only [Act.put, List.setIfInBounds_toArray, List.set_cons_zero, List.set_cons_succ]
    refine rg_take (i := 1) (some 41) (v := ?_) rfl rfl (by kernel_rfl) (by rfl) hQ7 hHeld ?_ ?_
    rotate_left
    · intro w7 hSw; (try dsimp only at hSw); go_simp; all_goals with_reducible rfl
    try simp only [Act.put, List.setIfInBounds_toArray, List.set_cons_zero, List.set_cons_succ]
    refine rg_take (i := 2) (some 42) (v := ?_) rfl rfl (by kernel_rfl) (by rfl) hQ7 hHeld ?_ ?_
    rotate_left
    · intro w7 hSw; (try dsimp only at hSw); go_simp; all_goals with_reducible rfl
    try simp only [Act.put, List.setIfInBounds_toArray, List.set_cons_zero, List.set_cons_succ]
    refine rg_take (i := 3) (some 43) (v := ?_) rfl rfl (by kernel_rfl) (by rfl) hQ7 hHeld ?_ ?_
    rotate_left
    · intro w7 hSw; (try dsimp only at hSw); go_simp; all_goals with_reducible rfl
    try simp only [Act.put, List.setIfInBounds_toArray, List.set_cons_zero, List.set_cons_succ]
    refine rg_take (i := 4) (some 44) (v := ?_) rfl rfl (by kernel_rfl) (by rfl) hQ7 hHeld ?_ ?_
    rotate_left
    · intro w7 hSw; (try dsimp only at hSw); go_simp; all_goals with_reducible rfl
    try simp only [Act.put, List.setIfInBounds_toArray, List.set_cons_zero, List.set_cons_succ]
    refine rg_take (i := 5) (some 45) (v := ?_) rfl rfl (by kernel_rfl) (by rfl) hQ7 hHeld ?_ ?_
    rotate_left
    · intro w7 hSw; (try dsimp only at hSw); go_simp; all_goals with_reducible rfl
    try simp only [Act.put, List.setIfInBounds_toArray, List.set_cons_zero, List.set_cons_succ]
    refine rg_take (i := 6) (some 46) (v := ?_) rfl rfl (by kernel_rfl) (by rfl) hQ7 hHeld ?_ ?_
    rotate_left
    · intro w7 hSw; (try dsimp only at hSw); go_simp; all_goals with_reducible rfl
    try simp only [Act.put, List.setIfInBounds_toArray, List.set_cons_zero, List.set_cons_succ]
    refine rg_take (i := 7) (some 47) (v := ?_) rfl rfl (by kernel_rfl) (by rfl) hQ7 hHeld ?_ ?_
    rotate_left
    · intro w7 hSw; (try dsimp only at hSw); go_simp; all_goals with_reducible rfl
    try simp only [Act.put, List.setIfInBounds_toArray, List.set_cons_zero, List.set_cons_succ]
    refine rg_two (i := 8) (j := 12) (by kernel_rfl) (rg_step rfl (by rfl) (fun K hK => ?_)) (rg_step rfl (by rfl) (fun K hK => ?_))
    · go_simp
      refine (rfind_at o HO.out rfl (HB.out.ag.ext hHeld.1) hagl).mono ?_
      rintro e u1 ⟨y, rfl, rfl, B1⟩
      go_wp2_with fail
      refine hK.out _ _ ?_ (fun hHeld2 => ?_)
      · exact SS.out _ (ext_trans hHeld.1 B1)
      clear hHeld
      have hHeld := hHeld2
      clear hHeld2
      clear hK K
      try simp only [Act.put, List.setIfInBounds_toArray, List.set_cons_zero, List.set_cons_succ]
      refine rg_take (i := 9) (some 39) (v := ?_) rfl rfl (by kernel_rfl) (by rfl) hQ7 hHeld ?_ ?_
      rotate_left
      · intro w7 hSw; (try dsimp only at hSw); go_simp; all_goals with_reducible rfl
      try simp only [Act.put, List.setIfInBounds_toArray, List.set_cons_zero, List.set_cons_succ]
      refine rg_take (i := 10) (some 49) (v := ?_) rfl rfl (by kernel_rfl) (by rfl) hQ7 hHeld ?_ ?_
      rotate_left
      · intro w7 hSw; (try dsimp only at hSw); go_simp; all_goals with_reducible rfl
      try simp only [Act.put, List.setIfInBounds_toArray, List.set_cons_zero, List.set_cons_succ]
      refine rg_pure (i := 11) (some 50) (v := ?_) rfl rfl (by kernel_rfl) (by rfl) hQ7 (by first | exact .inr hHeld | exact .inl (by kernel_rfl)) ?_ ?_
      rotate_left
      · intro w7; go_simp; all_goals with_reducible rfl
      try simp only [Act.put, List.setIfInBounds_toArray, List.set_cons_zero, List.set_cons_succ]
      refine rg_one (i := 12) (by kernel_rfl) (rg_step rfl (by rfl) (fun K hK => ?_))
      go_simp
      refine hK.out _ _ ?_ (fun hHeld2 => ?_)
      · exact SS.out _ (ext_alloc hHeld.1 _)
      clear hHeld
      have hHeld := hHeld2
      clear hHeld2
      clear hK K
      try simp only [Act.put, List.setIfInBounds_toArray, List.set_cons_zero, List.set_cons_succ]
      skip
      refine rg_one (i := 13) (by kernel_rfl) (rg_late rfl (by rfl) (by kernel_rfl) (fun K hK => ?_))
      go_simp
      refine hK.out _ _ ?_
      clear hK K
      try simp only [Act.put, List.setIfInBounds_toArray, List.set_cons_zero, List.set_cons_succ]
      refine rg_pure (i := 14) (some 5) (v := ?_) rfl rfl (by kernel_rfl) (by rfl) hQ7 (by first | exact .inr hHeld | exact .inl (by kernel_rfl)) ?_ ?_
      rotate_left
      · intro w7; go_simp; all_goals with_reducible rfl
      try simp only [Act.put, List.setIfInBounds_toArray, List.set_cons_zero, List.set_cons_succ]
      refine rg_end (by kernel_rfl) (hN7 _ _ ?_) _
      clear hQ7 hN7 Q7
      have BX := hHeld.1
      clear SS
      clear BX
      have BX := ext_trans (ext_drew (ext_refl wr)) B1
      replace BB := Lib.hid (BB.out.ext BX)
      replace HB := Lib.hid (HB.out.ext BX)
      replace E := Lib.hid (ext_trans E.out BX)
      replace E := Lib.hid (ext_alloc E.out (.cells #[.int .i64 (o.getD zeroA).no, .int .i64 (o.getD zeroA).f, .int .i64 (o.getD zeroA).t, .int .i64 (o.getD zeroA).m, .int .i64 (o.getD zeroA).r] 26))
      replace HB := Lib.hid (HB.out.alloc (.cells #[.int .i64 (o.getD zeroA).no, .int .i64 (o.getD zeroA).f, .int .i64 (o.getD zeroA).t, .int .i64 (o.getD zeroA).m, .int .i64 (o.getD zeroA).r] 26))
      replace BB := Lib.hid (BB.out.alloc (.cells #[.int .i64 (o.getD zeroA).no, .int .i64 (o.getD zeroA).f, .int .i64 (o.getD zeroA).t, .int .i64 (o.getD zeroA).m, .int .i64 (o.getD zeroA).r] 26))
      clear BX
      cases o with
      | none =>
        have HP2 := Lib.hid (show ∀ z a, z < k + 1 → b.op.l[z]? = some a → numd b.ag.l a.no = none from fun z a hz ha => by
          by_cases h : z = k
          · subst h; rw [HX.out] at ha; cases ha; exact HO.out
          · exact HP.out z a (by omega) ha)
        go_wp2_with fail
        go_roundw
        case rel => exact ⟨k + 1, hlt, by go_num, HP2.out, BB.out, HB.out, E.out⟩
        case measure => simp [intOf]; omega
      | some z =>
        have HZ := Lib.hid (show both b.ag.l b.op.l = true from both_yes (List.mem_of_getElem? HX.out) (by rw [HO.out]; rfl))
        go_wp2_with fail
        go_ret
        exact ⟨ret_int (by rw [HV2.out, HZ.out]; rfl), E.out⟩
    · go_simp
      refine hK.out _ _ ?_ (fun hHeld2 => ?_)
      · exact SS.out _ (ext_alloc hHeld.1 _)
      clear hHeld
      have hHeld := hHeld2
      clear hHeld2
      clear hK K
      try simp only [Act.put, List.setIfInBounds_toArray, List.set_cons_zero, List.set_cons_succ]
      refine rg_one (i := 8) (by kernel_rfl) (rg_step rfl (by rfl) (fun K hK => ?_))
      go_simp
      refine (rfind_at o HO.out rfl (HB.out.ag.ext hHeld.1) hagl).mono ?_
      rintro e u1 ⟨y, rfl, rfl, B1⟩
      go_wp2_with fail
      refine hK.out _ _ ?_ (fun hHeld2 => ?_)
      · exact SS.out _ (ext_trans hHeld.1 B1)
      clear hHeld
      have hHeld := hHeld2
      clear hHeld2
      clear hK K
      try simp only [Act.put, List.setIfInBounds_toArray, List.set_cons_zero, List.set_cons_succ]
      refine rg_take (i := 9) (some 39) (v := ?_) rfl rfl (by kernel_rfl) (by rfl) hQ7 hHeld ?_ ?_
      rotate_left
      · intro w7 hSw; (try dsimp only at hSw); go_simp; all_goals with_reducible rfl
      try simp only [Act.put, List.setIfInBounds_toArray, List.set_cons_zero, List.set_cons_succ]
      refine rg_take (i := 10) (some 49) (v := ?_) rfl rfl (by kernel_rfl) (by rfl) hQ7 hHeld ?_ ?_
      rotate_left
      · intro w7 hSw; (try dsimp only at hSw); go_simp; all_goals with_reducible rfl
      try simp only [Act.put, List.setIfInBounds_toArray, List.set_cons_zero, List.set_cons_succ]
      refine rg_pure (i := 11) (some 50) (v := ?_) rfl rfl (by kernel_rfl) (by rfl) hQ7 (by first | exact .inr hHeld | exact .inl (by kernel_rfl)) ?_ ?_
      rotate_left
      · intro w7; go_simp; all_goals with_reducible rfl
      try simp only [Act.put, List.setIfInBounds_toArray, List.set_cons_zero, List.set_cons_succ]
      have ZB := ((Blk.new wr [.int .i64 0, .int .i64 0, .int .i64 0, .int .i64 0, .int .i64 0] 26).drew).ext B1
      have z0 := ZB.c 0 _ rfl
      have z1 := ZB.c 1 _ rfl
      have z2 := ZB.c 2 _ rfl
      have z3 := ZB.c 3 _ rfl
      have z4 := ZB.c 4 _ rfl
      have zf := ZB.f
      have hHW := hHeld.1.size
      refine rg_one (i := 13) (by kernel_rfl) (rg_late rfl (by rfl) (by kernel_rfl) (fun K hK => ?_))
      go_simp
      refine hK.out _ _ ?_
      clear hK K
      try simp only [Act.put, List.setIfInBounds_toArray, List.set_cons_zero, List.set_cons_succ]
      refine rg_pure (i := 14) (some 5) (v := ?_) rfl rfl (by kernel_rfl) (by rfl) hQ7 (by first | exact .inr hHeld | exact .inl (by kernel_rfl)) ?_ ?_
      rotate_left
      · intro w7; go_simp; all_goals with_reducible rfl
      try simp only [Act.put, List.setIfInBounds_toArray, List.set_cons_zero, List.set_cons_succ]
      refine rg_end (by kernel_rfl) (hN7 _ _ ?_) _
      clear hQ7 hN7 Q7
      have BX := hHeld.1
      clear SS
      replace BB := Lib.hid (BB.out.ext BX)
      replace HB := Lib.hid (HB.out.ext BX)
      replace E := Lib.hid (ext_trans E.out BX)
      have hwl := E0.out.size
      replace E := Lib.hid (ext_set5 E.out wr.heap.size (.int .i64 (o.getD zeroA).no) (.int .i64 (o.getD zeroA).f) (.int .i64 (o.getD zeroA).t) (.int .i64 (o.getD zeroA).m) (.int .i64 (o.getD zeroA).r) hwl)
      replace HB := Lib.hid (HB.out.set5 (c := wr.heap.size) (.int .i64 (o.getD zeroA).no) (.int .i64 (o.getD zeroA).f) (.int .i64 (o.getD zeroA).t) (.int .i64 (o.getD zeroA).m) (.int .i64 (o.getD zeroA).r) HOFF.out)
      replace BB := Lib.hid (BB.out.off5 (c := wr.heap.size) (.int .i64 (o.getD zeroA).no) (.int .i64 (o.getD zeroA).f) (.int .i64 (o.getD zeroA).t) (.int .i64 (o.getD zeroA).m) (.int .i64 (o.getD zeroA).r) (by have := BBl; omega))
      unfold set5 at E HB BB
      clear ZB z0 z1 z2 z3 z4 zf hHW
      clear BX
      cases o with
      | none =>
        have HP2 := Lib.hid (show ∀ z a, z < k + 1 → b.op.l[z]? = some a → numd b.ag.l a.no = none from fun z a hz ha => by
          by_cases h : z = k
          · subst h; rw [HX.out] at ha; cases ha; exact HO.out
          · exact HP.out z a (by omega) ha)
        go_wp2_with fail
        go_roundw
        case rel => exact ⟨k + 1, hlt, by go_num, HP2.out, BB.out, HB.out, E.out⟩
        case measure => simp [intOf]; omega
      | some z =>
        have HZ := Lib.hid (show both b.ag.l b.op.l = true from both_yes (List.mem_of_getElem? HX.out) (by rw [HO.out]; rfl))
        go_wp2_with fail
        go_ret
        exact ⟨ret_int (by rw [HV2.out, HZ.out]; rfl), E.out⟩
end Go.Proofs.Ytmnbeikhjbjpiaa
