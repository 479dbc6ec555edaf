/- Index, Contains; Deliver. -/
import Derived.Test.YthchcimialclkaaI
set_option linter.unusedSimpArgs false
set_option linter.unusedVariables false
namespace Go.Proofs.Ythchcimialclkaa
open Go.RowKit
set_option maxHeartbeats 800000 in
set_option maxRecDepth 100000 in
theorem index_any (A : Option Addr) (c : Nat) (l : List Lk) (x : Lk) (w : World) (ha : Slc w Lk.cells 2 A l) (hl : l.length ≤ maxLen) :
    Calls Try.prog 37 #[.slice A l.length c, x.v] w fun e w' => e = .returned (.int .i64 (idxGo (fun y => decide (x = y)) 0 l)) ∧ Below w.heap.size w w' := by
  unfold maxLen at hl
  have HB0 := Lib.hid (ext_alloc (ext_refl w) (.cells #[.int .i64 x.a, .int .i64 x.b] 53))
  have X1 := Lib.hid (Blk.new w [.int .i64 x.a, .int .i64 x.b] 53)
  go_enter Try.func37, Try.ntmps37
  go_wp2_with fail
  go_loopw [8] (fun i wr => ∃ k : Nat, k ≤ l.length ∧ i = .int .i64 k ∧ Hid (idxGo (fun y => decide (x = y)) 0 l = idxGo (fun y => decide (x = y)) k (l.drop k)) ∧ Below w.heap.size w wr ∧ Hid (Blk wr w.heap.size [.int .i64 x.a, .int .i64 x.b])) (fun i _ => l.length - (intOf i).toNat)
  case atStart => exact ⟨0, Nat.zero_le _, rfl, rfl, HB0.out, X1⟩
  case round =>
    clear X1
    obtain ⟨k, hk, rfl, HQ, hB, X1⟩ := hrel
    by_cases hlt : k < l.length
    · obtain ⟨y, b1, o1, hy, rfl, hb1, hc⟩ := (ha.ext hB).at_ hlt
      have HY := Lib.hid hy
      have c0 := hc 0 _ rfl
      have c1 := hc 1 _ rfl
      have x0 := X1.out.c 0 _ rfl
      have x1 := X1.out.c 1 _ rfl
      simp only [Nat.add_zero] at c0
      clear hc hy
      have hlt' : (k : Int) < l.length := by omega
      have hne := fun w => run_eql53 x y w
      obtain ⟨s, hs⟩ : ∃ s, decide (x = y) = s := ⟨_, rfl⟩
      have HS := Lib.hid hs
      simp only [hs] at hne
      clear hs
      cases s
      · go_wp2_with fail
        go_quiet (fail)
        go_wp2_with fail
        go_roundw
        case rel => exact ⟨k + 1, hlt, by go_num, idx_step HY.out HS.out HQ.out, ext_drewN hB _, X1.out.ext (ext_drewN (ext_refl _) _)⟩
        case measure => simp [intOf]; omega
      · go_wp2_with fail
        go_quiet (fail)
        go_wp2_with fail
        go_ret
        exact ⟨ret_int (idx_hit HY.out HS.out HQ.out).symm, ext_drewN hB _⟩
    · go_wp2_with fail
      go_ret
      exact ⟨ret_int (idx_end (by omega) HQ.out).symm, hB⟩
theorem index_at {A : Option Addr} {c : Nat} {l : List Lk} {x : Lk} {w : World} (r : Int) (hr : idxGo (fun y => decide (x = y)) 0 l = r) (ha : Slc w Lk.cells 2 A l) (hl : l.length ≤ maxLen) :
    Calls Try.prog 37 #[.slice A l.length c, .agg #[.int .i64 x.a, .int .i64 x.b]] w fun e w' => e = .returned (.int .i64 r) ∧ Below w.heap.size w w' := by
  subst hr; exact index_any A c l x w ha hl
def hasL (l : List Lk) (x : Lk) : Bool := l.any (fun y => decide (x = y))
theorem contains_any (A : Option Addr) (c : Nat) (l : List Lk) (x : Lk) (w : World) (ha : Slc w Lk.cells 2 A l) (hl : l.length ≤ maxLen) : Calls Try.prog 31 #[.slice A l.length c, x.v] w (RetB w (hasL l x)) := by
  have HB0 := Lib.hid (ext_alloc (ext_refl w) (.cells #[.int .i64 x.a, .int .i64 x.b] 53))
  obtain ⟨r, hr⟩ : ∃ r, idxGo (fun y => decide (x = y)) 0 l = r := ⟨_, rfl⟩
  have HR := Lib.hid hr
  have HS := Lib.hid (show decide (0 ≤ r) = hasL l x by rw [← hr]; exact idx_any _ l)
  clear hr
  go_enter Try.func31, Try.ntmps31
  go_wp2_with fail
  refine (index_at r HR.out (ha.ext HB0.out) hl).mono ?_
  rintro e w1 ⟨rfl, B1⟩
  go_wp2_with fail
  go_ret
  exact ⟨ret_bool HS.out, ext_trans HB0.out B1⟩
theorem contains_at {A : Option Addr} {c : Nat} {l : List Lk} {x : Lk} {w : World} (r : Bool) (hr : hasL l x = r) (ha : Slc w Lk.cells 2 A l) (hl : l.length ≤ maxLen) : Calls Try.prog 31 #[.slice A l.length c, .agg #[.int .i64 x.a, .int .i64 x.b]] w (RetB w r) := by
  subst hr; exact contains_any A c l x w ha hl
theorem btw_at {a b : Int} {w : World} (x : Lk) (hx : btw a b = x) : Calls Try.prog 32 #[.int .i64 a, .int .i64 b] w fun e w' => e = .returned (.agg #[.int .i64 x.a, .int .i64 x.b]) ∧ Below w.heap.size w w' := by
  subst hx; exact btw_any a b w
/-- A packet, links and an error. -/
def PkN (w : World) (F : Nat → Prop) (p : Pk) (q : List Pk) (ap : List Lk) (err : Int) (e : Ending) (w' : World) : Prop :=
  ∃ m : Nt, e = .returned (.tuple #[p.v, m.v, .int .i64 err]) ∧ m.q.l = q ∧ m.ap.l = ap ∧ NOk w' m ∧ Below w.heap.size w w' ∧ ∀ b, b < w.heap.size → F b → m.off b
def Nt.delP (n : Nt) (i : Int) : Pk := if n.atE i = 0 ∧ hasL n.ap.l (btw (n.atP i).f (n.atP i).t) then zeroP else n.atP i
set_option maxHeartbeats 3200000 in
set_option maxRecDepth 100000 in
theorem deliver_any (n : Nt) (i : Int) (w : World) (hn : NOk w n) : Calls Try.prog 17 #[n.v, .int .i64 i] w (PkN w n.off (n.delP i) (n.loseQ i) (n.loseA i) (n.atE i)) := by
  obtain ⟨r, hr⟩ : ∃ r, n.atE i = r := ⟨_, rfl⟩
  obtain ⟨p, hp⟩ : ∃ p, n.atP i = p := ⟨_, rfl⟩
  obtain ⟨rq, hrq⟩ : ∃ q, n.loseQ i = q := ⟨_, rfl⟩
  obtain ⟨ra, hra⟩ : ∃ a, n.loseA i = a := ⟨_, rfl⟩
  obtain ⟨rp, hrp⟩ : ∃ a, n.delP i = a := ⟨_, rfl⟩
  obtain ⟨x, hx⟩ : ∃ x, btw p.f p.t = x := ⟨_, rfl⟩
  obtain ⟨cc, hcc⟩ : ∃ c, hasL n.ap.l x = c := ⟨_, rfl⟩
  have HN := Lib.hid (show r ≠ 0 → rp = p ∧ p = zeroP ∧ rq = [] ∧ ra = [] from fun h => by
    rw [← hrq, ← hra, ← hrp, ← hp]; unfold Nt.loseQ Nt.loseA Nt.delP Nt.atP; rw [hr, if_neg h, if_neg h, if_neg h, if_neg (fun k => h k.1)]; exact ⟨rfl, rfl, rfl, rfl⟩)
  have HY := Lib.hid (show r = 0 → rp = (if cc then zeroP else p) ∧ rq = delN n.q.l i.toNat ∧ ra = n.ap.l from fun h => by
    rw [← hrq, ← hra, ← hrp]; unfold Nt.loseQ Nt.loseA Nt.delP; rw [hr, hp, hx, hcc, if_pos h, if_pos h]; exact ⟨by simp [h], rfl, rfl⟩)
  have HR := Lib.hid hr
  have HP := Lib.hid hp
  have HX := Lib.hid hx
  have HC := Lib.hid hcc
  have hpd := hn.atP i
  rw [hp] at hpd
  have HD := Lib.hid hpd
  have HR0 := Lib.hid (show r = 0 → chkE n = 0 ∧ 0 ≤ i ∧ i < n.q.l.length from fun h => atE_zero (by rw [hr, h]))
  rw [hr, hrq, hra, hrp]
  clear hr hp hrq hra hrp hx hcc hpd
  have HB0 := Lib.hid (ext_alloc (ext_alloc (ext_alloc (ext_refl w) (.cells #[.slice n.q.A n.q.l.length n.q.c, .slice n.ap.A n.ap.l.length n.ap.c] 25)) (.cells #[.int .i64 0, .int .i64 0, .slice none 0 0] 28)) (.cells #[.slice none 0 0, .slice none 0 0] 25))
  have X1 := Lib.hid (((Blk.new w [.slice n.q.A n.q.l.length n.q.c, .slice n.ap.A n.ap.l.length n.ap.c] 25).alloc (.cells #[.int .i64 0, .int .i64 0, .slice none 0 0] 28)).alloc (.cells #[.slice none 0 0, .slice none 0 0] 25))
  have X2 := Lib.hid ((Blk.newH (w.alloc (.cells #[.slice n.q.A n.q.l.length n.q.c, .slice n.ap.A n.ap.l.length n.ap.c] 25)) [.int .i64 0, .int .i64 0, .slice none 0 0] 28 (w.heap.size + 1) (by simp)).alloc (.cells #[.slice none 0 0, .slice none 0 0] 25))
  have X3 := Lib.hid (Blk.newH ((w.alloc (.cells #[.slice n.q.A n.q.l.length n.q.c, .slice n.ap.A n.ap.l.length n.ap.c] 25)).alloc (.cells #[.int .i64 0, .int .i64 0, .slice none 0 0] 28)) [.slice none 0 0, .slice none 0 0] 25 (w.heap.size + 2) (by simp))
  go_enter Try.func17, Try.ntmps17
  go_wp2_with fail
  refine (at_at p r HP.out HR.out (hn.ext HB0.out)).mono ?_
  rintro e w1 ⟨rfl, B1⟩
  have hB1 := Lib.hid (ext_trans HB0.out B1)
  replace X1 := Lib.hid (X1.out.ext B1)
  replace X2 := Lib.hid (X2.out.ext B1)
  replace X3 := Lib.hid (X3.out.ext B1)
  clear B1
  have y0 := X2.out.c 0 _ rfl
  have y1 := X2.out.c 1 _ rfl
  have y2 := X2.out.c 2 _ rfl
  have yf := X2.out.f
  have l0 := X1.out.lt
  have l3 := X3.out.lt
  have k0 := hB1.out.size
  have hB2 := Lib.hid (ext_set3 hB1.out (w.heap.size + 1) (.int .i64 p.f) (.int .i64 p.t) (.slice p.d.A p.d.l.length p.d.c) (by simp))
  have Y1 := Lib.hid (X1.out.off3 (c := w.heap.size + 1) (.int .i64 p.f) (.int .i64 p.t) (.slice p.d.A p.d.l.length p.d.c) (by simp))
  have Y3 := Lib.hid (X3.out.off3 (c := w.heap.size + 1) (.int .i64 p.f) (.int .i64 p.t) (.slice p.d.A p.d.l.length p.d.c) (by simp))
  have Y2 := Lib.hid (X2.out.put3 (.int .i64 p.f) (.int .i64 p.t) (.slice p.d.A p.d.l.length p.d.c))
  obtain ⟨w2, hw2⟩ : ∃ w2, set3 w1 (w.heap.size + 1) (.int .i64 p.f) (.int .i64 p.t) (.slice p.d.A p.d.l.length p.d.c) = w2 := ⟨_, rfl⟩
  rw [hw2] at hB2 Y1 Y2 Y3
  unfold set3 at hw2
  clear X1 X2 X3 hB1 l0 l3 k0
  by_cases h0 : r = 0
  rotate_left
  · have h0' : (r != 0) = true := by simpa using h0
    have HZ := Lib.hid (HN.out h0)
    have HZ0 := Lib.hid h0
    clear h0
    go_wp2_with fail
    try rw [hw2]
    clear hw2
    have z0 := Y3.out.c 0 _ rfl
    have z1 := Y3.out.c 1 _ rfl
    have q0 := Y2.out.c 0 _ rfl
    have q1 := Y2.out.c 1 _ rfl
    have q2 := Y2.out.c 2 _ rfl
    have zf := Y3.out.f
    have qf := Y2.out.f

    refine rg_begin (S := (fun w' => w'.cell? ⟨w.heap.size + 1, 0, none⟩ = some (.int .i64 p.f) ∧ w'.cell? ⟨w.heap.size + 1, 1, none⟩ = some (.int .i64 p.t) ∧ w'.cell? ⟨w.heap.size + 1, 2, none⟩ = some (.slice p.d.A p.d.l.length p.d.c) ∧ w'.cell? ⟨w.heap.size + 2, 0, none⟩ = some (.slice none 0 0) ∧ w'.cell? ⟨w.heap.size + 2, 1, none⟩ = some (.slice none 0 0))) 4 (by kernel_rfl) (by intro d; cases d <;> intro _ _ _ _ h <;> exact h) ?_ (fun Q7 hQ7 hN7 hHeld => ?_)
    · exact ⟨q0, q1, q2, z0, z1⟩
    refine rg_take (i := 0) (some 15) (v := ?_) rfl rfl (by kernel_rfl) (by rfl) hQ7 hHeld ?_ ?_
    rotate_left
    · intro w7 hSw; (try dsimp only at hSw); go_simp; all_goals with_reducible rfl
    try simp only [Act.put, List.setIfInBounds_toArray, List.set_cons_zero, List.set_cons_succ]
    refine rg_take (i := 1) (some 16) (v := ?_) rfl rfl (by kernel_rfl) (by rfl) hQ7 hHeld ?_ ?_
    rotate_left
    · intro w7 hSw; (try dsimp only at hSw); go_simp; all_goals with_reducible rfl
    try simp only [Act.put, List.setIfInBounds_toArray, List.set_cons_zero, List.set_cons_succ]
    refine rg_pure (i := 2) (some 17) (v := ?_) rfl rfl (by kernel_rfl) (by rfl) hQ7 (by first | exact .inr hHeld | exact .inl (by kernel_rfl)) ?_ ?_
    rotate_left
    · intro w7; go_simp; all_goals with_reducible rfl
    try simp only [Act.put, List.setIfInBounds_toArray, List.set_cons_zero, List.set_cons_succ]
    refine rg_one (i := 3) (by kernel_rfl) (rg_step rfl (by rfl) (fun K hK => ?_))
    go_simp
    refine hK.out _ _ ?_ (fun hHeld2 => ?_)
    · exact ⟨(Y2.out.drew.put3 _ _ _).c 0 _ rfl, (Y2.out.drew.put3 _ _ _).c 1 _ rfl, (Y2.out.drew.put3 _ _ _).c 2 _ rfl, (Y3.out.drew.off3 (c := w.heap.size + 1) _ _ _ (by simp)).c 0 _ rfl, (Y3.out.drew.off3 (c := w.heap.size + 1) _ _ _ (by simp)).c 1 _ rfl⟩
    clear hHeld
    have hHeld := hHeld2
    clear hHeld2
    clear hK K
    try simp only [Act.put, List.setIfInBounds_toArray, List.set_cons_zero, List.set_cons_succ]
    refine rg_one (i := 4) (by kernel_rfl) (rg_late rfl (by rfl) (by kernel_rfl) (fun K hK => ?_))
    go_simp
    refine hK.out _ _ ?_
    clear hK K
    try simp only [Act.put, List.setIfInBounds_toArray, List.set_cons_zero, List.set_cons_succ]
    refine rg_one (i := 5) (by kernel_rfl) (rg_late rfl (by rfl) (by kernel_rfl) (fun K hK => ?_))
    go_simp
    refine hK.out _ _ ?_
    clear hK K
    try simp only [Act.put, List.setIfInBounds_toArray, List.set_cons_zero, List.set_cons_succ]
    refine rg_end (by kernel_rfl) (hN7 _ _ ?_) _
    clear hQ7 hN7 Q7
    go_wp2_with fail
    refine bodyPost_ret (v := .tuple #[p.v, zeroN.v, .int .i64 r]) (by simp [results, Try.results17, go_sem, zeroN, *]) rfl ?_
    obtain ⟨e1, e2, e3, e4⟩ := HZ.out
    rw [e1, e3, e4]
    exact ⟨zeroN, rfl, rfl, rfl, NOk.zero _, ext_set2 (ext_set3 (ext_drew hB2.out) (w.heap.size + 1) _ _ _ (by simp)) (w.heap.size + 2) _ _ (by simp), fun b _ _ => zeroN_off b⟩
  subst h0
  have HR1 := Lib.hid (HR0.out (by trivial))
  have HY1 := Lib.hid (HY.out (by trivial))
  clear HR0 HY HN
  go_wp2_with fail
  try rw [hw2]
  clear hw2 yf y0 y1 y2
  have n0 := Y1.out.c 0 _ rfl
  have n1 := Y1.out.c 1 _ rfl
  have q0 := Y2.out.c 0 _ rfl
  have q1 := Y2.out.c 1 _ rfl
  have SS := Lib.hid (show ∀ w', Below w2.heap.size w2 w' → (fun w' => Below w2.heap.size w2 w' ∧ w'.cell? ⟨w.heap.size, 1, none⟩ = some (.slice n.ap.A n.ap.l.length n.ap.c) ∧ w'.cell? ⟨w.heap.size + 1, 0, none⟩ = some (.int .i64 p.f) ∧ w'.cell? ⟨w.heap.size + 1, 1, none⟩ = some (.int .i64 p.t)) w' from fun w' b => ⟨b, (Y1.out.ext b).c 1 _ rfl, (Y2.out.ext b).c 0 _ rfl, (Y2.out.ext b).c 1 _ rfl⟩)
  refine rg_begin (S := (fun w' => Below w2.heap.size w2 w' ∧ w'.cell? ⟨w.heap.size, 1, none⟩ = some (.slice n.ap.A n.ap.l.length n.ap.c) ∧ w'.cell? ⟨w.heap.size + 1, 0, none⟩ = some (.int .i64 p.f) ∧ w'.cell? ⟨w.heap.size + 1, 1, none⟩ = some (.int .i64 p.t))) 8 (by kernel_rfl) (by intro d; cases d <;> intro _ _ _ _ h <;> exact h) ?_ (fun Q7 hQ7 hN7 hHeld => ?_)
  · exact SS.out _ (ext_drew (ext_refl w2))
  refine rg_take (i := 0) (some 18) (v := ?_) rfl rfl (by kernel_rfl) (by rfl) hQ7 hHeld ?_ ?_
  rotate_left
  · intro w7 hSw; (try dsimp only at hSw); go_simp; all_goals with_reducible rfl
  try simp only [Act.put, List.setIfInBounds_toArray, List.set_cons_zero, List.set_cons_succ]
  refine rg_take (i := 1) (some 19) (v := ?_) rfl rfl (by kernel_rfl) (by rfl) hQ7 hHeld ?_ ?_
  rotate_left
  · intro w7 hSw; (try dsimp only at hSw); go_simp; all_goals with_reducible rfl
  try simp only [Act.put, List.setIfInBounds_toArray, List.set_cons_zero, List.set_cons_succ]
  refine rg_take (i := 2) (some 20) (v := ?_) rfl rfl (by kernel_rfl) (by rfl) hQ7 hHeld ?_ ?_
  rotate_left
  · intro w7 hSw; (try dsimp only at hSw); go_simp; all_goals with_reducible rfl
  try simp only [Act.put, List.setIfInBounds_toArray, List.set_cons_zero, List.set_cons_succ]
  refine rg_take (i := 3) (some 21) (v := ?_) rfl rfl (by kernel_rfl) (by rfl) hQ7 hHeld ?_ ?_
  rotate_left
  · intro w7 hSw; (try dsimp only at hSw); go_simp; all_goals with_reducible rfl
  try simp only [Act.put, List.setIfInBounds_toArray, List.set_cons_zero, List.set_cons_succ]
  refine rg_take (i := 4) (some 22) (v := ?_) rfl rfl (by kernel_rfl) (by rfl) hQ7 hHeld ?_ ?_
  rotate_left
  · intro w7 hSw; (try dsimp only at hSw); go_simp; all_goals with_reducible rfl
  try simp only [Act.put, List.setIfInBounds_toArray, List.set_cons_zero, List.set_cons_succ]
  refine rg_take (i := 5) (some 23) (v := ?_) rfl rfl (by kernel_rfl) (by rfl) hQ7 hHeld ?_ ?_
  rotate_left
  · intro w7 hSw; (try dsimp only at hSw); go_simp; all_goals with_reducible rfl
  try simp only [Act.put, List.setIfInBounds_toArray, List.set_cons_zero, List.set_cons_succ]
  refine rg_one (i := 6) (by kernel_rfl) (rg_step rfl (by rfl) (fun K hK => ?_))
  go_simp
  refine (btw_at x HX.out).mono ?_
  rintro e w3 ⟨rfl, B3⟩
  go_wp2_with fail
  refine hK.out _ _ ?_ (fun hHeld2 => ?_)
  · exact SS.out _ (ext_trans (ext_drew (ext_refl w2)) B3)
  clear hHeld
  have hHeld := hHeld2
  clear hHeld2
  clear hK K
  try simp only [Act.put, List.setIfInBounds_toArray, List.set_cons_zero, List.set_cons_succ]
  refine rg_one (i := 7) (by kernel_rfl) (rg_step rfl (by rfl) (fun K hK => ?_))
  go_simp
  refine (contains_at (x := x) cc HC.out (hn.ap.ext (ext_trans hB2.out hHeld.1)) hn.al).mono ?_
  rintro e w4 ⟨rfl, B4⟩
  go_wp2_with fail
  refine hK.out _ _ ?_ (fun hHeld2 => ?_)
  · exact SS.out _ (ext_trans hHeld.1 B4)
  clear hHeld
  have hHeld := hHeld2
  clear hHeld2
  clear hK K
  try simp only [Act.put, List.setIfInBounds_toArray, List.set_cons_zero, List.set_cons_succ]
  refine rg_end (by kernel_rfl) (hN7 _ _ ?_) _
  clear hQ7 hN7 Q7
  have B4 := hHeld.1
  have hB4 := Lib.hid (ext_trans hB2.out B4)
  have Z1 := Lib.hid (Y1.out.ext B4)
  have Z2 := Lib.hid (Y2.out.ext B4)
  have Z3 := Lib.hid (Y3.out.ext B4)
  clear hHeld SS n0 n1 q0 q1 Y1 Y2 Y3 B4 hB2
  cases cc
  · have HP1 := Lib.hid (show rp = p from HY1.out.1)
    have n0 := Z1.out.c 0 _ rfl
    have n1 := Z1.out.c 1 _ rfl
    have y0 := Z2.out.c 0 _ rfl
    have y1 := Z2.out.c 1 _ rfl
    have y2 := Z2.out.c 2 _ rfl
    go_wp2_with fail
    have SS := Lib.hid (show ∀ w', Below w4.heap.size w4 w' → (fun w' => Below w4.heap.size w4 w' ∧ w'.cell? ⟨w.heap.size, 0, none⟩ = some (.slice n.q.A n.q.l.length n.q.c) ∧ w'.cell? ⟨w.heap.size, 1, none⟩ = some (.slice n.ap.A n.ap.l.length n.ap.c) ∧ w'.cell? ⟨w.heap.size + 1, 0, none⟩ = some (.int .i64 p.f) ∧ w'.cell? ⟨w.heap.size + 1, 1, none⟩ = some (.int .i64 p.t) ∧ w'.cell? ⟨w.heap.size + 1, 2, none⟩ = some (.slice p.d.A p.d.l.length p.d.c)) w' from fun w' b => ⟨b, (Z1.out.ext b).c 0 _ rfl, (Z1.out.ext b).c 1 _ rfl, (Z2.out.ext b).c 0 _ rfl, (Z2.out.ext b).c 1 _ rfl, (Z2.out.ext b).c 2 _ rfl⟩)
    refine rg_begin (S := (fun w' => Below w4.heap.size w4 w' ∧ w'.cell? ⟨w.heap.size, 0, none⟩ = some (.slice n.q.A n.q.l.length n.q.c) ∧ w'.cell? ⟨w.heap.size, 1, none⟩ = some (.slice n.ap.A n.ap.l.length n.ap.c) ∧ w'.cell? ⟨w.heap.size + 1, 0, none⟩ = some (.int .i64 p.f) ∧ w'.cell? ⟨w.heap.size + 1, 1, none⟩ = some (.int .i64 p.t) ∧ w'.cell? ⟨w.heap.size + 1, 2, none⟩ = some (.slice p.d.A p.d.l.length p.d.c))) 4 (by kernel_rfl) (by intro d; cases d <;> intro _ _ _ _ h <;> exact h) ?_ (fun Q7 hQ7 hN7 hHeld => ?_)
    · exact SS.out _ (ext_drew (ext_refl w4))
    refine rg_take (i := 0) (some 27) (v := ?_) rfl rfl (by kernel_rfl) (by rfl) hQ7 hHeld ?_ ?_
    rotate_left
    · intro w7 hSw; (try dsimp only at hSw); go_simp; all_goals with_reducible rfl
    try simp only [Act.put, List.setIfInBounds_toArray, List.set_cons_zero, List.set_cons_succ]
    refine rg_take (i := 1) (some 28) (v := ?_) rfl rfl (by kernel_rfl) (by rfl) hQ7 hHeld ?_ ?_
    rotate_left
    · intro w7 hSw; (try dsimp only at hSw); go_simp; all_goals with_reducible rfl
    try simp only [Act.put, List.setIfInBounds_toArray, List.set_cons_zero, List.set_cons_succ]
    refine rg_take (i := 2) (some 29) (v := ?_) rfl rfl (by kernel_rfl) (by rfl) hQ7 hHeld ?_ ?_
    rotate_left
    · intro w7 hSw; (try dsimp only at hSw); go_simp; all_goals with_reducible rfl
    try simp only [Act.put, List.setIfInBounds_toArray, List.set_cons_zero, List.set_cons_succ]
    refine rg_one (i := 3) (by kernel_rfl) (rg_step rfl (by rfl) (fun K hK => ?_))
    go_simp
    refine (without_at i.toNat (by have := HR1.out; omega) (hn.ext (ext_trans hB4.out hHeld.1)) (by have := HR1.out; omega) (chkE_len HR1.out.1)).mono ?_
    rintro e w6 ⟨m, rfl, hq, ha, hm, B6, hoff⟩
    go_wp2_with fail
    refine hK.out _ _ ?_ (fun hHeld2 => ?_)
    · exact SS.out _ (ext_trans (ext_drew (ext_refl w4)) B6)
    clear hHeld
    have hHeld := hHeld2
    clear hHeld2
    clear hK K
    try simp only [Act.put, List.setIfInBounds_toArray, List.set_cons_zero, List.set_cons_succ]
    have B7 := hHeld.1
    have HM := Lib.hid (show _ ∧ _ ∧ _ from ⟨hq, ha, hm⟩)
    have HO := Lib.hid hoff
    have V2 := Lib.hid (Z2.out.ext B7)
    have V3 := Lib.hid (Z3.out.ext B7)
    have qf := V2.out.f
    have q0 := V2.out.c 0 _ rfl
    have q1 := V2.out.c 1 _ rfl
    have q2 := V2.out.c 2 _ rfl
    have z0 := V3.out.c 0 _ rfl
    have z1 := V3.out.c 1 _ rfl
    have zf := V3.out.f
    clear hq ha hm hoff B6
    refine rg_one (i := 4) (by kernel_rfl) (rg_late rfl (by rfl) (by kernel_rfl) (fun K hK => ?_))
    go_simp
    refine hK.out _ _ ?_
    clear hK K
    try simp only [Act.put, List.setIfInBounds_toArray, List.set_cons_zero, List.set_cons_succ]
    refine rg_one (i := 5) (by kernel_rfl) (rg_late rfl (by rfl) (by kernel_rfl) (fun K hK => ?_))
    go_simp
    refine hK.out _ _ ?_
    clear hK K
    try simp only [Act.put, List.setIfInBounds_toArray, List.set_cons_zero, List.set_cons_succ]
    refine rg_one (i := 6) (by kernel_rfl) (rg_late rfl (by rfl) (by kernel_rfl) (fun K hK => ?_))
    go_simp
    refine hK.out _ _ ?_
    clear hK K
    try simp only [Act.put, List.setIfInBounds_toArray, List.set_cons_zero, List.set_cons_succ]
    refine rg_end (by kernel_rfl) (hN7 _ _ ?_) _
    clear hQ7 hN7 Q7
    go_wp2_with fail
    refine bodyPost_ret (v := .tuple #[p.v, m.v, .int .i64 0]) (by simp [results, Try.results17, go_sem, zeroP, *]) rfl ?_
    obtain ⟨_, rfl, rfl⟩ := HY1.out
    have k0 := hB4.out.size
    have k4 := Z2.out.lt
    have k5 := Z3.out.lt
    have k6 := B7.size
    have ho1 : m.off (w.heap.size + 1) := HO.out _ (by simp; omega) (hn.off (by omega))
    have ho2 : m.off (w.heap.size + 2) := HO.out _ (by simp; omega) (hn.off (by omega))
    rw [HP1.out]
    exact ⟨m, rfl, HM.out.1, HM.out.2.1, ((((HM.out.2.2.set (p := ⟨w.heap.size + 1, 0, none⟩) _ ho1).set (p := ⟨w.heap.size + 1, 1, none⟩) _ ho1).set (p := ⟨w.heap.size + 1, 2, none⟩) _ ho1).set (p := ⟨w.heap.size + 2, 0, none⟩) _ ho2).set (p := ⟨w.heap.size + 2, 1, none⟩) _ ho2, ext_set2 (ext_set3 (ext_trans hB4.out B7) (w.heap.size + 1) _ _ _ (by simp)) (w.heap.size + 2) _ _ (by simp), fun b hb hf => HO.out b (by simp; omega) hf⟩
  · have HP1 := Lib.hid (show rp = zeroP from HY1.out.1)
    have n0 := Z1.out.c 0 _ rfl
    have n1 := Z1.out.c 1 _ rfl
    have y0 := Z2.out.c 0 _ rfl
    have y1 := Z2.out.c 1 _ rfl
    have y2 := Z2.out.c 2 _ rfl
    have yf := Z2.out.f
    have hB5 := Lib.hid (ext_set3 hB4.out (w.heap.size + 1) (.int .i64 0) (.int .i64 0) (.slice none 0 0) (by simp))
    have k4 := Z2.out.lt
    have k5 := Z3.out.lt
    replace Z1 := Lib.hid (Z1.out.off3 (c := w.heap.size + 1) (.int .i64 0) (.int .i64 0) (.slice none 0 0) (by simp))
    replace Z3 := Lib.hid (Z3.out.off3 (c := w.heap.size + 1) (.int .i64 0) (.int .i64 0) (.slice none 0 0) (by simp))
    replace Z2 := Lib.hid (Z2.out.put3 (.int .i64 0) (.int .i64 0) (.slice none 0 0))
    obtain ⟨w5, hw5⟩ : ∃ w5, set3 w4 (w.heap.size + 1) (.int .i64 0) (.int .i64 0) (.slice none 0 0) = w5 := ⟨_, rfl⟩
    rw [hw5] at hB5 Z1 Z2 Z3
    unfold set3 at hw5
    go_wp2_with fail
    try rw [hw5]
    clear hw5 n0 n1 y0 y1 y2 yf k4 k5 hB4
    have hB4 := hB5
    clear hB5
    have n0 := Z1.out.c 0 _ rfl
    have n1 := Z1.out.c 1 _ rfl
    have y0 := Z2.out.c 0 _ rfl
    have y1 := Z2.out.c 1 _ rfl
    have y2 := Z2.out.c 2 _ rfl
    have SS := Lib.hid (show ∀ w', Below w5.heap.size w5 w' → (fun w' => Below w5.heap.size w5 w' ∧ w'.cell? ⟨w.heap.size, 0, none⟩ = some (.slice n.q.A n.q.l.length n.q.c) ∧ w'.cell? ⟨w.heap.size, 1, none⟩ = some (.slice n.ap.A n.ap.l.length n.ap.c) ∧ w'.cell? ⟨w.heap.size + 1, 0, none⟩ = some (.int .i64 0) ∧ w'.cell? ⟨w.heap.size + 1, 1, none⟩ = some (.int .i64 0) ∧ w'.cell? ⟨w.heap.size + 1, 2, none⟩ = some (.slice none 0 0)) w' from fun w' b => ⟨b, (Z1.out.ext b).c 0 _ rfl, (Z1.out.ext b).c 1 _ rfl, (Z2.out.ext b).c 0 _ rfl, (Z2.out.ext b).c 1 _ rfl, (Z2.out.ext b).c 2 _ rfl⟩)
    refine rg_begin (S := (fun w' => Below w5.heap.size w5 w' ∧ w'.cell? ⟨w.heap.size, 0, none⟩ = some (.slice n.q.A n.q.l.length n.q.c) ∧ w'.cell? ⟨w.heap.size, 1, none⟩ = some (.slice n.ap.A n.ap.l.length n.ap.c) ∧ w'.cell? ⟨w.heap.size + 1, 0, none⟩ = some (.int .i64 0) ∧ w'.cell? ⟨w.heap.size + 1, 1, none⟩ = some (.int .i64 0) ∧ w'.cell? ⟨w.heap.size + 1, 2, none⟩ = some (.slice none 0 0))) 4 (by kernel_rfl) (by intro d; cases d <;> intro _ _ _ _ h <;> exact h) ?_ (fun Q7 hQ7 hN7 hHeld => ?_)
    · exact SS.out _ (ext_drew (ext_refl w5))
    refine rg_take (i := 0) (some 27) (v := ?_) rfl rfl (by kernel_rfl) (by rfl) hQ7 hHeld ?_ ?_
    rotate_left
    · intro w7 hSw; (try dsimp only at hSw); go_simp; all_goals with_reducible rfl
    try simp only [Act.put, List.setIfInBounds_toArray, List.set_cons_zero, List.set_cons_succ]
    refine rg_take (i := 1) (some 28) (v := ?_) rfl rfl (by kernel_rfl) (by rfl) hQ7 hHeld ?_ ?_
    rotate_left
    · intro w7 hSw; (try dsimp only at hSw); go_simp; all_goals with_reducible rfl
    try simp only [Act.put, List.setIfInBounds_toArray, List.set_cons_zero, List.set_cons_succ]
    refine rg_take (i := 2) (some 29) (v := ?_) rfl rfl (by kernel_rfl) (by rfl) hQ7 hHeld ?_ ?_
    rotate_left
    · intro w7 hSw; (try dsimp only at hSw); go_simp; all_goals with_reducible rfl
    try simp only [Act.put, List.setIfInBounds_toArray, List.set_cons_zero, List.set_cons_succ]
    refine rg_one (i := 3) (by kernel_rfl) (rg_step rfl (by rfl) (fun K hK => ?_))
    go_simp
    refine (without_at i.toNat (by have := HR1.out; omega) (hn.ext (ext_trans hB4.out hHeld.1)) (by have := HR1.out; omega) (chkE_len HR1.out.1)).mono ?_
    rintro e w6 ⟨m, rfl, hq, ha, hm, B6, hoff⟩
    go_wp2_with fail
    refine hK.out _ _ ?_ (fun hHeld2 => ?_)
    · exact SS.out _ (ext_trans (ext_drew (ext_refl w5)) B6)
    clear hHeld
    have hHeld := hHeld2
    clear hHeld2
    clear hK K
    try simp only [Act.put, List.setIfInBounds_toArray, List.set_cons_zero, List.set_cons_succ]
    have B7 := hHeld.1
    have HM := Lib.hid (show _ ∧ _ ∧ _ from ⟨hq, ha, hm⟩)
    have HO := Lib.hid hoff
    have V2 := Lib.hid (Z2.out.ext B7)
    have V3 := Lib.hid (Z3.out.ext B7)
    have qf := V2.out.f
    have q0 := V2.out.c 0 _ rfl
    have q1 := V2.out.c 1 _ rfl
    have q2 := V2.out.c 2 _ rfl
    have z0 := V3.out.c 0 _ rfl
    have z1 := V3.out.c 1 _ rfl
    have zf := V3.out.f
    clear hq ha hm hoff B6
    refine rg_one (i := 4) (by kernel_rfl) (rg_late rfl (by rfl) (by kernel_rfl) (fun K hK => ?_))
    go_simp
    refine hK.out _ _ ?_
    clear hK K
    try simp only [Act.put, List.setIfInBounds_toArray, List.set_cons_zero, List.set_cons_succ]
    refine rg_one (i := 5) (by kernel_rfl) (rg_late rfl (by rfl) (by kernel_rfl) (fun K hK => ?_))
    go_simp
    refine hK.out _ _ ?_
    clear hK K
    try simp only [Act.put, List.setIfInBounds_toArray, List.set_cons_zero, List.set_cons_succ]
    refine rg_one (i := 6) (by kernel_rfl) (rg_late rfl (by rfl) (by kernel_rfl) (fun K hK => ?_))
    go_simp
    refine hK.out _ _ ?_
    clear hK K
    try simp only [Act.put, List.setIfInBounds_toArray, List.set_cons_zero, List.set_cons_succ]
    refine rg_end (by kernel_rfl) (hN7 _ _ ?_) _
    clear hQ7 hN7 Q7
    go_wp2_with fail
    refine bodyPost_ret (v := .tuple #[zeroP.v, m.v, .int .i64 0]) (by simp [results, Try.results17, go_sem, zeroP, *]) rfl ?_
    obtain ⟨_, rfl, rfl⟩ := HY1.out
    have k0 := hB4.out.size
    have k4 := Z2.out.lt
    have k5 := Z3.out.lt
    have k6 := B7.size
    have ho1 : m.off (w.heap.size + 1) := HO.out _ (by simp; omega) (hn.off (by omega))
    have ho2 : m.off (w.heap.size + 2) := HO.out _ (by simp; omega) (hn.off (by omega))
    rw [HP1.out]
    exact ⟨m, rfl, HM.out.1, HM.out.2.1, ((((HM.out.2.2.set (p := ⟨w.heap.size + 1, 0, none⟩) _ ho1).set (p := ⟨w.heap.size + 1, 1, none⟩) _ ho1).set (p := ⟨w.heap.size + 1, 2, none⟩) _ ho1).set (p := ⟨w.heap.size + 2, 0, none⟩) _ ho2).set (p := ⟨w.heap.size + 2, 1, none⟩) _ ho2, ext_set2 (ext_set3 (ext_trans hB4.out B7) (w.heap.size + 1) _ _ _ (by simp)) (w.heap.size + 2) _ _ (by simp), fun b hb hf => HO.out b (by simp; omega) hf⟩
theorem deliver_at {n : Nt} {i : Int} {w : World} (p : Pk) (q : List Pk) (ap : List Lk) (r : Int) (hp : n.delP i = p) (hq : n.loseQ i = q) (ha : n.loseA i = ap) (hr : n.atE i = r) (hn : NOk w n) : Calls Try.prog 17 #[.agg #[.slice n.q.A n.q.l.length n.q.c, .slice n.ap.A n.ap.l.length n.ap.c], .int .i64 i] w (PkN w n.off p q ap r) := by
  subst hp hq ha hr; exact deliver_any n i w hn
end Go.Proofs.Ythchcimialclkaa
