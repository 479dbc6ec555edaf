/- NetworkSpec, walked. -/
import Derived.Test.YthchcimialclkaaM
set_option linter.unusedSimpArgs false
set_option linter.unusedVariables false
namespace Go.Proofs.Ythchcimialclkaa
open Go.RowKit
theorem rsend_at {n : Nt} {p : Pk} {w : World} (q : List Pk) (ap : List Lk) (r : Int) (hq : n.sendQ p = q) (ha : n.sendA p = ap) (hr : n.sendE p = r) (hn : NOk w n) (hd : Slc w bc 1 p.d.A p.d.l) (hdl : p.d.l.length ≤ maxLen) :
    Calls Try.prog 11 #[.agg #[.slice n.q.A n.q.l.length n.q.c, .slice n.ap.A n.ap.l.length n.ap.c], .agg #[.int .i64 p.f, .int .i64 p.t, .slice p.d.A p.d.l.length p.d.c]] w (NetR w (NP n p) q ap r) := by
  subst hq ha hr; exact rsend_any n p w hn hd hdl
theorem bytesEq_self (l : List Int) : bytesEq l l = true := by simp [bytesEq]
theorem sameP_self (p : Pk) : sameP p p = true := by simp [sameP, bytesEq_self]
theorem zip_all_self {α : Type} (f : α → α → Bool) (hf : ∀ x, f x x = true) : ∀ l : List α, (l.zip l).all (fun p => f p.1 p.2) = true
  | [] => rfl
  | x :: l => by simp only [List.zip_cons_cons, List.all_cons, hf x, zip_all_self f hf l, Bool.and_self]
theorem sameN_eq {a b : Nt} (h1 : a.q.l = b.q.l) (h2 : a.ap.l = b.ap.l) : sameN a b = true := by
  refine sameN_yes (by rw [h1]) (by rw [h2]) ?_ ?_
  · rw [h1]; exact zip_all_self sameP sameP_self _
  · rw [h2]; exact zip_all_self (fun x y => decide (x = y)) (by simp) _
set_option maxHeartbeats 3200000 in
set_option maxRecDepth 100000 in
theorem law3 (n : Nt) (p : Pk) (w : World) (hn : NOk w n) (hd : Slc w bc 1 p.d.A p.d.l) (hdl : p.d.l.length ≤ maxLen) : Calls Try.prog 3 #[n.v, p.v] w (Tru w) := by
  have E := Lib.hid (ext_alloc (ext_alloc (ext_refl w) (.cells #[.slice n.q.A n.q.l.length n.q.c, .slice n.ap.A n.ap.l.length n.ap.c] 25)) (.cells #[.int .i64 p.f, .int .i64 p.t, .slice p.d.A p.d.l.length p.d.c] 28))
  have X1 := Lib.hid ((Blk.new w [.slice n.q.A n.q.l.length n.q.c, .slice n.ap.A n.ap.l.length n.ap.c] 25).alloc (.cells #[.int .i64 p.f, .int .i64 p.t, .slice p.d.A p.d.l.length p.d.c] 28))
  have X2 := Lib.hid (Blk.newH (w.alloc (.cells #[.slice n.q.A n.q.l.length n.q.c, .slice n.ap.A n.ap.l.length n.ap.c] 25)) [.int .i64 p.f, .int .i64 p.t, .slice p.d.A p.d.l.length p.d.c] 28 (w.heap.size + 1) (by simp))
  obtain ⟨q, hq⟩ : ∃ q, n.sendQ p = q := ⟨_, rfl⟩
  obtain ⟨ap, ha⟩ : ∃ a, n.sendA p = a := ⟨_, rfl⟩
  obtain ⟨r, hr⟩ : ∃ r, n.sendE p = r := ⟨_, rfl⟩
  obtain ⟨c, hc⟩ : ∃ c, chkE n = c := ⟨_, rfl⟩
  have HQ := Lib.hid hq
  have HA := Lib.hid ha
  have HR := Lib.hid hr
  have HC := Lib.hid hc
  clear hq ha hr hc
  cases hf : fewN n
  · have HF := Lib.hid hf
    clear hf
    go_enter Try.func3, Try.ntmps3
    go_wp2_with fail
    refine (sane_any _).mono ?_
    rintro e w1 ⟨rfl, B⟩
    replace X1 := Lib.hid (X1.out.ext B)
    replace E := Lib.hid (ext_trans E.out B)
    have n0 := X1.out.c 0 _ rfl
    have n1 := X1.out.c 1 _ rfl
    go_wp2_with fail
    refine (few_at false HF.out (hn.ext E.out)).mono ?_
    rintro e w2 ⟨rfl, B⟩
    go_wp2_with fail
    go_ret
    exact ⟨rfl, ext_trans E.out B⟩
  have HF := Lib.hid hf
  clear hf
  go_enter Try.func3, Try.ntmps3
  go_wp2_with fail
  refine (sane_any _).mono ?_
  rintro e w1 ⟨rfl, B⟩
  replace X1 := Lib.hid (X1.out.ext B)
  replace X2 := Lib.hid (X2.out.ext B)
  replace E := Lib.hid (ext_trans E.out B)
  have n0 := X1.out.c 0 _ rfl
  have n1 := X1.out.c 1 _ rfl
  go_wp2_with fail
  refine (few_at true HF.out (hn.ext E.out)).mono ?_
  rintro e w2 ⟨rfl, B⟩
  clear n0 n1
  replace X1 := Lib.hid (X1.out.ext B)
  replace X2 := Lib.hid (X2.out.ext B)
  replace E := Lib.hid (ext_trans E.out B)
  have n0 := X1.out.c 0 _ rfl
  have n1 := X1.out.c 1 _ rfl
  have p0 := X2.out.c 0 _ rfl
  have p1 := X2.out.c 1 _ rfl
  have p2 := X2.out.c 2 _ rfl
  go_wp2_with fail
  refine (send_at (p := p) q ap r HQ.out HA.out HR.out (hn.ext E.out) (hd.ext E.out) hdl).mono ?_
  rintro e w3 ⟨a, rfl, hq, ha, hm, B, ho⟩
  have HAq := Lib.hid (show _ ∧ _ from ⟨hq, ha⟩)
  clear n0 n1 p0 p1 p2 hq ha ho
  replace X1 := Lib.hid ((X1.out.ext B).alloc (.cells #[.slice a.q.A a.q.l.length a.q.c, .slice a.ap.A a.ap.l.length a.ap.c] 25))
  replace X2 := Lib.hid ((X2.out.ext B).alloc (.cells #[.slice a.q.A a.q.l.length a.q.c, .slice a.ap.A a.ap.l.length a.ap.c] 25))
  replace E := Lib.hid (ext_alloc (ext_trans E.out B) (.cells #[.slice a.q.A a.q.l.length a.q.c, .slice a.ap.A a.ap.l.length a.ap.c] 25))
  have NA := Lib.hid (hm.alloc (.cells #[.slice a.q.A a.q.l.length a.q.c, .slice a.ap.A a.ap.l.length a.ap.c] 25))
  have X3 := Lib.hid (Blk.new w3 [.slice a.q.A a.q.l.length a.q.c, .slice a.ap.A a.ap.l.length a.ap.c] 25)
  clear hm
  have n0 := X1.out.c 0 _ rfl
  have n1 := X1.out.c 1 _ rfl
  have p0 := X2.out.c 0 _ rfl
  have p1 := X2.out.c 1 _ rfl
  have p2 := X2.out.c 2 _ rfl
  go_wp2_with fail
  refine (rsend_at (p := p) q ap r HQ.out HA.out HR.out (hn.ext E.out) (hd.ext E.out) hdl).mono ?_
  rintro e w4 ⟨b, rfl, hq, ha, hm, B, ho⟩
  have HBq := Lib.hid (show _ ∧ _ from ⟨hq, ha⟩)
  clear n0 n1 p0 p1 p2 hq ha ho
  replace X1 := Lib.hid ((X1.out.ext B).alloc (.cells #[.slice b.q.A b.q.l.length b.q.c, .slice b.ap.A b.ap.l.length b.ap.c] 25))
  replace X3 := Lib.hid ((X3.out.ext B).alloc (.cells #[.slice b.q.A b.q.l.length b.q.c, .slice b.ap.A b.ap.l.length b.ap.c] 25))
  replace E := Lib.hid (ext_alloc (ext_trans E.out B) (.cells #[.slice b.q.A b.q.l.length b.q.c, .slice b.ap.A b.ap.l.length b.ap.c] 25))
  replace NA := Lib.hid ((NA.out.ext B).alloc (.cells #[.slice b.q.A b.q.l.length b.q.c, .slice b.ap.A b.ap.l.length b.ap.c] 25))
  have NB := Lib.hid (hm.alloc (.cells #[.slice b.q.A b.q.l.length b.q.c, .slice b.ap.A b.ap.l.length b.ap.c] 25))
  have X4 := Lib.hid (Blk.new w4 [.slice b.q.A b.q.l.length b.q.c, .slice b.ap.A b.ap.l.length b.ap.c] 25)
  clear hm X2
  obtain ⟨w5, hw5⟩ : ∃ w5, w4.alloc (.cells #[.slice b.q.A b.q.l.length b.q.c, .slice b.ap.A b.ap.l.length b.ap.c] 25) = w5 := ⟨_, rfl⟩
  rw [hw5] at X1 X3 X4 E NA NB
  go_wp2_with fail
  try rw [hw5]
  clear hw5
  have SS := Lib.hid (show ∀ w', Below w5.heap.size w5 w' → (fun w' => Below w5.heap.size w5 w' ∧ w'.cell? ⟨w.heap.size, 0, none⟩ = some (.slice n.q.A n.q.l.length n.q.c) ∧ w'.cell? ⟨w.heap.size, 1, none⟩ = some (.slice n.ap.A n.ap.l.length n.ap.c) ∧ w'.cell? ⟨w3.heap.size, 0, none⟩ = some (.slice a.q.A a.q.l.length a.q.c) ∧ w'.cell? ⟨w3.heap.size, 1, none⟩ = some (.slice a.ap.A a.ap.l.length a.ap.c) ∧ w'.cell? ⟨w4.heap.size, 0, none⟩ = some (.slice b.q.A b.q.l.length b.q.c) ∧ w'.cell? ⟨w4.heap.size, 1, none⟩ = some (.slice b.ap.A b.ap.l.length b.ap.c)) w' from fun w' h => ⟨h, (X1.out.ext h).c 0 _ rfl, (X1.out.ext h).c 1 _ rfl, (X3.out.ext h).c 0 _ rfl, (X3.out.ext h).c 1 _ rfl, (X4.out.ext h).c 0 _ rfl, (X4.out.ext h).c 1 _ rfl⟩)
  refine rg_begin (S := (fun w' => Below w5.heap.size w5 w' ∧ w'.cell? ⟨w.heap.size, 0, none⟩ = some (.slice n.q.A n.q.l.length n.q.c) ∧ w'.cell? ⟨w.heap.size, 1, none⟩ = some (.slice n.ap.A n.ap.l.length n.ap.c) ∧ w'.cell? ⟨w3.heap.size, 0, none⟩ = some (.slice a.q.A a.q.l.length a.q.c) ∧ w'.cell? ⟨w3.heap.size, 1, none⟩ = some (.slice a.ap.A a.ap.l.length a.ap.c) ∧ w'.cell? ⟨w4.heap.size, 0, none⟩ = some (.slice b.q.A b.q.l.length b.q.c) ∧ w'.cell? ⟨w4.heap.size, 1, none⟩ = some (.slice b.ap.A b.ap.l.length b.ap.c))) 21 (by kernel_rfl) (by intro d; cases d <;> intro _ _ _ _ h <;> exact h) ?_ (fun Q7 hQ7 hN7 hHeld => ?_)
  · exact SS.out _ (ext_drew (ext_refl w5))
  refine rg_take (i := 0) (some 26) (v := ?_) rfl rfl (by kernel_rfl) (by rfl) hQ7 hHeld ?_ ?_
  rotate_left
  · intro w7 hSw; (try dsimp only at hSw); go_simp; all_goals with_reducible rfl
  try simp only [Act.put, List.setIfInBounds_toArray, List.set_cons_zero, List.set_cons_succ]
  refine rg_take (i := 2) (some 28) (v := ?_) rfl rfl (by kernel_rfl) (by rfl) hQ7 hHeld ?_ ?_
  rotate_left
  · intro w7 hSw; (try dsimp only at hSw); go_simp; all_goals with_reducible rfl
  try simp only [Act.put, List.setIfInBounds_toArray, List.set_cons_zero, List.set_cons_succ]
  refine rg_one (i := 1) (by kernel_rfl) (rg_step rfl (by rfl) (fun K hK => ?_))
  go_simp
  refine (check_at c HC.out (hn.ext (ext_trans E.out hHeld.1))).mono ?_
  rintro e x1 ⟨rfl, B⟩
  go_wp2_with fail
  refine hK.out _ _ ?_ (fun hHeld2 => ?_)
  · exact SS.out _ (ext_trans hHeld.1 B)
  clear hHeld
  have hHeld := hHeld2
  clear hHeld2
  clear hK K
  try simp only [Act.put, List.setIfInBounds_toArray, List.set_cons_zero, List.set_cons_succ]
  refine rg_one (i := 3) (by kernel_rfl) (rg_step rfl (by rfl) (fun K hK => ?_))
  go_simp
  refine (rcheck_at c HC.out (hn.ext (ext_trans E.out hHeld.1))).mono ?_
  rintro e x2 ⟨rfl, B⟩
  go_wp2_with fail
  refine hK.out _ _ ?_ (fun hHeld2 => ?_)
  · exact SS.out _ (ext_trans hHeld.1 B)
  clear hHeld
  have hHeld := hHeld2
  clear hHeld2
  clear hK K
  try simp only [Act.put, List.setIfInBounds_toArray, List.set_cons_zero, List.set_cons_succ]
  refine rg_take (i := 4) (some 30) (v := ?_) rfl rfl (by kernel_rfl) (by rfl) hQ7 hHeld ?_ ?_
  rotate_left
  · intro w7 hSw; (try dsimp only at hSw); go_simp; all_goals with_reducible rfl
  try simp only [Act.put, List.setIfInBounds_toArray, List.set_cons_zero, List.set_cons_succ]
  refine rg_take (i := 5) (some 31) (v := ?_) rfl rfl (by kernel_rfl) (by rfl) hQ7 hHeld ?_ ?_
  rotate_left
  · intro w7 hSw; (try dsimp only at hSw); go_simp; all_goals with_reducible rfl
  try simp only [Act.put, List.setIfInBounds_toArray, List.set_cons_zero, List.set_cons_succ]
  refine rg_take (i := 6) (some 32) (v := ?_) rfl rfl (by kernel_rfl) (by rfl) hQ7 hHeld ?_ ?_
  rotate_left
  · intro w7 hSw; (try dsimp only at hSw); go_simp; all_goals with_reducible rfl
  try simp only [Act.put, List.setIfInBounds_toArray, List.set_cons_zero, List.set_cons_succ]
  refine rg_take (i := 7) (some 33) (v := ?_) rfl rfl (by kernel_rfl) (by rfl) hQ7 hHeld ?_ ?_
  rotate_left
  · intro w7 hSw; (try dsimp only at hSw); go_simp; all_goals with_reducible rfl
  try simp only [Act.put, List.setIfInBounds_toArray, List.set_cons_zero, List.set_cons_succ]
  refine rg_one (i := 8) (by kernel_rfl) (rg_step rfl (by rfl) (fun K hK => ?_))
  go_simp
  refine (same_at (a := a) (b := b) true (sameN_eq (by rw [HAq.out.1, HBq.out.1]) (by rw [HAq.out.2, HBq.out.2])) (NA.out.ext hHeld.1) (NB.out.ext hHeld.1)).mono ?_
  rintro e x3 ⟨rfl, B⟩
  go_wp2_with fail
  refine hK.out _ _ ?_ (fun hHeld2 => ?_)
  · exact SS.out _ (ext_trans hHeld.1 B)
  clear hHeld
  have hHeld := hHeld2
  clear hHeld2
  clear hK K
  try simp only [Act.put, List.setIfInBounds_toArray, List.set_cons_zero, List.set_cons_succ]
  refine rg_take (i := 9) (some 35) (v := ?_) rfl rfl (by kernel_rfl) (by rfl) hQ7 hHeld ?_ ?_
  rotate_left
  · intro w7 hSw; (try dsimp only at hSw); go_simp; all_goals with_reducible rfl
  try simp only [Act.put, List.setIfInBounds_toArray, List.set_cons_zero, List.set_cons_succ]
  refine rg_take (i := 10) (some 36) (v := ?_) rfl rfl (by kernel_rfl) (by rfl) hQ7 hHeld ?_ ?_
  rotate_left
  · intro w7 hSw; (try dsimp only at hSw); go_simp; all_goals with_reducible rfl
  try simp only [Act.put, List.setIfInBounds_toArray, List.set_cons_zero, List.set_cons_succ]
  refine rg_take (i := 11) (some 37) (v := ?_) rfl rfl (by kernel_rfl) (by rfl) hQ7 hHeld ?_ ?_
  rotate_left
  · intro w7 hSw; (try dsimp only at hSw); go_simp; all_goals with_reducible rfl
  try simp only [Act.put, List.setIfInBounds_toArray, List.set_cons_zero, List.set_cons_succ]
  refine rg_take (i := 12) (some 38) (v := ?_) rfl rfl (by kernel_rfl) (by rfl) hQ7 hHeld ?_ ?_
  rotate_left
  · intro w7 hSw; (try dsimp only at hSw); go_simp; all_goals with_reducible rfl
  try simp only [Act.put, List.setIfInBounds_toArray, List.set_cons_zero, List.set_cons_succ]
  refine rg_take (i := 13) (some 39) (v := ?_) rfl rfl (by kernel_rfl) (by rfl) hQ7 hHeld ?_ ?_
  rotate_left
  · intro w7 hSw; (try dsimp only at hSw); go_simp; all_goals with_reducible rfl
  try simp only [Act.put, List.setIfInBounds_toArray, List.set_cons_zero, List.set_cons_succ]
  refine rg_take (i := 14) (some 40) (v := ?_) rfl rfl (by kernel_rfl) (by rfl) hQ7 hHeld ?_ ?_
  rotate_left
  · intro w7 hSw; (try dsimp only at hSw); go_simp; all_goals with_reducible rfl
  try simp only [Act.put, List.setIfInBounds_toArray, List.set_cons_zero, List.set_cons_succ]
  refine rg_take (i := 15) (some 41) (v := ?_) rfl rfl (by kernel_rfl) (by rfl) hQ7 hHeld ?_ ?_
  rotate_left
  · intro w7 hSw; (try dsimp only at hSw); go_simp; all_goals with_reducible rfl
  try simp only [Act.put, List.setIfInBounds_toArray, List.set_cons_zero, List.set_cons_succ]
  refine rg_one (i := 16) (by kernel_rfl) (rg_step rfl (by rfl) (fun K hK => ?_))
  go_simp
  refine (new_any _).mono ?_
  rintro e x4 ⟨rfl, B⟩
  go_wp2_with fail
  refine hK.out _ _ ?_ (fun hHeld2 => ?_)
  · exact SS.out _ (ext_trans hHeld.1 B)
  clear hHeld
  have hHeld := hHeld2
  clear hHeld2
  clear hK K
  try simp only [Act.put, List.setIfInBounds_toArray, List.set_cons_zero, List.set_cons_succ]
  refine rg_one (i := 17) (by kernel_rfl) (rg_step rfl (by rfl) (fun K hK => ?_))
  go_simp
  refine (rnew_any _).mono ?_
  rintro e x5 ⟨rfl, B⟩
  go_wp2_with fail
  refine hK.out _ _ ?_ (fun hHeld2 => ?_)
  · exact SS.out _ (ext_trans hHeld.1 B)
  clear hHeld
  have hHeld := hHeld2
  clear hHeld2
  clear hK K
  try simp only [Act.put, List.setIfInBounds_toArray, List.set_cons_zero, List.set_cons_succ]
  refine rg_one (i := 18) (by kernel_rfl) (rg_step rfl (by rfl) (fun K hK => ?_))
  go_simp
  refine (same_at (a := zeroN) (b := zeroN) true (by kernel_rfl) (NOk.zero _) (NOk.zero _)).mono ?_
  rintro e x6 ⟨rfl, B⟩
  go_wp2_with fail
  refine hK.out _ _ ?_ (fun hHeld2 => ?_)
  · exact SS.out _ (ext_trans hHeld.1 B)
  clear hHeld
  have hHeld := hHeld2
  clear hHeld2
  clear hK K
  try simp only [Act.put, List.setIfInBounds_toArray, List.set_cons_zero, List.set_cons_succ]
  refine rg_take (i := 19) (some 45) (v := ?_) rfl rfl (by kernel_rfl) (by rfl) hQ7 hHeld ?_ ?_
  rotate_left
  · intro w7 hSw; (try dsimp only at hSw); go_simp; all_goals with_reducible rfl
  try simp only [Act.put, List.setIfInBounds_toArray, List.set_cons_zero, List.set_cons_succ]
  refine rg_take (i := 20) (some 4) (v := ?_) rfl rfl (by kernel_rfl) (by rfl) hQ7 hHeld ?_ ?_
  rotate_left
  · intro w7 hSw; (try dsimp only at hSw); go_simp; all_goals with_reducible rfl
  try simp only [Act.put, List.setIfInBounds_toArray, List.set_cons_zero, List.set_cons_succ]
  refine rg_end (by kernel_rfl) (hN7 _ _ ?_) _
  clear hQ7 hN7 Q7
  have E2 := ext_trans E.out hHeld.1
  clear hHeld SS
  go_wp2_with fail
  go_ret
  exact ⟨rfl, E2⟩
end Go.Proofs.Ythchcimialclkaa
