/- divided: the airspace of tables. -/
import Derived.Test.YtilocjliplmmpaaGreatG
import Derived.Test.YtilocjliplmmpaaGreatPF
set_option linter.unusedSimpArgs false
set_option linter.unusedVariables false
namespace Go.Proofs.YtilocjliplmmpaaGreat
open Go.RowKit
theorem info85 : ∃ i, Tryz.prog.info? 188 = some i ∧ ∃ z, i.zero = some z ∧ i.bytes ≤ 1000 := by
  have h : (Tryz.prog.info? 188).map (fun i => (i.zero.isSome, decide (i.bytes ≤ 1000))) = some (true, true) := by kernel_rfl
  obtain ⟨i, hi, hx⟩ := Option.map_eq_some_iff.1 h
  simp only [Prod.mk.injEq, decide_eq_true_eq, Option.isSome_iff_exists] at hx
  obtain ⟨⟨z, hz⟩, hb⟩ := hx
  exact ⟨i, hi, z, hz, hb⟩
theorem mk86 (n : Int) (h0 : 0 ≤ n) (h1 : n ≤ 64) : ∃ f : World → Obj, ∀ w, (Instr.makeSlice 76 (.int .i64 n) (.int .i64 n)).run Tryz.prog w = .ok (.slice (some ⟨w.heap.size, 0, none⟩) n.toNat n.toNat) (w.alloc (f w)) := by
  obtain ⟨i, hi, z, hz, hb⟩ := info85
  exact ⟨_, fun w => run_make w 76 188 i z Tryz.underlying76 hi hz .i64 .i64 n n h0 (Int.le_refl _) (by
    have : (i.bytes : Int) * n ≤ 1000 * 64 := Int.mul_le_mul (by omega) h1 h0 (by decide)
    omega) (by omega)⟩
def set8 (w : World) (b : Nat) (a0 a1 a2 a3 a4 a5 a6 a7 : Value) : World :=
  (((((((w.setCell ⟨b, 0, none⟩ a0).setCell ⟨b, 1, none⟩ a1).setCell ⟨b, 2, none⟩ a2).setCell ⟨b, 3, none⟩ a3).setCell ⟨b, 4, none⟩ a4).setCell ⟨b, 5, none⟩ a5).setCell ⟨b, 6, none⟩ a6).setCell ⟨b, 7, none⟩ a7
theorem Blk.put8 {w : World} {b : Nat} {c0 c1 c2 c3 c4 c5 c6 c7 : Value} (h : Blk w b [c0, c1, c2, c3, c4, c5, c6, c7]) (a0 a1 a2 a3 a4 a5 a6 a7 : Value) : Blk (set8 w b a0 a1 a2 a3 a4 a5 a6 a7) b [a0, a1, a2, a3, a4, a5, a6, a7] :=
  (((((((h.set (j := 0) (by simp) a0).set (j := 1) (by simp) a1).set (j := 2) (by simp) a2).set (j := 3) (by simp) a3).set (j := 4) (by simp) a4).set (j := 5) (by simp) a5).set (j := 6) (by simp) a6).set (j := 7) (by simp) a7
theorem ext_set8 {a b : World} (h : Below a.heap.size a b) (c : Nat) (a0 a1 a2 a3 a4 a5 a6 a7 : Value) (hc : a.heap.size ≤ c) : Below a.heap.size a (set8 b c a0 a1 a2 a3 a4 a5 a6 a7) :=
  below_set (below_set (below_set (below_set (below_set (below_set (below_set (below_set h ⟨c, 0, none⟩ a0 hc) ⟨c, 1, none⟩ a1 hc) ⟨c, 2, none⟩ a2 hc) ⟨c, 3, none⟩ a3 hc) ⟨c, 4, none⟩ a4 hc) ⟨c, 5, none⟩ a5 hc) ⟨c, 6, none⟩ a6 hc) ⟨c, 7, none⟩ a7 hc
set_option maxRecDepth 100000 in
set_option maxHeartbeats 4000000 in
theorem divided_any (t : Tab) (w : World) (h0 : 1 ≤ t.n) (h1 : t.n ≤ 64) : Calls Tryz.prog 54 #[t.v] w fun e w' => ∃ b, e = .returned (aspV (some ⟨b, 0, none⟩) t.n.toNat t.n.toNat t.ss.A t.ss.l.length t.ss.c t.cs.A t.cs.l.length t.cs.c) ∧ Below w.heap.size w w' := by
  obtain ⟨f, hmk⟩ := mk86 t.n (by omega) h1
  have HX := Lib.hid ((Blk.newH w t.cells 28 w.heap.size rfl).alloc (.cells #[.slice none 0 0, .slice none 0 0, .slice none 0 0, .slice none 0 0, .slice none 0 0, .slice none 0 0, .slice none 0 0, .slice none 0 0] 83))
  have HE := Lib.hid (ext_alloc (ext_alloc (ext_refl w) (.cells #[.int .i64 t.n, .slice t.ss.A t.ss.l.length t.ss.c, .slice t.cs.A t.cs.l.length t.cs.c, .slice t.ws.A t.ws.l.length t.ws.c, .slice t.ms.A t.ms.l.length t.ms.c, .slice t.ks.A t.ks.l.length t.ks.c] 28)) (.cells #[.slice none 0 0, .slice none 0 0, .slice none 0 0, .slice none 0 0, .slice none 0 0, .slice none 0 0, .slice none 0 0, .slice none 0 0] 83))
  have HY := Lib.hid (Blk.newH (w.alloc (.cells #[.int .i64 t.n, .slice t.ss.A t.ss.l.length t.ss.c, .slice t.cs.A t.cs.l.length t.cs.c, .slice t.ws.A t.ws.l.length t.ws.c, .slice t.ms.A t.ms.l.length t.ms.c, .slice t.ks.A t.ks.l.length t.ks.c] 28)) [.slice none 0 0, .slice none 0 0, .slice none 0 0, .slice none 0 0, .slice none 0 0, .slice none 0 0, .slice none 0 0, .slice none 0 0] 83 (w.heap.size + 1) (by simp))
  obtain ⟨W, hW⟩ : ∃ W, (w.alloc (.cells #[.int .i64 t.n, .slice t.ss.A t.ss.l.length t.ss.c, .slice t.cs.A t.cs.l.length t.cs.c, .slice t.ws.A t.ws.l.length t.ws.c, .slice t.ms.A t.ms.l.length t.ms.c, .slice t.ks.A t.ks.l.length t.ks.c] 28)).alloc (.cells #[.slice none 0 0, .slice none 0 0, .slice none 0 0, .slice none 0 0, .slice none 0 0, .slice none 0 0, .slice none 0 0, .slice none 0 0] 83) = W := ⟨_, rfl⟩
  have hz : W.heap.size = w.heap.size + 2 := by rw [← hW]; simp
  go_enter Tryz.func54, Tryz.ntmps54
  go_wp2_with fail
  rw [show (w.alloc (.cells t.cells.toArray 28)) = (w.alloc (.cells #[.int .i64 t.n, .slice t.ss.A t.ss.l.length t.ss.c, .slice t.cs.A t.cs.l.length t.cs.c, .slice t.ws.A t.ws.l.length t.ws.c, .slice t.ms.A t.ms.l.length t.ms.c, .slice t.ks.A t.ks.l.length t.ks.c] 28)) from rfl] at HX
  rw [hW] at HX HE HY
  clear hW
  have SS := Lib.hid (show ∀ w', Below W.heap.size W w' → (fun w' => Below W.heap.size W w' ∧ w'.cell? ⟨w.heap.size, 0, none⟩ = some (.int .i64 t.n) ∧ w'.cell? ⟨w.heap.size, 1, none⟩ = some (.slice t.ss.A t.ss.l.length t.ss.c) ∧ w'.cell? ⟨w.heap.size, 2, none⟩ = some (.slice t.cs.A t.cs.l.length t.cs.c)) w' from fun w' h => ⟨h, (HX.out.ext h).c 0 _ rfl, (HX.out.ext h).c 1 _ rfl, (HX.out.ext h).c 2 _ rfl⟩)
  refine rg_begin (S := (fun w' => Below W.heap.size W w' ∧ w'.cell? ⟨w.heap.size, 0, none⟩ = some (.int .i64 t.n) ∧ w'.cell? ⟨w.heap.size, 1, none⟩ = some (.slice t.ss.A t.ss.l.length t.ss.c) ∧ w'.cell? ⟨w.heap.size, 2, none⟩ = some (.slice t.cs.A t.cs.l.length t.cs.c))) 8 (by kernel_rfl) (by intro d; cases d <;> intro _ _ _ _ h <;> exact h) ?_ (fun Q7 hQ7 hN7 hHeld => ?_)
  · exact SS.out _ (ext_drew (ext_refl _))
  refine rg_take (i := 0) (some 3) (v := ?_) rfl rfl (by kernel_rfl) (by rfl) hQ7 hHeld ?_ ?_
  rotate_left
  · intro w7 hSw; (try dsimp only at hSw); go_simp; all_goals with_reducible rfl
  try simp only [Act.put, List.setIfInBounds_toArray, List.set_cons_zero, List.set_cons_succ]
  refine rg_take (i := 1) (some 4) (v := ?_) rfl rfl (by kernel_rfl) (by rfl) hQ7 hHeld ?_ ?_
  rotate_left
  · intro w7 hSw; (try dsimp only at hSw); go_simp; all_goals with_reducible rfl
  try simp only [Act.put, List.setIfInBounds_toArray, List.set_cons_zero, List.set_cons_succ]
  refine rg_take (i := 3) (some 6) (v := ?_) rfl rfl (by kernel_rfl) (by rfl) hQ7 hHeld ?_ ?_
  rotate_left
  · intro w7 hSw; (try dsimp only at hSw); go_simp; all_goals with_reducible rfl
  try simp only [Act.put, List.setIfInBounds_toArray, List.set_cons_zero, List.set_cons_succ]
  refine rg_take (i := 4) (some 7) (v := ?_) rfl rfl (by kernel_rfl) (by rfl) hQ7 hHeld ?_ ?_
  rotate_left
  · intro w7 hSw; (try dsimp only at hSw); go_simp; all_goals with_reducible rfl
  try simp only [Act.put, List.setIfInBounds_toArray, List.set_cons_zero, List.set_cons_succ]
  refine rg_take (i := 5) (some 8) (v := ?_) rfl rfl (by kernel_rfl) (by rfl) hQ7 hHeld ?_ ?_
  rotate_left
  · intro w7 hSw; (try dsimp only at hSw); go_simp; all_goals with_reducible rfl
  try simp only [Act.put, List.setIfInBounds_toArray, List.set_cons_zero, List.set_cons_succ]
  refine rg_take (i := 6) (some 9) (v := ?_) rfl rfl (by kernel_rfl) (by rfl) hQ7 hHeld ?_ ?_
  rotate_left
  · intro w7 hSw; (try dsimp only at hSw); go_simp; all_goals with_reducible rfl
  try simp only [Act.put, List.setIfInBounds_toArray, List.set_cons_zero, List.set_cons_succ]
  refine rg_one (i := 2) (by kernel_rfl) (rg_step rfl (by rfl) (fun K hK => ?_))
  go_simp
  refine hK.out _ _ ?_ (fun hHeld2 => ?_)
  · exact SS.out _ (ext_alloc hHeld.1 _)
  clear hHeld
  have hHeld := hHeld2
  clear hHeld2
  clear hK K
  try simp only [Act.put, List.setIfInBounds_toArray, List.set_cons_zero, List.set_cons_succ]
  refine rg_take (i := 7) (some 10) (v := ?_) rfl rfl (by kernel_rfl) (by rfl) hQ7 hHeld ?_ ?_
  rotate_left
  · intro w7 hSw; (try dsimp only at hSw); go_simp; all_goals with_reducible rfl
  try simp only [Act.put, List.setIfInBounds_toArray, List.set_cons_zero, List.set_cons_succ]
  have y9 := HY.out
  have y0 := y9.c 0 _ rfl
  have y1 := y9.c 1 _ rfl
  have y2 := y9.c 2 _ rfl
  have y3 := y9.c 3 _ rfl
  have y4 := y9.c 4 _ rfl
  have y5 := y9.c 5 _ rfl
  have y6 := y9.c 6 _ rfl
  have y7 := y9.c 7 _ rfl
  have yf := y9.f
  have yl := y9.lt
  clear y9
  refine rg_one (i := 8) (by kernel_rfl) (rg_late rfl (by rfl) (by kernel_rfl) (fun K hK => ?_))
  go_simp
  refine hK.out _ _ ?_
  clear hK K
  try simp only [Act.put, List.setIfInBounds_toArray, List.set_cons_zero, List.set_cons_succ]
  refine rg_end (by kernel_rfl) (hN7 _ _ ?_) _
  clear hQ7 hN7 Q7
  have BX := hHeld.1
  clear SS
  have BP := HY.out.put8 (.slice (some ⟨w.heap.size + 2, 0, none⟩) t.n.toNat t.n.toNat) (.slice t.ss.A t.ss.l.length t.ss.c) (.slice t.cs.A t.cs.l.length t.cs.c) (.slice none 0 0) (.slice none 0 0) (.slice none 0 0) (.slice none 0 0) (.slice none 0 0)
  have BE := ext_set8 HE.out (w.heap.size + 1) (.slice (some ⟨w.heap.size + 2, 0, none⟩) t.n.toNat t.n.toNat) (.slice t.ss.A t.ss.l.length t.ss.c) (.slice t.cs.A t.cs.l.length t.cs.c) (.slice none 0 0) (.slice none 0 0) (.slice none 0 0) (.slice none 0 0) (.slice none 0 0) (by omega)
  replace BP := (BP.alloc (f W.drew)).drew
  replace BE := ext_drew (ext_alloc BE (f W.drew))
  unfold set8 at BP BE
  have p0 := BP.c 0 _ rfl
  have p1 := BP.c 1 _ rfl
  have p2 := BP.c 2 _ rfl
  have p3 := BP.c 3 _ rfl
  have p4 := BP.c 4 _ rfl
  have p5 := BP.c 5 _ rfl
  have p6 := BP.c 6 _ rfl
  have p7 := BP.c 7 _ rfl
  have HBE := Lib.hid BE
  clear BP BE hmk y0 y1 y2 y3 y4 y5 y6 y7 yf yl BX hHeld
  go_wp2_with fail
  refine bodyPost_ret (v := aspV (some ⟨w.heap.size + 2, 0, none⟩) t.n.toNat t.n.toNat t.ss.A t.ss.l.length t.ss.c t.cs.A t.cs.l.length t.cs.c) (by simp [results, Tryz.results54, go_sem, p0, p1, p2, p3, p4, p5, p6, p7]) rfl ⟨_, rfl, HBE.out⟩
end Go.Proofs.YtilocjliplmmpaaGreat
/- airspace.Check. -/
set_option linter.unusedSimpArgs false
set_option linter.unusedVariables false
namespace Go.Proofs.YtilocjliplmmpaaGreat
open Go.RowKit
theorem chkT_no {t : Tab} (h : inn t.n 1 64 = false ∨ divT t.n.toNat t.ss.l t.cs.l = false ∨ t.ss.l.all secB = false ∨ 16 < t.ms.l.length ∨ t.ms.l.all modeB = false ∨ 64 < t.ws.l.length ∨
    t.ws.l.all (wayB t.n t.ms.l.length) = false ∨ 8 < t.ks.l.length ∨ t.ks.l.all (kindB t.ms.l.length) = false) : chkT t = 140 := by
  unfold chkT
  rw [if_neg]
  intro q
  simp only [Bool.and_eq_true, decide_eq_true_eq] at q
  obtain ⟨⟨⟨⟨⟨⟨⟨⟨q1, q2⟩, q3⟩, q4⟩, q5⟩, q6⟩, q7⟩, q8⟩, q9⟩ := q
  rcases h with h | h | h | h | h | h | h | h | h
  · rw [q1] at h; cases h
  · rw [q2] at h; cases h
  · rw [q3] at h; cases h
  · omega
  · rw [q5] at h; cases h
  · omega
  · rw [q7] at h; cases h
  · omega
  · rw [q9] at h; cases h
theorem chkT_yes {t : Tab} (q1 : inn t.n 1 64 = true) (q2 : divT t.n.toNat t.ss.l t.cs.l = true) (q3 : t.ss.l.all secB = true) (q4 : t.ms.l.length ≤ 16) (q5 : t.ms.l.all modeB = true) (q6 : t.ws.l.length ≤ 64)
    (q7 : t.ws.l.all (wayB t.n t.ms.l.length) = true) (q8 : t.ks.l.length ≤ 8) (q9 : t.ks.l.all (kindB t.ms.l.length) = true) : chkT t = 0 := by
  unfold chkT
  rw [if_pos]
  simp only [Bool.and_eq_true, decide_eq_true_eq]
  exact ⟨⟨⟨⟨⟨⟨⟨⟨q1, q2⟩, q3⟩, q4⟩, q5⟩, q6⟩, q7⟩, q8⟩, q9⟩
theorem store_func (P : Program) (w : World) (a : Addr) (m : Mode) (f : Fn) (c : Array Value) (e : Array Value) : (store a (.func f c e) m).run P w = stored P w a (.func f c e) m := run_store P w a _ m rfl
attribute [local go_sem] store_func
set_option maxRecDepth 100000 in
set_option maxHeartbeats 16000000 in
theorem achk_any (t : Tab) (w : World) (ht : Tab.ok w t) : Calls Tryz.prog 19 #[t.v] w (RetE w (chkT t)) := by
  obtain ⟨W, hW⟩ : ∃ W, (((w.alloc (.cells #[.int .i64 t.n, .slice t.ss.A t.ss.l.length t.ss.c, .slice t.cs.A t.cs.l.length t.cs.c, .slice t.ws.A t.ws.l.length t.ws.c, .slice t.ms.A t.ms.l.length t.ms.c, .slice t.ks.A t.ks.l.length t.ks.c] 28)).alloc (.cells #[.func (.func 46) #[] #[ptr w.heap.size]] 111)).alloc (.cells #[.func (.func 48) #[] #[ptr w.heap.size]] 108)) = W := ⟨_, rfl⟩
  have HB1 : Hid (Blk W w.heap.size t.cells) := by
    rw [← hW]; exact ((Blk.newH w t.cells 28 w.heap.size rfl).alloc _).alloc _
  have HB2 : Hid (Blk W (w.heap.size + 1) [.func (.func 46) #[] #[ptr w.heap.size]]) := by
    rw [← hW]; exact (Blk.newH (w.alloc (.cells #[.int .i64 t.n, .slice t.ss.A t.ss.l.length t.ss.c, .slice t.cs.A t.cs.l.length t.cs.c, .slice t.ws.A t.ws.l.length t.ws.c, .slice t.ms.A t.ms.l.length t.ms.c, .slice t.ks.A t.ks.l.length t.ks.c] 28)) [.func (.func 46) #[] #[ptr w.heap.size]] 111 (w.heap.size + 1) (by simp)).alloc _
  have HB3 : Hid (Blk W (w.heap.size + 1 + 1) [.func (.func 48) #[] #[ptr w.heap.size]]) := by
    rw [← hW]; exact Blk.newH ((w.alloc (.cells #[.int .i64 t.n, .slice t.ss.A t.ss.l.length t.ss.c, .slice t.cs.A t.cs.l.length t.cs.c, .slice t.ws.A t.ws.l.length t.ws.c, .slice t.ms.A t.ms.l.length t.ms.c, .slice t.ks.A t.ks.l.length t.ks.c] 28)).alloc (.cells #[.func (.func 46) #[] #[ptr w.heap.size]] 111)) [.func (.func 48) #[] #[ptr w.heap.size]] 108 (w.heap.size + 1 + 1) (by simp)
  have HE : Hid (Below w.heap.size w W) := by
    rw [← hW]; exact ext_alloc (ext_alloc (ext_alloc (ext_refl w) _) _) _
  have HT := Lib.hid (ht.ext HE.out)
  clear ht
  have q0 := HB1.out.c 0 _ rfl
  have q1 := HB1.out.c 1 _ rfl
  have q2 := HB1.out.c 2 _ rfl
  have q3 := HB1.out.c 3 _ rfl
  have q4 := HB1.out.c 4 _ rfl
  have q5 := HB1.out.c 5 _ rfl
  have ql := HB1.out.lt
  go_enter Tryz.func19, Tryz.ntmps19
  go_wp2_with fail
  clear hW
  refine (inn_any _ _ _ _).mono ?_
  rintro e w1 ⟨rfl, rfl⟩
  cases h1 : inn t.n 1 64
  · go_wp2_with fail
    go_ret
    rw [chkT_no (.inl h1)]
    exact ⟨rfl, HE.out⟩
  obtain ⟨n0, n1⟩ := inn_iff.1 h1
  go_wp2_with fail
  refine (divided_any t _ n0 n1).mono ?_
  rintro e w1 ⟨bd, rfl, B1⟩
  have T1 := HT.out.ext B1
  go_wp2_with fail
  refine (ccheck_any _ _ _ t.ss.A t.ss.c t.ss.l t.cs.A t.cs.c t.cs.l _ T1.1.slc (fun x hx => T1.1.all hx) T1.2.1.slc (fun x hx => T1.2.1.all hx)).mono ?_
  rintro e w2 ⟨rfl, B2⟩
  have B12 := ext_trans B1 B2
  have HE2 := Lib.hid (ext_trans HE.out B12)
  have HB2' := Lib.hid (HB1.out.ext B12)
  have HB3' := Lib.hid (HB2.out.ext B12)
  have HB4' := Lib.hid (HB3.out.ext B12)
  have HT2 := Lib.hid (T1.ext B2)
  clear HB1 HB2 HB3 HE HT T1 B1 B2 B12 q0 q1 q2 q3 q4 q5 ql
  cases h2 : divT t.n.toNat t.ss.l t.cs.l
  · go_wp2_with fail
    go_ret
    rw [chkT_no (.inr (.inl h2))]
    exact ⟨rfl, HE2.out⟩
  have q0 := HB2'.out.c 0 _ rfl
  have q1 := HB2'.out.c 1 _ rfl
  have q2 := HB2'.out.c 2 _ rfl
  have q3 := HB2'.out.c 3 _ rfl
  have q4 := HB2'.out.c 4 _ rfl
  have q5 := HB2'.out.c 5 _ rfl
  have ql := HB2'.out.lt
  go_wp2_with fail
  refine (allSec 41 secB t.ss.A t.ss.c t.ss.l _ HT2.out.1.slc HT2.out.1.len enters40 (fun x W _ _ => secB_any x W)).mono ?_
  rintro e w3 ⟨rfl, B3⟩
  cases h3 : t.ss.l.all secB
  · go_wp2_with fail
    go_ret
    rw [chkT_no (.inr (.inr (.inl h3)))]
    exact ⟨rfl, ext_trans HE2.out B3⟩
  have HE3 := Lib.hid (ext_trans HE2.out B3)
  have HB5' := Lib.hid (HB2'.out.ext B3)
  have HB6' := Lib.hid (HB3'.out.ext B3)
  have HB7' := Lib.hid (HB4'.out.ext B3)
  have HT3 := Lib.hid (HT2.out.ext B3)
  clear HB2' HB3' HB4' HE2 HT2 B3 q0 q1 q2 q3 q4 q5 ql
  have q0 := HB5'.out.c 0 _ rfl
  have q1 := HB5'.out.c 1 _ rfl
  have q2 := HB5'.out.c 2 _ rfl
  have q3 := HB5'.out.c 3 _ rfl
  have q4 := HB5'.out.c 4 _ rfl
  have q5 := HB5'.out.c 5 _ rfl
  have ql := HB5'.out.lt
  by_cases h4 : 16 < t.ms.l.length
  · have e4 : decide ((t.ms.l.length : Int) > 16) = true := decide_eq_true (by omega)
    go_wp2_with fail
    go_ret
    rw [chkT_no (.inr (.inr (.inr (.inl h4))))]
    exact ⟨rfl, HE3.out⟩
  have e4 : decide ((t.ms.l.length : Int) > 16) = false := decide_eq_false (by omega)
  go_wp2_with fail
  refine (allL 43 modeB t.ms.A t.ms.c t.ms.l _ HT3.out.2.2.2.1.slc HT3.out.2.2.2.1.len enters42 (fun x W hx hW => modeB_any x W ((HT3.out.2.2.2.1.all hx).slc.ext hW) (HT3.out.2.2.2.1.all hx).len)).mono ?_
  rintro e w4 ⟨rfl, B4⟩
  cases h5 : t.ms.l.all modeB
  · go_wp2_with fail
    go_ret
    rw [chkT_no (.inr (.inr (.inr (.inr (.inl h5)))))]
    exact ⟨rfl, ext_trans HE3.out B4⟩
  have HE4 := Lib.hid (ext_trans HE3.out B4)
  have HBa' := Lib.hid (HB5'.out.ext B4)
  have HBb' := Lib.hid (HB6'.out.ext B4)
  have HBc' := Lib.hid (HB7'.out.ext B4)
  have HT4 := Lib.hid (HT3.out.ext B4)
  clear HB5' HB6' HB7' HE3 HT3 B4 q0 q1 q2 q3 q4 q5 ql
  have q0 := HBa'.out.c 0 _ rfl
  have q1 := HBa'.out.c 1 _ rfl
  have q2 := HBa'.out.c 2 _ rfl
  have q3 := HBa'.out.c 3 _ rfl
  have q4 := HBa'.out.c 4 _ rfl
  have q5 := HBa'.out.c 5 _ rfl
  have ql := HBa'.out.lt
  by_cases h6 : 64 < t.ws.l.length
  · have e6 : decide ((t.ws.l.length : Int) > 64) = true := decide_eq_true (by omega)
    go_wp2_with fail
    go_ret
    rw [chkT_no (.inr (.inr (.inr (.inr (.inr (.inl h6))))))]
    exact ⟨rfl, HE4.out⟩
  have e6 : decide ((t.ws.l.length : Int) > 64) = false := decide_eq_false (by omega)
  go_wp2_with fail
  refine (allWy 49 (ptr (w.heap.size + 1 + 1)) (ptr (w.heap.size + 1)) (wayB t.n t.ms.l.length) t.ws.A t.ws.c t.ws.l _ HT4.out.2.2.1.slc HT4.out.2.2.1.len enters48
    (fun x W hx hW => wayB_any t w.heap.size (w.heap.size + 1 + 1) (w.heap.size + 1) x W ((HT4.out.2.2.1.all hx).ext hW) (HBa'.out.ext hW) n0 n1 HT4.out.2.2.2.1.len (HBc'.out.ext hW) (HBb'.out.ext hW))).mono ?_
  rintro e w5 ⟨rfl, B5⟩
  cases h7 : t.ws.l.all (wayB t.n t.ms.l.length)
  · go_wp2_with fail
    go_ret
    rw [chkT_no (.inr (.inr (.inr (.inr (.inr (.inr (.inl h7)))))))]
    exact ⟨rfl, ext_trans HE4.out B5⟩
  have HE5 := Lib.hid (ext_trans HE4.out B5)
  have HBd' := Lib.hid (HBa'.out.ext B5)
  have HT5 := Lib.hid (HT4.out.ext B5)
  clear HBa' HBb' HBc' HE4 HT4 B5 q0 q1 q2 q3 q4 q5 ql
  have q0 := HBd'.out.c 0 _ rfl
  have q1 := HBd'.out.c 1 _ rfl
  have q2 := HBd'.out.c 2 _ rfl
  have q3 := HBd'.out.c 3 _ rfl
  have q4 := HBd'.out.c 4 _ rfl
  have q5 := HBd'.out.c 5 _ rfl
  have ql := HBd'.out.lt
  by_cases h8 : 8 < t.ks.l.length
  · have e8 : decide ((t.ks.l.length : Int) > 8) = true := decide_eq_true (by omega)
    go_wp2_with fail
    go_ret
    rw [chkT_no (.inr (.inr (.inr (.inr (.inr (.inr (.inr (.inl h8))))))))]
    exact ⟨rfl, HE5.out⟩
  have e8 : decide ((t.ks.l.length : Int) > 8) = false := decide_eq_false (by omega)
  go_wp2_with fail
  refine (allKd 51 (ptr w.heap.size) (kindB t.ms.l.length) t.ks.A t.ks.c t.ks.l _ HT5.out.2.2.2.2.slc HT5.out.2.2.2.2.len enters50
    (fun x W hx hW => kindB_any t w.heap.size x W ((HT5.out.2.2.2.2.all hx).ext hW) (HBd'.out.ext hW))).mono ?_
  rintro e w6 ⟨rfl, B6⟩
  cases h9 : t.ks.l.all (kindB t.ms.l.length)
  · go_wp2_with fail
    go_ret
    rw [chkT_no (.inr (.inr (.inr (.inr (.inr (.inr (.inr (.inr h9))))))))]
    exact ⟨rfl, ext_trans HE5.out B6⟩
  · go_wp2_with fail
    go_ret
    rw [chkT_yes h1 h2 h3 (by omega) h5 (by omega) h7 (by omega) h9]
    exact ⟨rfl, ext_trans HE5.out B6⟩
theorem achk_at {t : Tab} {w : World} (r : Int) (hr : chkT t = r) (ht : Tab.ok w t) : Calls Tryz.prog 19 #[t.v] w (RetE w r) := by
  subst hr; exact achk_any t w ht
end Go.Proofs.YtilocjliplmmpaaGreat
/- In. -/
set_option linter.unusedSimpArgs false
set_option linter.unusedVariables false
namespace Go.Proofs.YtilocjliplmmpaaGreat
open Go.RowKit
def InR (w : World) (r : Option Chg) (e : Ending) (w' : World) : Prop := e = .returned (.tuple #[(r.getD noChg).v, .bool r.isSome]) ∧ Below w.heap.size w w'
theorem inGo_none {m : Int} {l : List Chg} {k : Nat} {x : Chg} (hx : l[k]? = some x) : inGo m none (l.drop k) = if x.f ≤ m then inGo m (some x) (l.drop (k + 1)) else inGo m none (l.drop (k + 1)) := by
  obtain ⟨hk, rfl⟩ := List.getElem?_eq_some_iff.1 hx
  rw [List.drop_eq_getElem_cons hk]; rfl
theorem inGo_some {m : Int} {l : List Chg} {k : Nat} {x c : Chg} (hx : l[k]? = some x) : inGo m (some c) (l.drop k) = if x.f ≤ m ∧ c.f ≤ x.f then inGo m (some x) (l.drop (k + 1)) else inGo m (some c) (l.drop (k + 1)) := by
  obtain ⟨hk, rfl⟩ := List.getElem?_eq_some_iff.1 hx
  rw [List.drop_eq_getElem_cons hk]; rfl
theorem inGo_end (m : Int) (o : Option Chg) {l : List Chg} {k : Nat} (h : l.length ≤ k) : inGo m o (l.drop k) = o := by
  rw [List.drop_eq_nil_of_le h]; cases o <;> rfl
set_option maxRecDepth 100000 in
set_option maxHeartbeats 8000000 in
theorem in_c (A : Option Addr) (c : Nat) (l : List Chg) (m : Int) (w : World) (ha : Slc w Chg.cells 3 A l) (hl : l.length ≤ maxLen) : Calls Tryz.prog 17 #[.agg #[.slice A l.length c], .int .i64 m] w (InR w (inS l m)) := by
  have HA := Lib.hid ha
  obtain ⟨W, hW⟩ : ∃ W, (w.alloc (.cells #[.slice A l.length c] 31)).alloc (.cells #[.int .i64 0, .int .i64 0, .slice none 0 0] 34) = W := ⟨_, rfl⟩
  have hz : W.heap.size = w.heap.size + 2 := by rw [← hW]; simp
  have HB0 : Hid (Blk W w.heap.size [.slice A l.length c]) := by
    rw [← hW]; exact (Blk.newH w [.slice A l.length c] 31 w.heap.size rfl).alloc _
  have HB1 : Hid (Blk W (w.heap.size + 1) noChg.cells) := by
    rw [← hW]; exact Blk.newH (w.alloc (.cells #[.slice A l.length c] 31)) noChg.cells 34 (w.heap.size + 1) (by simp)
  have HE : Hid (Below w.heap.size w W) := by
    rw [← hW]; exact ext_alloc (ext_alloc (ext_refl w) _) _
  clear ha
  have b0 := HB0.out.c 0 _ rfl
  have bl := HB0.out.lt
  unfold maxLen at hl
  go_enter Tryz.func17, Tryz.ntmps17
  go_wp2_with fail
  clear hW b0 bl HB0
  go_loopw [5, 11] (fun z i wr => ∃ (k : Nat) (o : Option Chg), k ≤ l.length ∧ i = .int .i64 k ∧ z = .bool o.isSome ∧ Hid (inS l m = inGo m o (l.drop k)) ∧ Hid (Below w.heap.size w wr) ∧ Hid (Blk wr (w.heap.size + 1) (o.getD noChg).cells)) (fun _ i _ => l.length - (intOf i).toNat)
  case atStart => exact ⟨0, none, Nat.zero_le _, rfl, rfl, rfl, HE.out, HB1.out⟩
  clear HE HB1
  case round =>
    obtain ⟨k, o, hk, rfl, rfl, HQ, HE, HB⟩ := hrel
    obtain ⟨d, hd⟩ : ∃ d, o.getD noChg = d := ⟨_, rfl⟩
    rw [hd] at HB
    have d0 := HB.out.c 0 _ rfl
    have d1 := HB.out.c 1 _ rfl
    have d2 := HB.out.c 2 _ rfl
    have df := HB.out.f
    have dl := HB.out.lt
    by_cases hlt : k < l.length
    · have hlt' : (k : Int) < l.length := by omega
      obtain ⟨x, b1, o1, hx, rfl, hb1, hc⟩ := (HA.out.ext HE.out).at_ hlt
      have c0 := hc 0 _ rfl
      have c1 := hc 1 _ rfl
      have c2 := hc 2 _ rfl
      simp only [Nat.add_zero] at c0
      have HX := Lib.hid hx
      clear hc hx
      have HP := Lib.hid ((HB.out.put3 (.int .i64 x.f) (.int .i64 x.cfg) (.slice x.ms.A x.ms.l.length x.ms.c)).alloc (.cells #[.int .i64 x.f, .int .i64 x.cfg, .slice x.ms.A x.ms.l.length x.ms.c] 34))
      have HPE := Lib.hid (ext_alloc (ext_set3 HE.out (w.heap.size + 1) (.int .i64 x.f) (.int .i64 x.cfg) (.slice x.ms.A x.ms.l.length x.ms.c) (by omega)) (.cells #[.int .i64 x.f, .int .i64 x.cfg, .slice x.ms.A x.ms.l.length x.ms.c] 34))
      unfold set3 at HP HPE
      have HN := Lib.hid (HB.out.alloc (.cells #[.int .i64 x.f, .int .i64 x.cfg, .slice x.ms.A x.ms.l.length x.ms.c] 34))
      have HNE := Lib.hid (ext_alloc HE.out (.cells #[.int .i64 x.f, .int .i64 x.cfg, .slice x.ms.A x.ms.l.length x.ms.c] 34))
      by_cases h1 : x.f ≤ m
      · have e1 : decide (x.f ≤ m) = true := decide_eq_true h1
        cases o with
        | none =>
          have HR := Lib.hid ((inGo_none (m := m) HX.out).trans (if_pos h1))
          simp only [Option.isSome_none]
          go_wp2_with fail
          first
            | exact ⟨⟨k + 1, some x, by omega, by go_num, rfl, HQ.out.trans HR.out, HPE.out, HP.out⟩, by simp [intOf] <;> omega⟩
            | (go_roundw
               case rel => exact ⟨k + 1, some x, by omega, by go_num, rfl, HQ.out.trans HR.out, HPE.out, HP.out⟩
               case measure => simp [intOf] <;> omega)
        | some y =>
          simp only [Option.getD_some] at hd
          subst hd
          simp only [Option.isSome_some]
          by_cases h2 : y.f ≤ x.f
          · have e2 : decide (x.f ≥ y.f) = true := decide_eq_true h2
            have HR := Lib.hid ((inGo_some (m := m) (c := y) HX.out).trans (if_pos ⟨h1, h2⟩))
            go_wp2_with fail
            first
              | exact ⟨⟨k + 1, some x, by omega, by go_num, rfl, HQ.out.trans HR.out, HPE.out, HP.out⟩, by simp [intOf] <;> omega⟩
              | (go_roundw
                 case rel => exact ⟨k + 1, some x, by omega, by go_num, rfl, HQ.out.trans HR.out, HPE.out, HP.out⟩
                 case measure => simp [intOf] <;> omega)
          · have e2 : decide (x.f ≥ y.f) = false := decide_eq_false h2
            have HR := Lib.hid ((inGo_some (m := m) (c := y) HX.out).trans (if_neg (fun q => h2 q.2)))
            go_wp2_with fail
            first
              | exact ⟨⟨k + 1, some y, by omega, by go_num, rfl, HQ.out.trans HR.out, HNE.out, HN.out⟩, by simp [intOf] <;> omega⟩
              | (go_roundw
                 case rel => exact ⟨k + 1, some y, by omega, by go_num, rfl, HQ.out.trans HR.out, HNE.out, HN.out⟩
                 case measure => simp [intOf] <;> omega)
      · have e1 : decide (x.f ≤ m) = false := decide_eq_false h1
        have HR : Hid (inGo m o (l.drop k) = inGo m o (l.drop (k + 1))) := by
          cases o with
          | none => exact (inGo_none (m := m) HX.out).trans (if_neg h1)
          | some y => exact (inGo_some (m := m) (c := y) HX.out).trans (if_neg (fun q => h1 q.1))
        have HN2 : Hid (Blk (wr.alloc (.cells #[.int .i64 x.f, .int .i64 x.cfg, .slice x.ms.A x.ms.l.length x.ms.c] 34)) (w.heap.size + 1) (o.getD noChg).cells) := by rw [hd]; exact HN.out
        go_wp2_with fail
        first
          | exact ⟨⟨k + 1, o, by omega, by go_num, rfl, HQ.out.trans HR.out, HNE.out, HN2.out⟩, by simp [intOf] <;> omega⟩
          | (go_roundw
             case rel => exact ⟨k + 1, o, by omega, by go_num, rfl, HQ.out.trans HR.out, HNE.out, HN2.out⟩
             case measure => simp [intOf] <;> omega)
    · have hlt' : decide ((k : Int) < l.length) = false := decide_eq_false (by omega)
      have HR := Lib.hid (HQ.out.trans (inGo_end m o (by omega)))
      have HP := Lib.hid (HB.out.put3 (.int .i64 d.f) (.int .i64 d.cfg) (.slice d.ms.A d.ms.l.length d.ms.c))
      have HPE := Lib.hid (ext_set3 HE.out (w.heap.size + 1) (.int .i64 d.f) (.int .i64 d.cfg) (.slice d.ms.A d.ms.l.length d.ms.c) (by omega))
      unfold set3 at HP HPE
      have p0 := HP.out.c 0 _ rfl
      have p1 := HP.out.c 1 _ rfl
      have p2 := HP.out.c 2 _ rfl
      go_wp2_with fail
      refine bodyPost_ret (v := .tuple #[d.v, .bool o.isSome]) (by simp [results, Tryz.results17, go_sem, p0, p1, p2]) rfl ?_
      rw [HR.out]
      exact ⟨by rw [hd], HPE.out⟩
end Go.Proofs.YtilocjliplmmpaaGreat
