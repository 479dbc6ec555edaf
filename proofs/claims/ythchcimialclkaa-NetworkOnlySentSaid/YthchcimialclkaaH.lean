/- The packet at a place; links without it. -/
import Derived.Test.YthchcimialclkaaG
set_option linter.unusedSimpArgs false
set_option linter.unusedVariables false
namespace Go.Proofs.Ythchcimialclkaa
open Go.RowKit
def zeroP : Pk := ⟨0, 0, ⟨none, 0, []⟩⟩
def Nt.atE (n : Nt) (i : Int) : Int := if chkE n ≠ 0 then 460 else if i < 0 ∨ (n.q.l.length : Int) ≤ i then 1 else 0
def Nt.atP (n : Nt) (i : Int) : Pk := if n.atE i = 0 then n.q.l.getD i.toNat zeroP else zeroP
def PkE (w : World) (p : Pk) (err : Int) (e : Ending) (w' : World) : Prop := e = .returned (.tuple #[p.v, .int .i64 err]) ∧ Below w.heap.size w w'
set_option maxHeartbeats 1600000 in
set_option maxRecDepth 100000 in
theorem at_any (n : Nt) (i : Int) (w : World) (hn : NOk w n) : Calls Try.prog 30 #[n.v, .int .i64 i] w (PkE w (n.atP i) (n.atE i)) := by
  obtain ⟨r, hr⟩ : ∃ r, n.atE i = r := ⟨_, rfl⟩
  obtain ⟨p, hp⟩ : ∃ p, n.atP i = p := ⟨_, rfl⟩
  have hql := hn.ql
  unfold maxLen at hql
  have HR := Lib.hid hr
  have HP := Lib.hid hp
  rw [hr, hp]
  clear hr hp
  have HB0 := Lib.hid (ext_alloc (ext_alloc (ext_refl w) (.cells #[.slice n.q.A n.q.l.length n.q.c, .slice n.ap.A n.ap.l.length n.ap.c] 25)) (.cells #[.int .i64 0, .int .i64 0, .slice none 0 0] 28))
  have X1 := Lib.hid ((Blk.new w [.slice n.q.A n.q.l.length n.q.c, .slice n.ap.A n.ap.l.length n.ap.c] 25).alloc (.cells #[.int .i64 0, .int .i64 0, .slice none 0 0] 28))
  have X2 := Lib.hid (Blk.newH (w.alloc (.cells #[.slice n.q.A n.q.l.length n.q.c, .slice n.ap.A n.ap.l.length n.ap.c] 25)) [.int .i64 0, .int .i64 0, .slice none 0 0] 28 (w.heap.size + 1) (by simp))
  obtain ⟨c, hc⟩ : ∃ c, chkE n = c := ⟨_, rfl⟩
  have HC := Lib.hid hc
  have hc01 := chkE_or n
  rw [hc] at hc01
  clear hc
  go_enter Try.func30, Try.ntmps30
  go_wp2_with fail
  refine (check_at c HC.out (hn.ext HB0.out)).mono ?_
  rintro e w1 ⟨rfl, B1⟩
  have hB1 := Lib.hid (ext_trans HB0.out B1)
  replace X1 := Lib.hid (X1.out.ext B1)
  replace X2 := Lib.hid (X2.out.ext B1)
  have z0 := X2.out.c 0 _ rfl
  have z1 := X2.out.c 1 _ rfl
  have z2 := X2.out.c 2 _ rfl
  have zf := X2.out.f
  clear B1
  rcases hc01 with rfl | rfl
  rotate_left
  · have HZ := Lib.hid (show r = 460 by rw [← HR.out]; simp [Nt.atE, HC.out])
    have HZ2 := Lib.hid (show p = zeroP by rw [← HP.out]; simp [Nt.atP, HR.out, HZ.out])
    go_wp2_with fail
    refine bodyPost_ret (v := .tuple #[zeroP.v, .int .i64 460]) (by simp [results, Try.results30, go_sem, zeroP, *]) rfl ⟨by rw [HZ.out, HZ2.out], ?_⟩
    refine ext_set (ext_set (ext_set hB1.out _ _ ?_) _ _ ?_) _ _ ?_ <;> simp
  have n0 := X1.out.c 0 _ rfl
  by_cases h1 : i < 0
  · have h1' : decide (i < 0) = true := by simpa using h1
    have HZ := Lib.hid (show r = 1 by rw [← HR.out]; simp [Nt.atE, HC.out, h1])
    have HZ2 := Lib.hid (show p = zeroP by rw [← HP.out]; simp [Nt.atP, HR.out, HZ.out])
    go_wp2_with fail
    refine bodyPost_ret (v := .tuple #[zeroP.v, .int .i64 1]) (by simp [results, Try.results30, go_sem, zeroP, *]) rfl ⟨by rw [HZ.out, HZ2.out], ?_⟩
    refine ext_set (ext_set (ext_set hB1.out _ _ ?_) _ _ ?_) _ _ ?_ <;> simp
  by_cases h2 : (n.q.l.length : Int) ≤ i
  · have HZ := Lib.hid (show r = 1 by rw [← HR.out]; simp [Nt.atE, HC.out, h2])
    have HZ2 := Lib.hid (show p = zeroP by rw [← HP.out]; simp [Nt.atP, HR.out, HZ.out])
    have h1' : decide (i < 0) = false := by simpa using h1
    have h2' : decide ((n.q.l.length : Int) ≤ i) = true := by simpa using h2
    go_wp2_with fail
    refine bodyPost_ret (v := .tuple #[zeroP.v, .int .i64 1]) (by simp [results, Try.results30, go_sem, zeroP, *]) rfl ⟨by rw [HZ.out, HZ2.out], ?_⟩
    refine ext_set (ext_set (ext_set hB1.out _ _ ?_) _ _ ?_) _ _ ?_ <;> simp
  obtain ⟨k, rfl⟩ : ∃ k : Nat, i = k := ⟨i.toNat, by omega⟩
  have hk : k < n.q.l.length := by omega
  have hk' : (k : Int) < n.q.l.length := by omega
  have HZ := Lib.hid (show r = 0 by rw [← HR.out]; unfold Nt.atE; rw [HC.out]; simp; omega)
  obtain ⟨x, b1, o1, hx, hA, hb1, hcx⟩ := (hn.q.ext hB1.out).at_ hk
  have HZ2 := Lib.hid (show p = x by rw [← HP.out]; unfold Nt.atP; rw [HR.out, HZ.out]; simp [hx])
  rw [hA] at n0
  have c0 := hcx 0 _ rfl
  have c1 := hcx 1 _ rfl
  have c2 := hcx 2 _ rfl
  simp only [Nat.add_zero] at c0
  clear hcx hx hA h1 h2
  go_wp2_with fail
  refine bodyPost_ret (v := .tuple #[x.v, .int .i64 0]) (by simp [results, Try.results30, go_sem, *]) rfl ⟨by rw [HZ.out, HZ2.out], ?_⟩
  refine ext_set (ext_set (ext_set hB1.out _ _ ?_) _ _ ?_) _ _ ?_ <;> simp
theorem at_at {n : Nt} {i : Int} {w : World} (p : Pk) (r : Int) (hp : n.atP i = p) (hr : n.atE i = r) (hn : NOk w n) : Calls Try.prog 30 #[.agg #[.slice n.q.A n.q.l.length n.q.c, .slice n.ap.A n.ap.l.length n.ap.c], .int .i64 i] w (PkE w p r) := by
  subst hp hr; exact at_any n i w hn
/-- Links, alone. -/
def Nt1 (w : World) (F : Nat → Prop) (q : List Pk) (ap : List Lk) (e : Ending) (w' : World) : Prop :=
  ∃ m : Nt, e = .returned m.v ∧ m.q.l = q ∧ m.ap.l = ap ∧ NOk w' m ∧ Below w.heap.size w w' ∧ ∀ b, b < w.heap.size → F b → m.off b
/-- Where s[k:] lies. -/
def fromA (A : Option Addr) (c k sz : Nat) : Option Addr := if c = k then A else A.map (·.add (k * sz))
theorem slice_from (A : Option Addr) (len c k : Nat) (i : Int) (hi : i = k) (h1 : k ≤ len) (h2 : len ≤ c) (w : World) : (Instr.sliceAt 22 (.slice A len c) (some (.int .i64 i)) none none).run Try.prog w = .ok (.slice (fromA A c k 3) (len - k) (c - k)) w := by
  subst hi
  have hs : (sizeOf (Try.prog.elem 22)).run Try.prog w = .ok 3 w := by kernel_rfl
  rw [run_sliceAt_slice w 22 _ _ _ _ Try.underlying22, run_slice_l w 22 A len c Try.underlying22 _ _ (by omega) (by omega)]
  simp [hs, Result.andThen, sliced, fromA]
theorem slice_to (A : Option Addr) (len c k : Nat) (h2 : k ≤ c) (w : World) : (Instr.sliceAt 22 (.slice A len c) none (some (.int .i64 k)) (some (.int .i64 k))).run Try.prog w = .ok (.slice A k k) w := by
  have hs : (sizeOf (Try.prog.elem 22)).run Try.prog w = .ok 3 w := by kernel_rfl
  rw [run_sliceAt_slice w 22 _ _ _ _ Try.underlying22, run_slice_hm w 22 A len c Try.underlying22 _ _ _ _ (by omega) (by omega) (by omega)]
  simp only [hs, Result.andThen, sliced]
  have : (fun x : Addr => x.add (0 * 3)) = id := by funext a; simp [Addr.add]
  rw [this]
  simp
theorem Slc.fromA {α : Type} {w : World} {enc : α → List Value} {sz : Nat} {A : Option Addr} {l : List α} (h : Slc w enc sz A l) (k c : Nat) (hc : l.length ≤ c) : Slc w enc sz (Go.Proofs.Ythchcimialclkaa.fromA A c k sz) (l.drop k) := h.from_ k c hc
def delN (l : List Pk) (k : Nat) : List Pk := l.take k ++ l.drop (k + 1)
theorem mem_del {l : List Pk} {k : Nat} {x : Pk} (h : x ∈ delN l k) : x ∈ l := by
  rcases List.mem_append.1 h with h | h
  · exact List.mem_of_mem_take h
  · exact List.mem_of_mem_drop h
theorem NOk.del {w w' : World} {n : Nt} {k : Nat} (hn : NOk w n) (hb : Below w.heap.size w w') {A : Option Addr} {c : Nat} (hs : Slc w' Pk.cells 3 A (delN n.q.l k)) (hc : (delN n.q.l k).length ≤ c) (hm : c ≤ maxLen) :
    NOk w' ⟨⟨A, c, delN n.q.l k⟩, n.ap⟩ :=
  ⟨hs, hn.ap.ext hb, fun x hx => (hn.d x (mem_del hx)).ext hb, Nat.le_trans hc hm, hn.al, fun x hx => hn.dl x (mem_del hx), hc, hm⟩
set_option maxHeartbeats 1600000 in
set_option maxRecDepth 100000 in
theorem without_any (n : Nt) (k : Nat) (w : World) (hn : NOk w n) (hk : k < n.q.l.length) (hq : n.q.l.length ≤ 4096) : Calls Try.prog 33 #[n.v, .int .i64 k] w (Nt1 w n.off (delN n.q.l k) n.ap.l) := by
  have hqc := hn.qc
  have hk1 : (k : Int) < n.q.l.length := by omega
  have hw1 : IntKind.i64.wrap ((k : Int) + 1) = (k : Int) + 1 := IntWalk.i64_in _ (by omega)
  have HB0 := Lib.hid (ext_alloc (ext_alloc (ext_refl w) (.cells #[.slice n.q.A n.q.l.length n.q.c, .slice n.ap.A n.ap.l.length n.ap.c] 25)) (.cells #[.slice none 0 0, .slice none 0 0] 25))
  have X1 := Lib.hid ((Blk.new w [.slice n.q.A n.q.l.length n.q.c, .slice n.ap.A n.ap.l.length n.ap.c] 25).alloc (.cells #[.slice none 0 0, .slice none 0 0] 25))
  have X2 := Lib.hid (Blk.newH (w.alloc (.cells #[.slice n.q.A n.q.l.length n.q.c, .slice n.ap.A n.ap.l.length n.ap.c] 25)) [.slice none 0 0, .slice none 0 0] 25 (w.heap.size + 1) (by simp))
  obtain ⟨w2, hw2⟩ : ∃ w2, (w.alloc (.cells #[.slice n.q.A n.q.l.length n.q.c, .slice n.ap.A n.ap.l.length n.ap.c] 25)).alloc (.cells #[.slice none 0 0, .slice none 0 0] 25) = w2 := ⟨_, rfl⟩
  have hz2 : w2.heap.size = w.heap.size + 1 + 1 := by rw [← hw2]; simp
  rw [hw2] at HB0 X1 X2
  have HZ2 := Lib.hid hz2
  go_enter Try.func33, Try.ntmps33
  go_wp2_with fail
  try rw [hw2]
  clear hw2 hz2
  refine rg_begin (S := (fun w' => Below w2.heap.size w2 w' ∧ w'.cell? ⟨w.heap.size, 0, none⟩ = some (.slice n.q.A n.q.l.length n.q.c))) 12 (by kernel_rfl) (by intro d; cases d <;> intro _ _ _ _ h <;> exact h) ?_ (fun Q7 hQ7 hN7 hHeld => ?_)
  · exact ⟨ext_drew (ext_refl w2), (X1.out.ext (ext_drew (ext_refl w2))).c 0 _ rfl⟩
  refine rg_take (i := 0) (some 5) (v := ?_) rfl rfl (by kernel_rfl) (by rfl) hQ7 hHeld ?_ ?_
  rotate_left
  · intro w7 hSw; (try dsimp only at hSw); go_simp; all_goals with_reducible rfl
  try simp only [Act.put, List.setIfInBounds_toArray, List.set_cons_zero, List.set_cons_succ]
  refine rg_take (i := 1) (some 6) (v := ?_) rfl rfl (by kernel_rfl) (by rfl) hQ7 hHeld ?_ ?_
  rotate_left
  · intro w7 hSw; (try dsimp only at hSw); go_simp; all_goals with_reducible rfl
  try simp only [Act.put, List.setIfInBounds_toArray, List.set_cons_zero, List.set_cons_succ]
  refine rg_take (i := 2) (some 7) (v := ?_) rfl rfl (by kernel_rfl) (by rfl) hQ7 hHeld ?_ ?_
  rotate_left
  · intro w7 hSw; (try dsimp only at hSw); go_simp; all_goals with_reducible rfl
  try simp only [Act.put, List.setIfInBounds_toArray, List.set_cons_zero, List.set_cons_succ]
  refine rg_take (i := 3) (some 8) (v := ?_) rfl rfl (by kernel_rfl) (by rfl) hQ7 hHeld ?_ ?_
  rotate_left
  · intro w7 hSw; (try dsimp only at hSw); go_simp; all_goals with_reducible rfl
  try simp only [Act.put, List.setIfInBounds_toArray, List.set_cons_zero, List.set_cons_succ]
  refine rg_take (i := 4) (some 9) (v := .slice n.q.A k k) rfl rfl (by kernel_rfl) (by rfl) hQ7 hHeld (fun w7 hSw => run_v (slice_to n.q.A n.q.l.length n.q.c k (by omega) w7)) ?_
  try simp only [Act.put, List.setIfInBounds_toArray, List.set_cons_zero, List.set_cons_succ]
  refine rg_take (i := 5) (some 10) (v := ?_) rfl rfl (by kernel_rfl) (by rfl) hQ7 hHeld ?_ ?_
  rotate_left
  · intro w7 hSw; (try dsimp only at hSw); go_simp; all_goals with_reducible rfl
  try simp only [Act.put, List.setIfInBounds_toArray, List.set_cons_zero, List.set_cons_succ]
  refine rg_take (i := 6) (some 11) (v := ?_) rfl rfl (by kernel_rfl) (by rfl) hQ7 hHeld ?_ ?_
  rotate_left
  · intro w7 hSw; (try dsimp only at hSw); go_simp; all_goals with_reducible rfl
  try simp only [Act.put, List.setIfInBounds_toArray, List.set_cons_zero, List.set_cons_succ]
  refine rg_take (i := 7) (some 12) (v := ?_) rfl rfl (by kernel_rfl) (by rfl) hQ7 hHeld ?_ ?_
  rotate_left
  · intro w7 hSw; (try dsimp only at hSw); go_simp; all_goals with_reducible rfl
  try simp only [Act.put, List.setIfInBounds_toArray, List.set_cons_zero, List.set_cons_succ]
  refine rg_take (i := 8) (some 13) (v := ?_) rfl rfl (by kernel_rfl) (by rfl) hQ7 hHeld ?_ ?_
  rotate_left
  · intro w7 hSw; (try dsimp only at hSw); go_simp; all_goals with_reducible rfl
  try simp only [Act.put, List.setIfInBounds_toArray, List.set_cons_zero, List.set_cons_succ]
  refine rg_take (i := 9) (some 14) (v := .slice (fromA n.q.A n.q.c (k + 1) 3) (n.q.l.length - (k + 1)) (n.q.c - (k + 1))) rfl rfl (by kernel_rfl) (by rfl) hQ7 hHeld (fun w7 hSw => run_v (slice_from n.q.A n.q.l.length n.q.c (k + 1) _ (by simp) (by omega) hqc w7)) ?_
  try simp only [Act.put, List.setIfInBounds_toArray, List.set_cons_zero, List.set_cons_succ]
  refine rg_one (i := 10) (by kernel_rfl) (rg_step rfl (by rfl) (fun K hK => ?_))
  refine rg_append (some 15) _ _ 22 22 rfl rfl rfl _ _ rfl rfl (Slc.append_any pkI 22 (l := n.q.l.take k) (by simp; omega) (by simp; omega) ((hn.q.ext (ext_trans HB0.out (ext_drew (ext_refl w2)))).take k) (ys := n.q.l.drop (k + 1)) (by simp) (n.q.c - (k + 1)) ((hn.q.ext (ext_trans HB0.out (ext_drew (ext_refl w2)))).fromA (k + 1) n.q.c hqc) (by simp; omega) (by simp [maxLen]; omega)) ?_
  rintro v5 w5 ⟨A5, c5, rfl, HS5, B5, hc5, hm5, hn5, hf5⟩
  refine hK.out _ _ ?_ (fun hHeld => ?_)
  · exact ⟨ext_trans (ext_drew (ext_refl w2)) B5, (X1.out.ext (ext_trans (ext_drew (ext_refl w2)) B5)).c 0 _ rfl⟩
  clear hK K
  try simp only [Act.put, List.setIfInBounds_toArray, List.set_cons_zero, List.set_cons_succ]
  refine rg_take (i := 11) (some 16) (v := ?_) rfl rfl (by kernel_rfl) (by rfl) hQ7 hHeld ?_ ?_
  rotate_left
  · intro w7 hSw; (try dsimp only at hSw); go_simp; all_goals with_reducible rfl
  try simp only [Act.put, List.setIfInBounds_toArray, List.set_cons_zero, List.set_cons_succ]
  have hB5 := Lib.hid (ext_trans (ext_drew (ext_refl w2)) B5)
  have n0 := hHeld.2
  have n1 := (X1.out.ext hB5.out).c 1 _ rfl
  have nf := (X1.out.ext hB5.out).f
  have zb := X2.out.ext hB5.out
  have z0 := zb.c 0 _ rfl
  have z1 := zb.c 1 _ rfl
  have zf := zb.f
  clear zb B5 hHeld
  refine rg_one (i := 12) (by kernel_rfl) (rg_late rfl (by rfl) (by kernel_rfl) (fun K hK => ?_))
  go_simp
  refine hK.out _ _ ?_
  clear hK K
  try simp only [Act.put, List.setIfInBounds_toArray, List.set_cons_zero, List.set_cons_succ]
  refine rg_end (by kernel_rfl) (hN7 _ _ ?_) _
  clear hQ7 hN7 Q7
  go_wp2_with fail
  have hl5 : min k n.q.l.length + (n.q.l.length - (k + 1)) = (delN n.q.l k).length := by simp [delN]
  have k2 := HB0.out.size
  have k0 := X1.out.lt
  have k1 := X2.out.lt
  refine bodyPost_ret (v := Nt.v ⟨⟨A5, c5, delN n.q.l k⟩, n.ap⟩) (by simp [results, Try.results33, go_sem, *]) rfl ?_
  have hb6 := ext_set (ext_set (ext_set (ext_trans HB0.out hB5.out) ⟨w.heap.size, 0, none⟩ (.slice A5 (min k n.q.l.length + (n.q.l.length - (k + 1))) c5) (Nat.le_refl _)) ⟨w.heap.size + 1, 0, none⟩ (.slice A5 (min k n.q.l.length + (n.q.l.length - (k + 1))) c5) (by simp)) ⟨w.heap.size + 1, 1, none⟩ (.slice n.ap.A n.ap.l.length n.ap.c) (by simp)
  refine ⟨⟨⟨A5, c5, delN n.q.l k⟩, n.ap⟩, rfl, rfl, rfl, NOk.del hn hb6 ?_ hc5 hm5, hb6, ?_⟩
  rotate_right
  · intro b hb hf
    refine ⟨fun hl c o s e => ?_, hf.2.1, fun x hx => hf.2.2 x (mem_del hx)⟩
    rcases hf5 with ⟨rfl, h0⟩ | hf5
    · exact hf.1 (by intro e0; rw [e0] at hk; simp at hk) c o s e
    · have := hf5 c o s e; simp at this; omega
  rcases hf5 with ⟨rfl, h0⟩ | hf5
  · have := (hn.q.ext hb6).take k
    have e0 : n.q.l.drop (k + 1) = [] := by
      apply List.eq_nil_of_length_eq_zero; simp at h0 ⊢; omega
    unfold delN
    rw [e0, List.append_nil]
    exact this
  · refine ((HS5.far ?_).far ?_).far ?_
    all_goals (intro _ b o s e; have := hf5 b o s e; simp at this ⊢; omega)
end Go.Proofs.Ythchcimialclkaa
