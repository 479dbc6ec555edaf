/- Where a flight may be: occupancy.Possible never panics, and says whether all paths are valid. -/
import Derived.Test.YtjiojpoiocdnmaaGreatHN
import Derived.Test.YtjiojpoiocdnmaaGreatU3
import Derived.Test.YtjiojpoiocdnmaaGreatU4
set_option linter.unusedSimpArgs false
set_option linter.unusedVariables false
namespace Go.Proofs.YtjiojpoiocdnmaaGreat
open Go.RowKit Go.Shelf Go.ChangeMaps
def possE (t : Tab) (l : List Pth) : Int := if chkT t ≠ 0 then chkT t else if l.all (pathB t) then 0 else 160
/-- Rows of spans, one for each place, apart from each other. -/
structure MRows (W : World) (base : Nat) (L : List (Plc × Value)) (N : Nat) : Prop where
  row : ∀ p ∈ L, ∃ l : List Sp, Own W base 44 Sp.cells 2 p.2 l ∧ l.length ≤ N
  dis : ∀ p ∈ L, ∀ q ∈ L, p.1 ≠ q.1 → ∀ k, p.2.ownBlock = some k → q.2.ownBlock ≠ some k
/-- What Possible holds while it runs. -/
structure PSt (w : World) (t : Tab) (m N K : Nat) (W : World) : Prop where
  E : Below w.heap.size w W
  T : Blk W w.heap.size t.cells
  X : ∃ v l, Blk W (w.heap.size + 1) [v] ∧ Own W (m + 2) 113 Sty.cells 4 v l ∧ l.length ≤ K
  B : Blk W (m + 1) [.map (some m)]
  lo : w.heap.size + 1 < m
  hi : m + 2 ≤ W.heap.size
  M : ∃ L, GMap Plc.v W m L ∧ MRows W (m + 2) L N
theorem MRows.ext {W W' : World} {base N : Nat} {L : List (Plc × Value)} (h : MRows W base L N) (hb : Below W.heap.size W W') : MRows W' base L N :=
  ⟨fun p hp => let ⟨l, h1, h2⟩ := h.row p hp; ⟨l, h1.ext hb, h2⟩, h.dis⟩
theorem PSt.ext {w W W' : World} {t : Tab} {m N K : Nat} (h : PSt w t m N K W) (hb : Below W.heap.size W W') : PSt w t m N K W' := by
  obtain ⟨L, h1, h2⟩ := h.M
  obtain ⟨v, l, h3, h4, h5⟩ := h.X
  exact ⟨ext_trans h.E hb, h.T.ext hb, ⟨v, l, h3.ext hb, h4.ext hb, h5⟩, h.B.ext hb, h.lo, Nat.le_trans h.hi hb.size, L, h1.ext hb, h2.ext hb⟩
theorem zv114 (w : World) : (zeroValue 114).run Tryz.prog w = .ok (.slice none 0 0) w := by kernel_rfl
theorem MRows.get {W : World} {base N : Nat} {L : List (Plc × Value)} (h : MRows W base L N) (a : Plc) : ∃ l : List Sp, Own W base 44 Sp.cells 2 ((asc L a).getD (.slice none 0 0)) l ∧ l.length ≤ N ∧ ∀ k, ((asc L a).getD (.slice none 0 0)).ownBlock = some k → ∃ p ∈ L, p.1 = a ∧ p.2.ownBlock = some k := by
  unfold asc
  cases hf : L.find? (fun p => decide (p.1 = a)) with
  | none => exact ⟨[], Own.nil _ _ _ _ _, by simp, fun k hk => by cases hk⟩
  | some p =>
    obtain ⟨l, h1, h2⟩ := h.row p (List.mem_of_find?_eq_some hf)
    exact ⟨l, h1, h2, fun k hk => ⟨p, List.mem_of_find?_eq_some hf, by have := List.find?_some hf; simpa using this, hk⟩⟩
/-- minutes[k] = append(minutes[k], s). -/
theorem PSt.app {w W : World} {t : Tab} {m N K : Nat} (h : PSt w t m N K W) (a : Plc) (s : Sp) (hN : N < 1000000) :
    ∃ v0 st o1 v' W4 o2, (Instr.mapEntry 140 (.map (some m)) a.v).run Tryz.prog (W.alloc (.cells #[.int .i64 s.f, .int .i64 s.t] 44)) = .ok (.tuple #[v0, .int .i64 (st : Nat)]) (setBlock (W.alloc (.cells #[.int .i64 s.f, .int .i64 s.t] 44)) m o1) ∧
      (Builtin.append_ #[114, 114] 114 #[v0, .slice (some ⟨W.heap.size, 0, none⟩) 1 1]).run Tryz.prog (setBlock (W.alloc (.cells #[.int .i64 s.f, .int .i64 s.t] 44)) m o1) = .ok v' W4 ∧
      (Instr.entryStore 140 (.map (some m)) (.int .i64 (st : Nat)) v').run Tryz.prog W4 = .ok () (setBlock W4 m o2) ∧ PSt w t m (N + 1) K (setBlock W4 m o2) ∧
      (∀ {b : Nat} {u : Value} {l : List Sty}, Own W b 113 Sty.cells 4 u l → m + 2 ≤ b → Own (setBlock W4 m o2) b 113 Sty.cells 4 u l) := by
  obtain ⟨W2, hW2⟩ : ∃ W2, W.alloc (.cells #[.int .i64 s.f, .int .i64 s.t] 44) = W2 := ⟨_, rfl⟩
  have hb2 : Below W.heap.size W W2 := by rw [← hW2]; exact ext_alloc (ext_refl _) _
  have h2 := h.ext hb2
  have hs2 : W2.heap.size = W.heap.size + 1 := by rw [← hW2]; simp
  have hS : Slc W2 Sp.cells 2 (some ⟨W.heap.size, 0, none⟩) [s] := by rw [← hW2]; exact slc_litH W [s] #[.int .i64 s.f, .int .i64 s.t] 44 (enc := Sp.cells) (sz := 2) (fun _ => rfl) rfl W.heap.size rfl
  rw [hW2]
  obtain ⟨L, hM, hR⟩ := h2.M
  have hml : m < W2.heap.size := hM.lt
  obtain ⟨st, o1, e1, hc1, hst⟩ := hM.entry key144 Tryz.underlying140 zv114 a trivial (fun _ _ => trivial)
  obtain ⟨l0, hO0, hl0, hk0⟩ := hR.get a
  obtain ⟨v0, hv0⟩ : ∃ v0, (asc L a).getD (.slice none 0 0) = v0 := ⟨_, rfl⟩
  rw [hv0] at e1 hO0 hk0
  have hO0' : Own (setBlock W2 m o1) (m + 2) 44 Sp.cells 2 v0 l0 := hO0.sb o1 (by omega)
  have hS' : Slc (setBlock W2 m o1) Sp.cells 2 (some ⟨W.heap.size, 0, none⟩) [s] := fun i x hx => by
    obtain ⟨b, o, e, hlt, hc⟩ := hS i x hx
    have hbm : b ≠ m := by injection e with e; injection e with e; have := h.hi; omega
    exact ⟨b, o, e, by rw [sb_size]; exact hlt, fun j u hj => (World.cell?_of_block (w := W2) (a := ⟨b, o + i * 2 + j, none⟩) (sb_other W2 o1 hbm)).trans (hc j u hj)⟩
  obtain ⟨v', W4, e2, hO', hg, hat⟩ := hO0'.append I22 114 (ys := [s]) (m := 1) rfl 1 hS' (by simp; omega) (by unfold maxLen; simp; omega) (by rw [sb_size]; exact h2.hi)
  have hmr : some m ≠ v0.ownBlock := fun e => by have := (hO0.lt m e.symm).2; omega
  have hm4 : W4.heap[m]? = some o1 := (hg.block m (by rw [sb_size]; exact hml) hmr).trans (sb_same o1 hml)
  obtain ⟨o2, e3, hM', _⟩ := hst W4 v' hm4
  have hrow : ∀ r, v0.ownBlock = some r → m + 2 ≤ r := fun r e => (hO0.lt r e).2
  have hk : ∀ b, b < W2.heap.size → b ≠ m → (∀ r, v0.ownBlock = some r → b ≠ r) → (setBlock W4 m o2).heap[b]? = W2.heap[b]? := fun b hb hbm hbr =>
    ((sb_other W4 o2 hbm).trans (hg.block b (by rw [sb_size]; exact hb) (fun e => hbr b e.symm rfl))).trans (sb_other W2 o1 hbm)
  have hsz : W2.heap.size ≤ (setBlock W4 m o2).heap.size := by rw [sb_size]; have := hg.size; rw [sb_size] at this; exact this
  obtain ⟨vx, lx, hX, hOx, hlx⟩ := h2.X
  have hlo := h.lo
  have hw2 := h2.E
  refine ⟨v0, st, o1, v', W4, o2, e1, e2, e3, ?_, fun {b u q} ho hb => (ho.ext hb2).block fun k e => hk k ((ho.ext hb2).lt k e).1 (by have := (ho.lt k e).2; omega) (fun r e' q => by
    subst q
    exact (ho.ext hb2).ne hO0 (by decide) k e e')⟩
  refine ⟨⟨?_, ?_, ?_, Nat.le_trans hw2.size hsz, fun b hb => ?_⟩, h2.T.keepB (hk _ h2.T.lt (by omega) (fun r e => by have := hrow r e; omega)), ⟨vx, lx, hX.keepB (hk _ hX.lt (by omega) (fun r e => by have := hrow r e; omega)), ?_, hlx⟩, h2.B.keepB (hk _ h2.B.lt (by omega) (fun r e => by have := hrow r e; omega)), hlo, Nat.le_trans h2.hi hsz, _, hM', ⟨fun p hp => ?_, fun p hp q hq hne k hkp hkq => ?_⟩⟩
  · exact hg.os.trans hw2.os
  · exact hg.tape.trans hw2.tape
  · exact hg.output.trans hw2.output
  · exact (hk b (Nat.lt_of_lt_of_le hb hw2.size) (by omega) (fun r e => by have := hrow r e; omega)).trans (hw2.block b hb)
  · refine hOx.block fun k e => hk k (hOx.lt k e).1 (by have := (hOx.lt k e).2; omega) (fun r e' q => ?_)
    subst q
    exact hOx.ne hO0 (by decide) k e e'
  · rcases (mem_put (GMap.nd_ hM)).1 hp with rfl | ⟨hp, hpa⟩
    · exact ⟨l0 ++ [s], hO'.sb o2 (by omega), by simp; omega⟩
    · obtain ⟨lp, hOp, hlp⟩ := hR.row p hp
      refine ⟨lp, hOp.block fun k e => hk k (hOp.lt k e).1 (by have := (hOp.lt k e).2; omega) (fun r e' q => ?_), by omega⟩
      subst q
      obtain ⟨p0, hp0, e0, ek⟩ := hk0 k e'
      exact hR.dis p0 hp0 p hp (by rw [e0]; exact fun q => hpa q.symm) k ek e
  · have key : ∀ p ∈ L, p.1 ≠ a → ∀ k, v'.ownBlock = some k → p.2.ownBlock ≠ some k := fun p hp hpa k hk' hpk => by
      obtain ⟨lp, hOp, _⟩ := hR.row p hp
      rcases hat with e | e
      · rw [e] at hk'
        obtain ⟨p0, hp0, e0, ek⟩ := hk0 k hk'
        exact hR.dis p0 hp0 p hp (by rw [e0]; exact fun q => hpa q.symm) k ek hpk
      · rw [e, sb_size] at hk'
        cases hk'
        have := (hOp.lt _ hpk).1
        omega
    rcases (mem_put (GMap.nd_ hM)).1 hp with rfl | ⟨hp, hpa⟩ <;> rcases (mem_put (GMap.nd_ hM)).1 hq with rfl | ⟨hq, hqa⟩
    · exact hne rfl
    · exact key q hq hqa k hkp hkq
    · exact key p hp hpa k hkq hkp
    · exact hR.dis p hp q hq hne k hkp hkq
end Go.Proofs.YtjiojpoiocdnmaaGreat
/- Where a flight may be: the closure that adds stays. -/
set_option linter.unusedSimpArgs false
set_option linter.unusedVariables false
namespace Go.Proofs.YtjiojpoiocdnmaaGreat
open Go.RowKit Go.Shelf Go.ChangeMaps
/-- A stay is added to the answer. -/
theorem PSt.push {w W : World} {t : Tab} {m N K : Nat} (h : PSt w t m N K W) (y : Sty) (hK : K < 1000000) :
    ∃ v A5 n5 c5 W4, W.cell? ⟨w.heap.size + 1, 0, none⟩ = some v ∧ W.frozen? ⟨w.heap.size + 1, 0, none⟩ = false ∧ w.heap.size + 1 < W.heap.size ∧
      (Builtin.append_ #[95, 95] 95 #[v, .slice (some ⟨W.heap.size, 0, none⟩) 1 1]).run Tryz.prog (W.alloc (.cells #[.bool y.air, .int .i64 y.ix, .int .i64 y.mi.f, .int .i64 y.mi.t] 113)) = .ok (.slice A5 n5 c5) W4 ∧
      W4.frozen? ⟨w.heap.size + 1, 0, none⟩ = false ∧ W4.cell? ⟨w.heap.size + 1, 0, none⟩ = some v ∧ w.heap.size + 1 < W4.heap.size ∧ PSt w t m N (K + 1) (W4.setCell ⟨w.heap.size + 1, 0, none⟩ (.slice A5 n5 c5)) ∧
      (∀ {e : TypeId} {b : Nat} {u : Value} {l : List Sp}, Own W b 44 Sp.cells 2 u l → m + 2 ≤ b → Own (W4.setCell ⟨w.heap.size + 1, 0, none⟩ (.slice A5 n5 c5)) b 44 Sp.cells 2 u l) := by
  obtain ⟨v, l, hX, hO, hl⟩ := h.X
  obtain ⟨W2, hW2⟩ : ∃ W2, W.alloc (.cells #[.bool y.air, .int .i64 y.ix, .int .i64 y.mi.f, .int .i64 y.mi.t] 113) = W2 := ⟨_, rfl⟩
  have hb2 : Below W.heap.size W W2 := by rw [← hW2]; exact ext_alloc (ext_refl _) _
  have h2 := h.ext hb2
  have hS : Slc W2 Sty.cells 4 (some ⟨W.heap.size, 0, none⟩) [y] := by rw [← hW2]; exact slc_litH W [y] #[.bool y.air, .int .i64 y.ix, .int .i64 y.mi.f, .int .i64 y.mi.t] 113 (enc := Sty.cells) (sz := 4) (fun _ => rfl) rfl W.heap.size rfl
  have hO2 := hO.ext hb2
  have hX2 := hX.ext hb2
  obtain ⟨v', W4, e2, hO', hg, hat⟩ := hO2.append styI 95 (ys := [y]) (m := 1) rfl 1 hS (by simp; omega) (by unfold maxLen; simp; omega) h2.hi
  obtain ⟨A5, c5, hv5, -⟩ := hO'.form
  subst hv5
  have hlo := h.lo
  have hrow : ∀ r, v.ownBlock = some r → m + 2 ≤ r := fun r e => (hO.lt r e).2
  have hrow' : ∀ r, (Value.slice A5 (l ++ [y]).length c5).ownBlock = some r → m + 2 ≤ r := fun r e => (hO'.lt r e).2
  have hk : ∀ b, b < W2.heap.size → (∀ r, v.ownBlock = some r → b ≠ r) → W4.heap[b]? = W2.heap[b]? := fun b hb hbr => hg.block b hb (fun e => hbr b e.symm rfl)
  have hk' : ∀ b, b < W2.heap.size → (∀ r, v.ownBlock = some r → b ≠ r) → b ≠ w.heap.size + 1 → (W4.setCell ⟨w.heap.size + 1, 0, none⟩ (.slice A5 (l ++ [y]).length c5)).heap[b]? = W2.heap[b]? := fun b hb hbr hb1 => (Below.heap_setCell W4 ⟨w.heap.size + 1, 0, none⟩ (.slice A5 (l ++ [y]).length c5) b hb1).trans (hk b hb hbr)
  have hX4 : Blk W4 (w.heap.size + 1) [v] := hX2.keepB (hk _ hX2.lt (fun r e => by have := hrow r e; omega))
  obtain ⟨L, hM, hR⟩ := h2.M
  have hsz : W2.heap.size ≤ (W4.setCell ⟨w.heap.size + 1, 0, none⟩ (.slice A5 (l ++ [y]).length c5)).heap.size := by simpa [World.setCell] using hg.size
  have hw2 := h2.E
  have hmp : ∀ {b : Nat} {u : Value} {q : List Sp}, Own W2 b 44 Sp.cells 2 u q → m + 2 ≤ b → Own (W4.setCell ⟨w.heap.size + 1, 0, none⟩ (.slice A5 (l ++ [y]).length c5)) b 44 Sp.cells 2 u q := fun {b u q} ho hb => ho.block fun k e => hk' k (ho.lt k e).1 (fun r e' q => by
    subst q
    exact ho.ne hO2 (by decide) k e e') (by have := (ho.lt k e).2; omega)
  rw [hW2]
  refine ⟨v, A5, _, c5, W4, hX.c 0 _ rfl, hX.f 0, hX.lt, e2, hX4.f 0, hX4.c 0 _ rfl, hX4.lt, ⟨⟨?_, ?_, ?_, Nat.le_trans hw2.size hsz, fun b hb => ?_⟩, h2.T.keepB (hk' _ h2.T.lt (fun r e => by have := hrow r e; omega) (by omega)), ⟨_, l ++ [y], hX4.set (j := 0) (by simp) (.slice A5 (l ++ [y]).length c5), ?_, by simp; omega⟩, h2.B.keepB (hk' _ h2.B.lt (fun r e => by have := hrow r e; omega) (by omega)), hlo, Nat.le_trans h2.hi hsz, L, hM.of_block (hk' _ hM.lt (fun r e => by have := hrow r e; omega) (by omega)), ⟨fun p hp => ?_, hR.dis⟩⟩, fun {_ b u q} ho hb => hmp (ho.ext hb2) hb⟩
  · exact hg.os.trans hw2.os
  · exact hg.tape.trans hw2.tape
  · exact hg.output.trans hw2.output
  · exact (hk' b (Nat.lt_of_lt_of_le hb hw2.size) (fun r e => by have := hrow r e; omega) (by omega)).trans (hw2.block b hb)
  · exact hO'.block fun k e => Below.heap_setCell W4 ⟨w.heap.size + 1, 0, none⟩ (.slice A5 (l ++ [y]).length c5) k (by have := hrow' k e; show k ≠ w.heap.size + 1; omega)
  · obtain ⟨lp, hOp, hlp⟩ := hR.row p hp
    exact ⟨lp, hmp hOp (Nat.le_refl _), hlp⟩
set_option maxRecDepth 100000 in
set_option maxHeartbeats 4000000 in
theorem add_any {w : World} {t : Tab} {m N K : Nat} (air : Bool) (n : Nat) (hn : n ≤ 64) (hN : N < 1000000) (hK : K ≤ 100000) (W : World) (h : PSt w t m N K W) :
    Calls Tryz.prog 57 #[.bool air, .int .i64 n, .pointer (some ⟨m + 1, 0, none⟩), .pointer (some ⟨w.heap.size + 1, 0, none⟩)] W fun e W' => (∃ v, e = .returned v) ∧ PSt w t m N (K + n * 1440) W' := by
  have HP := Lib.hid h
  clear h
  have hz := zv114
  go_enter Tryz.func57, Tryz.ntmps57
  go_wp2_with fail
  go_loopw [10] (fun i wr => ∃ k : Nat, k ≤ n ∧ i = .int .i64 k ∧ Hid (PSt w t m N (K + k * 1440) wr)) (fun i _ => n - (intOf i).toNat)
  case atStart => exact ⟨0, Nat.zero_le _, rfl, by rw [Nat.zero_mul, Nat.add_zero]; exact HP⟩
  case round =>
    obtain ⟨k, hk, rfl, HS⟩ := hrel
    clear HP
    obtain ⟨wo, rfl⟩ : ∃ wo, wo = wr := ⟨_, rfl⟩
    by_cases hlt : k < n
    rotate_left
    · obtain rfl : k = n := by omega
      go_wp2_with fail
      go_end0
      exact ⟨⟨_, rfl⟩, HS.out⟩
    obtain ⟨L, hM, hR⟩ := HS.out.M
    obtain ⟨l0, hO0, hl0, -⟩ := hR.get ⟨air, k⟩
    have hlk := hM.look key144 Tryz.underlying140 (zv114 wo) ⟨air, k⟩ false trivial (fun _ _ => trivial)
    simp only [Bool.false_eq_true, if_false] at hlk
    obtain ⟨A0, c0, hv0, -⟩ := hO0.form
    rw [hv0] at hlk hO0
    have bm := HS.out.B.c 0 _ rfl
    have HO0 := Lib.hid (show Slc wo Sp.cells 2 A0 l0 from hO0.slc Sp.cells_len (by decide))
    have hl1 : l0.length < 1000000 := by omega
    clear hO0 hv0 hM hR hl0
    go_wp2_with fail
    refine (normal_any A0 c0 l0 wo HO0.out hl1).mono ?_
    rintro e w1 ⟨A, c, rfl, hO1, hB1⟩
    have HS1 := Lib.hid (HS.out.ext hB1)
    have HO1 := Lib.hid hO1
    have hl2 : (nor l0).length ≤ 1440 := runs_len _ _
    obtain ⟨l1, hl1⟩ : ∃ l1, nor l0 = l1 := ⟨_, rfl⟩
    rw [hl1] at HO1 hl2
    rw [hl1]
    obtain ⟨n1, hn1⟩ : ∃ n1, l1.length = n1 := ⟨_, rfl⟩
    have hbase : m + 2 ≤ wo.heap.size := HS.out.hi
    clear bm hlk HO0 HS hB1 hO1
    rw [hn1] at HO1 hl2
    rw [hn1]
    have HN1 := Lib.hid hn1
    clear hn1
    go_wp2_with fail
    go_loopw [20] (fun i wr => ∃ j : Nat, j ≤ n1 ∧ i = .int .i64 j ∧ Hid (PSt w t m N (K + k * 1440 + j) wr) ∧ Hid (Own wr wo.heap.size 44 Sp.cells 2 (.slice A n1 c) l1)) (fun i _ => n1 - (intOf i).toNat)
    case atStart => exact ⟨0, Nat.zero_le _, rfl, HS1, HO1⟩
    case round =>
      obtain ⟨j, hj, rfl, HS2, HO2⟩ := hrel
      clear HS1 HO1
      obtain ⟨wi, rfl⟩ : ∃ wi, wi = wr := ⟨_, rfl⟩
      by_cases hjl : j < n1
      rotate_left
      · go_wp2_with fail
        go_roundw
        case rel => exact ⟨k + 1, by omega, by go_num, by
          have := HS2.out
          rw [show K + k * 1440 + j = K + (k * 1440 + j) by omega] at this
          obtain ⟨v, l, h1, h2, h3⟩ := this.X
          exact ⟨this.E, this.T, ⟨v, l, h1, h2, by omega⟩, this.B, this.lo, this.hi, this.M⟩⟩
        case measure => simp [intOf]; omega
      obtain ⟨s, b1, o1, hs, hA, hb1, hc⟩ := (HO2.out.slc Sp.cells_len (by decide)).at_ (k := j) (by rw [HN1.out]; exact hjl)
      subst hA
      have d0 := hc 0 _ rfl
      have d1 := hc 1 _ rfl
      simp only [Nat.add_zero] at d0
      have HS3 := Lib.hid (HS2.out.ext (ext_alloc (ext_refl wi) (.cells #[.int .i64 s.f, .int .i64 s.t] 44)))
      have HO3 := Lib.hid (HO2.out.alloc (.cells #[.int .i64 s.f, .int .i64 s.t] 44))
      obtain ⟨v, A5, n5, c5, W4, x0, xf, xl, hrun, yf, ys, yl, hP, hOw⟩ := HS3.out.push ⟨air, k, s⟩ (by have : k * 1440 ≤ 64 * 1440 := Nat.mul_le_mul_right _ (by omega); omega)
      have HO4 := Lib.hid (hOw (e := 44) HO3.out hbase)
      have HP4 := Lib.hid hP
      have HRUN := Lib.hid hrun
      rw [World.size_alloc] at HRUN
      have hjn : (j : Int) < n1 := by omega
      clear hP hOw hrun hc HS2 HO2 HS3 HO3
      go_wp2_with (at_builtin; refine wpList_append_run rfl (.tmp 24) (.tmp 29) 95 rfl v (.slice (some ⟨wi.heap.size + 1, 0, none⟩) 1 1) rfl rfl HRUN.out ?_)
      go_roundw
      case rel => exact ⟨j + 1, hjl, by go_num, HP4, HO4⟩
      case measure => simp [intOf]; omega
end Go.Proofs.YtjiojpoiocdnmaaGreat
