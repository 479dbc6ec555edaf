/- Less. -/
import Derived.Test.YtilocjliplmmpaaGreatFH
set_option linter.unusedSimpArgs false
set_option linter.unusedVariables false
namespace Go.Proofs.YtilocjliplmmpaaGreat
open Go.RowKit Go.Shelf
attribute [local go_sem] Oper.semAt_some
/-- The boxes of Less. -/
structure LsB (w : World) (b : Nat) (A : Option Addr) (n c : Nat) (a : Bool) (ix m r : Int) : Prop where
  lt : b + 1 + 1 + 1 + 1 < w.heap.size
  l : w.cell? ⟨b, 0, none⟩ = some (.slice A n c)
  a : w.cell? ⟨b + 1, 0, none⟩ = some (.bool a)
  i : w.cell? ⟨b + 1 + 1, 0, none⟩ = some (.int .i64 ix)
  m : w.cell? ⟨b + 1 + 1 + 1, 0, none⟩ = some (.int .i64 m)
  r : w.cell? ⟨b + 1 + 1 + 1 + 1, 0, none⟩ = some (.int .i64 r)
  rf : w.frozen? ⟨b + 1 + 1 + 1 + 1, 0, none⟩ = false
section
variable {w w' : World} {b : Nat} {A : Option Addr} {n c : Nat} {a : Bool} {ix m r : Int}
theorem LsB.ext (h : LsB w b A n c a ix m r) (hb : Below w.heap.size w w') : LsB w' b A n c a ix m r := by
  have := h.lt
  obtain ⟨hc, hf⟩ := bcell hb
  exact ⟨Nat.lt_of_lt_of_le h.lt hb.size, (hc _ 0 (by omega)).trans h.l, (hc _ 0 (by omega)).trans h.a, (hc _ 0 (by omega)).trans h.i, (hc _ 0 (by omega)).trans h.m, (hc _ 0 (by omega)).trans h.r, (hf _ 0 (by omega)).trans h.rf⟩
theorem LsB.turn {row : Option Nat} (h : LsB w b A n c a ix m r) (hg : w.grownBy w' row) (hr : ∀ r, row = some r → ∃ o : Obj, w.heap[r]? = some o ∧ o.isCells = false) : LsB w' b A n c a ix m r := by
  have key : ∀ {k : Nat} {v : Value}, w.cell? ⟨k, 0, none⟩ = some v → w'.cell? ⟨k, 0, none⟩ = some v ∧ w'.frozen? ⟨k, 0, none⟩ = w.frozen? ⟨k, 0, none⟩ := fun h => cell_turn h hg hr
  exact ⟨Nat.lt_of_lt_of_le h.lt hg.size, (key h.l).1, (key h.a).1, (key h.i).1, (key h.m).1, (key h.r).1, (key h.r).2.trans h.rf⟩
theorem LsB.set (h : LsB w b A n c a ix m r) (r' : Int) : LsB (w.setCell ⟨b + 1 + 1 + 1 + 1, 0, none⟩ (.int .i64 r')) b A n c a ix m r' := by
  have o := fun (k : Nat) (x : Value) (hk : k ≠ b + 1 + 1 + 1 + 1) => World.cell?_setCell_other w ⟨b + 1 + 1 + 1 + 1, 0, none⟩ ⟨k, 0, none⟩ x (by intro e; injection e with e _; omega)
  exact ⟨by simpa using h.lt, (o _ _ (by omega)).trans h.l, (o _ _ (by omega)).trans h.a, (o _ _ (by omega)).trans h.i, (o _ _ (by omega)).trans h.m, World.cell?_setCell_same' _ _ _ (by rw [h.r]; rfl), by simpa using h.rf⟩
theorem LsB.new (w : World) (A : Option Addr) (n c : Nat) (a : Bool) (ix m : Int) : LsB (((((w.alloc (.cells #[.slice A n c] 44)).alloc (.cells #[.bool a] 4)).alloc (.cells #[.int .i64 ix] 3)).alloc (.cells #[.int .i64 m] 3)).alloc (.cells #[.int .i64 0] 3)) w.heap.size A n c a ix m 0 :=
  ⟨by simp, ((((Boxed.new w 44 (.slice A n c)).alloc _).alloc _).alloc _).alloc _ |>.cell,
    by have := (((Boxed.new (w.alloc (.cells #[.slice A n c] 44)) 4 (.bool a)).alloc (.cells #[.int .i64 ix] 3)).alloc (.cells #[.int .i64 m] 3)).alloc (.cells #[.int .i64 0] 3) |>.cell; simpa only [World.size_alloc] using this,
    by have := ((Boxed.new ((w.alloc (.cells #[.slice A n c] 44)).alloc (.cells #[.bool a] 4)) 3 (.int .i64 ix)).alloc (.cells #[.int .i64 m] 3)).alloc (.cells #[.int .i64 0] 3) |>.cell; simpa only [World.size_alloc] using this,
    by have := (Boxed.new (((w.alloc (.cells #[.slice A n c] 44)).alloc (.cells #[.bool a] 4)).alloc (.cells #[.int .i64 ix] 3)) 3 (.int .i64 m)).alloc (.cells #[.int .i64 0] 3) |>.cell; simpa only [World.size_alloc] using this,
    by have := (Boxed.new ((((w.alloc (.cells #[.slice A n c] 44)).alloc (.cells #[.bool a] 4)).alloc (.cells #[.int .i64 ix] 3)).alloc (.cells #[.int .i64 m] 3)) 3 (.int .i64 0)).cell; simpa only [World.size_alloc] using this,
    by have := (Boxed.new ((((w.alloc (.cells #[.slice A n c] 44)).alloc (.cells #[.bool a] 4)).alloc (.cells #[.int .i64 ix] 3)).alloc (.cells #[.int .i64 m] 3)) 3 (.int .i64 0)).frozen; simpa only [World.size_alloc] using this⟩
end
theorem TOk.turn {w w' : World} {A : Option Addr} {l : List Nd} {row : Option Nat} (h : TOk w A l) (hg : w.grownBy w' row) (hr : ∀ r, row = some r → ∃ o : Obj, w.heap[r]? = some o ∧ o.isCells = false) : TOk w' A l :=
  ⟨h.nd.turn (fun _ => rfl) (by decide) hg hr, fun n hn => (h.ct n hn).turn (fun _ => rfl) (by decide) hg hr, h.len, h.cl⟩
theorem WCap.new2 (w : World) (A : Option Addr) (c : Nat) (l : List Nd) (node : Int) (ex : Nat → Prop) (ha : Slc w Nd.cells 3 A l) (h1 : ¬ ex (w.heap.size + 1)) (h0 : ¬ ex w.heap.size) (hA : ∀ b o s, A = some ⟨b, o, s⟩ → ¬ ex b) (hne : 0 < l.length) :
    WCap ((w.alloc (.cells #[.slice A l.length c] 44)).alloc (.cells #[.int .i64 node] 3)) (w.heap.size + 2) ex (w.heap.size + 1) w.heap.size A c l node := by
  refine ⟨by omega, by omega, h1, h0, ?_, ?_, (ha.alloc _).alloc _, ?_⟩
  · have := (Boxed.new (w.alloc (.cells #[.slice A l.length c] 44)) 3 (.int .i64 node)).cell
    rwa [World.size_alloc] at this
  · have := ((Boxed.new w 44 (.slice A l.length c)).alloc (.cells #[.int .i64 node] 3)).cell
    exact this
  · rintro b o s rfl
    obtain ⟨x, b', o', _, e, hlt, _⟩ := ha.at_ hne
    cases e
    exact ⟨by omega, hA _ _ _ rfl⟩
set_option maxRecDepth 100000 in
set_option maxHeartbeats 3200000 in
theorem less_any (A : Option Addr) (c : Nat) (l : List Nd) (leaf : Int) (a : Bool) (ix m : Int) (w : World) (ha : TOk w A l) : Calls Tryz.prog 34 #[.slice A l.length c, .int .i64 leaf, .bool a, .int .i64 ix, .int .i64 m] w (RetI w (lessR l leaf a ix m)) := by
  have HN := LsB.new w A l.length c a ix m
  have HE : Hid (Below w.heap.size w (((((w.alloc (.cells #[.slice A l.length c] 44)).alloc (.cells #[.bool a] 4)).alloc (.cells #[.int .i64 ix] 3)).alloc (.cells #[.int .i64 m] 3)).alloc (.cells #[.int .i64 0] 3))) := ext_alloc (ext_alloc (ext_alloc (ext_alloc (ext_alloc (ext_refl w) _) _) _) _) _
  refine (callsIn_wide (n := 5)).1 ?_
  refine callsIn_of_wp_marks Tryz.func34 rfl trivial ?_ rfl
  simp only [Tryz.ntmps34, List.size_toArray, List.length_cons, List.length_nil, Nat.reduceAdd, Nat.reduceSub, Array.replicate_succ, Array.replicate_zero, List.push_toArray, List.append_toArray, List.nil_append, List.cons_append]
  cases hv : vld l
  · have HV := Lib.hid hv
    have HR : Hid (lessR l leaf a ix m = (0, 180)) := by simp [Hid, lessR, hv]
    clear hv
    gi_wp2_with fail
    refine ⟨trivial, (callsIn_wide.2 (check_at 180 (chk_no HV.out) rfl (ha.ext HE.out))).mono ?_⟩
    rintro e w1 ⟨rfl, B1⟩
    have N1 := HN.ext B1
    have E1 := ext_trans HE.out B1
    have s1 := N1.lt
    obtain ⟨_, n0, n1, n2, n3, n4, f4⟩ := N1
    obtain ⟨_, _, _, _, _, p4, _⟩ := (HN.ext B1).set 0
    clear HN
    gi_wp2_with fail
    refine ⟨.tuple #[.int .i64 0, .int .i64 180], by simp [results, Tryz.results34, go_sem, p4], ?_⟩
    rw [HR.out]
    exact ⟨rfl, E1.setCell (p := ⟨w.heap.size + 1 + 1 + 1 + 1, 0, none⟩) (by show _ ≤ w.heap.size + 1 + 1 + 1 + 1; omega) _⟩
  have T := tree_of hv
  have h32 := T.hi
  have HV := Lib.hid hv
  cases hlf : leafB l leaf
  · have HLF := Lib.hid hlf
    have HR : Hid (lessR l leaf a ix m = (0, 180)) := by simp [Hid, lessR, hlf]
    clear hv T hlf
    gi_wp2_with fail
    refine ⟨trivial, (callsIn_wide.2 (check_at 0 (chk_yes HV.out) rfl (ha.ext HE.out))).mono ?_⟩
    rintro e w1 ⟨rfl, B1⟩
    have N1 := HN.ext B1
    have E1 := ext_trans HE.out B1
    obtain ⟨_, n0, n1, n2, n3, n4, f4⟩ := N1
    gi_wp2_with fail
    refine ⟨trivial, (callsIn_wide.2 (isleaf_at false HLF.out rfl (ha.ext E1).nd (by omega))).mono ?_⟩
    rintro e w2 ⟨rfl, B2⟩
    have N1 := (HN.ext B1).ext B2
    have E2 := ext_trans E1 B2
    have s2 := N1.lt
    clear n0 n1 n2 n3 n4 f4
    obtain ⟨_, _, _, _, _, p4, _⟩ := N1.set 0
    obtain ⟨_, n0, n1, n2, n3, n4, f4⟩ := N1
    clear HN B1 B2 E1
    gi_wp2_with fail
    refine ⟨.tuple #[.int .i64 0, .int .i64 180], by simp [results, Tryz.results34, go_sem, p4], ?_⟩
    rw [HR.out]
    exact ⟨rfl, E2.setCell (p := ⟨w.heap.size + 1 + 1 + 1 + 1, 0, none⟩) (by show _ ≤ w.heap.size + 1 + 1 + 1 + 1; omega) _⟩
  have HLF := Lib.hid hlf
  obtain ⟨lf0, lf1, _⟩ := (leafB_iff l leaf).1 hlf
  have HR : Hid (lessR l leaf a ix m = (waySum l a ix m (way l leaf), 0)) := by simp [Hid, lessR, lessN, hv, hlf]
  have HT := Lib.hid T
  obtain ⟨nd0, bb, oo, _, hAA, hbbw, _⟩ := ha.nd.at_ (k := 0) (by have := T.lo; omega)
  subst hAA
  clear hv T hlf
  gi_wp2_with fail
  refine ⟨trivial, (callsIn_wide.2 (check_at 0 (chk_yes HV.out) rfl (ha.ext HE.out))).mono ?_⟩
  rintro e w1 ⟨rfl, B1⟩
  have N1 := HN.ext B1
  have E1 := ext_trans HE.out B1
  have s1 := N1.lt
  obtain ⟨_, n0, n1, n2, n3, n4, f4⟩ := N1
  gi_wp2_with fail
  refine ⟨trivial, (callsIn_wide.2 (isleaf_at true HLF.out rfl (ha.ext E1).nd (by omega))).mono ?_⟩
  rintro e w2 ⟨rfl, B2⟩
  have N2 := (HN.ext B1).ext B2
  have E2 := ext_trans E1 B2
  have s2 := N2.lt
  clear n0 n1 n2 n3 n4 f4
  have N1 := N2
  obtain ⟨_, n0, n1, n2, n3, n4, f4⟩ := N1
  clear HN B1 B2 E1
  gi_wp2_with fail
  refine ⟨trivial, (callsIn_wide.2 (way_any _ c l.length leaf _)).mono ?_⟩
  rintro e w3 ⟨rfl, rfl⟩
  gi_wp2_with fail
  have hC := WCap.new2 w2 (some ⟨bb, oo, none⟩) c l leaf (fun k => k = w.heap.size + 1 + 1 + 1 + 1) (ha.ext E2).nd (by omega) (by omega) (fun b o s h => by cases h; omega) (by omega)
  obtain ⟨w3, hw3⟩ : ∃ w3, (w2.alloc (.cells #[.slice (some ⟨bb, oo, none⟩) l.length c] 44)).alloc (.cells #[.int .i64 leaf] 3) = w3 := ⟨_, rfl⟩
  have hz3 : w3.heap.size = w2.heap.size + 2 := by rw [← hw3]; simp
  have hb23 : Below w2.heap.size w2 w3 := by rw [← hw3]; exact ext_alloc (ext_alloc (ext_refl w2) _) _
  have E3 := ext_trans E2 hb23
  have N3 := N2.ext hb23
  rw [hw3] at hC ⊢
  rw [← hz3] at hC
  have HCC := Lib.hid hC
  have HE3 := Lib.hid E3
  have HN3 := Lib.hid N3
  have HA0 := Lib.hid ha
  clear hw3 hb23 hC E3 N3 N2 n0 n1 n2 n3 n4 f4 ha
  have hLe := HE3.out.size
  refine wpIn_rangeFunc_ownH (F := Fence.wide) rfl (by decide) (gf := 103) (lb := #[.pointer (some ⟨w2.heap.size + 1, 0, none⟩), .pointer (some ⟨w2.heap.size, 0, none⟩)]) rfl trivial (enters_of Tryz.func103 (by kernel_rfl) rfl)
    (way_stops 4 (by decide) w3.heap.size (fun k => k = w.heap.size + 1 + 1 + 1 + 1) (w2.heap.size + 1) w2.heap.size _ c l leaf HT.out ⟨by omega, lf1⟩ w3 (Nat.le_refl _) HCC.out) KpE.t (KpE.b (Nat.le_refl _)) (Below.refl _ _) (fun _ => rfl)
    (fun pre W => LsB W w.heap.size (some ⟨bb, oo, none⟩) l.length c a ix m (waySum l a ix m (rawN pre)) ∧ Below w.heap.size w W ∧ w3.heap.size ≤ W.heap.size)
    (fun _ _ _ => False)
    (fun s X Y row hs hg hr => by
      obtain ⟨h1, h2, h3⟩ := hs
      exact ⟨h1.turn hg (fun r e => (hr r e).2), h2.grown hg (Nat.le_trans hLe h3) (fun r e => Nat.le_trans hLe (hr r e).1), Nat.le_trans h3 hg.size⟩)
    (fun _ _ _ _ _ hs _ _ => hs)
    ⟨HN3.out, HE3.out, Nat.le_refl _⟩
    (fun x a' W => a' = { tmps := #[.slice (some ⟨bb, oo, none⟩) l.length c, .int .i64 leaf, .bool a, .int .i64 ix, .int .i64 m, .pointer (some ⟨w.heap.size, 0, none⟩), undef, .pointer (some ⟨w.heap.size + 1, 0, none⟩), .pointer (some ⟨w.heap.size + 1 + 1, 0, none⟩), .pointer (some ⟨w.heap.size + 1 + 1 + 1, 0, none⟩), .pointer (some ⟨w.heap.size + 1 + 1 + 1 + 1, 0, none⟩), .int .i64 0, .int .i64 0, .int .i64 x.1, undef, undef, .slice (some ⟨bb, oo, none⟩) l.length c, .int .i64 0, .int .i64 0, .bool false, undef, .slice (some ⟨bb, oo, none⟩) l.length c, .int .i64 leaf, .bool true, .bool false, .slice (some ⟨bb, oo, none⟩) l.length c, .int .i64 leaf, .func (.func 103) #[] #[.pointer (some ⟨w2.heap.size + 1, 0, none⟩), .pointer (some ⟨w2.heap.size, 0, none⟩)], .int .i64 x.1, undef, undef, undef, undef, undef, undef, undef, undef, undef, undef, undef, undef, undef, undef, undef, undef, undef, undef, undef, undef, undef, undef, undef, undef, undef, undef, undef, undef, undef, undef, undef, undef, undef, undef, undef, undef, undef, undef, undef, undef], defers := [] })
    (fun x a' _ X Y row hs hg hr => hs) ?assign ?body ?done ?stop
  case assign =>
    rintro ll pre x W K hI hK
    simp only [encN]
    gi_wp2
    exact hK _ _ (KeepsFrom.refl _ _) ⟨Kx.refl _, Nat.le_refl _⟩ hI rfl
  case body =>
    rintro ll pre x a' W _ _ ⟨h1, h2, h3⟩ rfl hlt
    have h4 := HA0.out.ext h2
    obtain ⟨r, hr⟩ : ∃ r, waySum l a ix m (rawN pre) = r := ⟨_, rfl⟩
    have hbd := HT.out.waySum_le a ix m (rawN pre)
    have hwl := way_len l leaf
    rw [rawN_len, hr] at hbd
    rw [hr] at h1
    have hr0 : 0 ≤ r ∧ r ≤ 200000 := by omega
    obtain ⟨r0, r1⟩ := hr0
    have HR1 := Lib.hid hr
    clear hr hbd hwl hlt
    obtain ⟨b0, b1, b2, b3, b4, b5, b6⟩ := h1
    obtain ⟨nd, b7, o7, hx, hA, hbb, hc⟩ := h4.nd.at_ (k := x.1.toNat) (by have := x.2; omega)
    cases hA
    have d2 := hc 2 _ rfl
    obtain ⟨x1, x2⟩ := x.2
    have g1 : x.1.toNat < l.length := by omega
    have hcl := (HT.out.nd _ _ hx).many
    have HCU := Lib.hid (cutsAt_of hx)
    have HCS := Lib.hid (fun k => HT.out.cutSum_le (y := x.1) a ix m k)
    have HND := Lib.hid hx
    have HL0 : Hid (LsB W w.heap.size (some ⟨bb, oo, none⟩) l.length c a ix m r) := ⟨b0, b1, b2, b3, b4, b5, b6⟩
    clear hx hc h4
    gi_wp2
    gi_loopw [35] (fun i wr => ∃ (k : Nat) (z : Int), k ≤ nd.cuts.l.length ∧ i = .int .i64 k ∧ Hid (z = r + cutSum a ix m (nd.cuts.l.take k)) ∧ LsB wr w.heap.size (some ⟨bb, oo, none⟩) l.length c a ix m z ∧ Below w.heap.size w wr ∧ w3.heap.size ≤ wr.heap.size ∧ Hid (KeepsFrom w3.heap.size W wr) ∧ Hid (KpE w3.heap.size (fun k => k = w.heap.size + 1 + 1 + 1 + 1) W wr) ) (fun i _ => nd.cuts.l.length - (intOf i).toNat)
    case atStart => exact ⟨0, r, Nat.zero_le _, rfl, by simp [Hid, cutSum], HL0.out, h2, h3, KeepsFrom.refl _ _, ⟨Kx.refl _, Nat.le_refl _⟩⟩
    case round =>
      clear b0 b1 b2 b3 b4 b5 b6 d2
      obtain ⟨k, z, hk, rfl, HZ, hL, hB, hs3, HKF, HKP⟩ := hrel
      have HLB := Lib.hid hL
      obtain ⟨b0, b1, b2, b3, b4, b5, b6⟩ := hL
      have hzb := HCS.out k
      rw [HCU.out] at hzb
      have hz := HZ.out
      by_cases hltk : k < nd.cuts.l.length
      rotate_left
      · have HQ2 : Hid (z = waySum l a ix m (rawN (pre ++ [x]))) := by
          rw [List.take_of_length_le (by omega)] at hz
          rw [Hid, hz, rawN_snoc, waySum_app, HR1.out]; simp [waySum, HCU.out]
        clear hz hzb
        gi_wp2
        exact ⟨HKF.out, HKP.out, by rw [← HQ2.out]; exact HLB.out, hB, hs3⟩
      obtain ⟨cu, b8, o8, hcu, hA4, hb8, hcc⟩ := ((HA0.out.ext hB).ct nd (List.mem_of_getElem? HND.out)).at_ hltk
      have u0 := hcc 0 _ rfl
      have u1 := hcc 1 _ rfl
      have u2 := hcc 2 _ rfl
      have u3 := hcc 3 _ rfl
      have u4 := hcc 4 _ rfl
      simp only [Nat.add_zero] at u0
      have HST := Lib.hid (cutSum_take (a := a) (ix := ix) (m := m) hcu)
      have hle := badC_no ((HT.out.nd _ _ HND.out).cut cu (List.mem_of_getElem? hcu))
      obtain ⟨_, _, _, l0, l1⟩ := hle
      have hlt' : (k : Int) < nd.cuts.l.length := by omega
      have hz2 : 0 ≤ z ∧ z ≤ 1000000 := by omega
      obtain ⟨z0, z1⟩ := hz2
      have hA5 : nd.cuts.A = some ⟨b8, o8, none⟩ := hA4
      have hba := ext_alloc (ext_refl wr) (.cells #[.bool cu.air, .int .i64 cu.ix, .int .i64 cu.f, .int .i64 cu.t, .int .i64 cu.less] 60)
      have hL2 := HLB.out.ext hba
      have HL2 := Lib.hid hL2
      obtain ⟨e0, e1, e2', e3, e4, e5, e6⟩ := hL2
      have HBA := Lib.hid hba
      have HKA := Lib.hid (KeepsOthers.alloc wr (.cells #[.bool cu.air, .int .i64 cu.ix, .int .i64 cu.f, .int .i64 cu.t, .int .i64 cu.less] 60))
      clear hcu hcc hz hzb hba b0 b1 b2 b3 b4 b5 b6
      rw [hA5]
      clear hA4
      obtain ⟨t1, ht1⟩ : ∃ t, (cu.air == a) = t := ⟨_, rfl⟩
      cases t1
      · have HM : Hid (mat a ix m cu = false) := by simp [Hid, mat, ht1]
        gi_wp2_with fail
        go_roundw
        case rel => exact ⟨k + 1, z, hltk, by go_num, by unfold Hid; rw [HST.out, HM.out, HZ.out]; simp, HL2.out, ext_trans hB HBA.out, Nat.le_trans hs3 HBA.out.size, HKF.out.trans (HKA.out.from _), HKP.out.t ⟨Kx.below HBA.out hs3, HBA.out.size⟩⟩
        case measure => simp [intOf]; omega
      by_cases ht2 : cu.ix = ix
      rotate_left
      · have HM : Hid (mat a ix m cu = false) := by simp [Hid, mat, ht2]
        have e2 : (cu.ix == ix) = false := by simpa using ht2
        clear ht2
        gi_wp2_with fail
        go_roundw
        case rel => exact ⟨k + 1, z, hltk, by go_num, by unfold Hid; rw [HST.out, HM.out, HZ.out]; simp, HL2.out, ext_trans hB HBA.out, Nat.le_trans hs3 HBA.out.size, HKF.out.trans (HKA.out.from _), HKP.out.t ⟨Kx.below HBA.out hs3, HBA.out.size⟩⟩
        case measure => simp [intOf]; omega
      have e2 : (cu.ix == ix) = true := by simpa using ht2
      by_cases ht3 : cu.f ≤ m
      rotate_left
      · have HM : Hid (mat a ix m cu = false) := by simp [Hid, mat, ht3]
        clear ht2
        gi_wp2_with fail
        go_roundw
        case rel => exact ⟨k + 1, z, hltk, by go_num, by unfold Hid; rw [HST.out, HM.out, HZ.out]; simp, HL2.out, ext_trans hB HBA.out, Nat.le_trans hs3 HBA.out.size, HKF.out.trans (HKA.out.from _), HKP.out.t ⟨Kx.below HBA.out hs3, HBA.out.size⟩⟩
        case measure => simp [intOf]; omega
      by_cases ht4 : m < cu.t
      rotate_left
      · have HM : Hid (mat a ix m cu = false) := by simp [Hid, mat, ht4]
        clear ht2
        gi_wp2_with fail
        go_roundw
        case rel => exact ⟨k + 1, z, hltk, by go_num, by unfold Hid; rw [HST.out, HM.out, HZ.out]; simp, HL2.out, ext_trans hB HBA.out, Nat.le_trans hs3 HBA.out.size, HKF.out.trans (HKA.out.from _), HKP.out.t ⟨Kx.below HBA.out hs3, HBA.out.size⟩⟩
        case measure => simp [intOf]; omega
      have HM : Hid (mat a ix m cu = true) := by simp [Hid, mat, ht1, ht2, ht3, ht4]
      clear ht2
      have HBS := Lib.hid ((ext_trans hB HBA.out).setCell (p := ⟨w.heap.size + 1 + 1 + 1 + 1, 0, none⟩) (by show _ ≤ w.heap.size + 1 + 1 + 1 + 1; omega) (.int .i64 (z + cu.less)))
      gi_wp2_with fail
      go_roundw
      case rel => exact ⟨k + 1, z + cu.less, hltk, by go_num, by unfold Hid; rw [HST.out, HM.out, HZ.out]; simp [Int.add_assoc], HL2.out.set _, HBS.out, by have := HBA.out.size; simp [World.setCell] at this ⊢; omega, (HKF.out.trans (HKA.out.from _)).trans ((KeepsOthers.setCell _ _ _).from _), (HKP.out.t ⟨Kx.below HBA.out hs3, HBA.out.size⟩).t ⟨Kx.set _ _ (.inr rfl), by simp [World.setCell]⟩⟩
      case measure => simp [intOf]; omega
  case done =>
    rintro D ys W hD hys ⟨h1, h2, h3⟩ hK
    rw [hys] at h1
    have H1 := Lib.hid h1
    obtain ⟨b0, b1, b2, b3, b4, b5, b6⟩ := h1
    obtain ⟨s, hs⟩ : ∃ s, waySum l a ix m (way l leaf) = s := ⟨_, rfl⟩
    have HS := Lib.hid hs
    rw [hs] at b5 H1
    clear hs hys
    have hKs : (W.setCell ⟨w.heap.size + 1 + 1 + 1 + 1, 0, none⟩ (.int .i64 s)).heap[D]? = some (.deferred (some [])) := (KeepsOthers.setCell _ _ _).same D _ hK rfl
    obtain ⟨_, _, _, _, _, p4, _⟩ := (H1.out.set s).turn (grownBy_putObj' _ D (.deferred none)) (fun r e => by cases e; exact ⟨_, hKs, rfl⟩)
    have hB5 : Below w.heap.size w ((W.setCell ⟨w.heap.size + 1 + 1 + 1 + 1, 0, none⟩ (.int .i64 s)).putObj D (.deferred none)) := (h2.setCell (p := ⟨w.heap.size + 1 + 1 + 1 + 1, 0, none⟩) (by show _ ≤ w.heap.size + 1 + 1 + 1 + 1; omega) _).grown (grownBy_putObj' _ D _) (by simp [World.setCell]; exact h2.size) (fun r e => by cases e; omega)
    gi_wp2
    refine ⟨by simp, .inl ⟨_, _, rfl, run_takeDeferred hKs, ?_⟩⟩
    refine ⟨.tuple #[.int .i64 s, .int .i64 0], by simp [results, Tryz.results34, go_sem, p4], ?_⟩
    rw [HR.out, HS.out]
    exact ⟨rfl, hB5⟩
  case stop =>
    rintro D cc pre W _ _ h _
    exact h.elim
end Go.Proofs.YtilocjliplmmpaaGreat
