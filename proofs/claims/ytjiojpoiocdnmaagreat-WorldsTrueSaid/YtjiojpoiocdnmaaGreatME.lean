/- combinations: the iterator. -/
import Derived.Test.YtjiojpoiocdnmaaGreatU25
import Derived.Test.YtjiojpoiocdnmaaGreatHN
import Derived.Test.YtjiojpoiocdnmaaGreatNI
set_option linter.unusedSimpArgs false
set_option linter.unusedVariables false
namespace Go.Proofs.YtjiojpoiocdnmaaGreat
open Go.RowKit Go.Shelf
attribute [local go_sem] Oper.semAt_some
theorem info3z : (Tryz.prog.info? 3).map (fun i => (i.zero, i.size, i.bytes)) = some (some (.int .i64 0), 1, 8) := by kernel_rfl
theorem made_z0 (n : Nat) : madeCells (Value.int .i64 0).cells n = Array.replicate n (.int .i64 0) := by
 apply Array.ext
 ·simp [madeCells]
 ·intro i h1 h2
  simp [madeCells, Value.cells, Nat.mod_one]
theorem mk39 (n : Nat) (hn : n ≤ 1000000) (w : World) : (Instr.makeSlice 39 (.int .i64 n) (.int .i64 n)).run Tryz.prog w = .ok (.slice (some ⟨w.heap.size, 0, none⟩) n n) (w.alloc (.cells (Array.replicate n (.int .i64 0)) 3)) := by
 obtain ⟨i, hi, hz, hs, hb⟩ := info_parts info3z
 have := run_make (w := w) 39 3 i _ Tryz.underlying39 hi hz .i64 .i64 n n (by omega) (by omega) (by rw [hb]; omega) (by omega)
 rw [this, hs, made_z0]; simp
theorem flat_zero : ∀ n : Nat, (nums (List.replicate n 0)).flatMap ic = List.replicate n (.int .i64 0)
 | 0 => rfl
 | k + 1 => by
  have ih := flat_zero k
  unfold nums at *
  simp only [List.replicate_succ, List.map_cons, List.flatMap_cons, ih]
  rfl
theorem own_z0 (n : Nat) (w : World) (hn : n ≤ 1000000) : Own (w.alloc (.cells (Array.replicate n (.int .i64 0)) 3)) 0 3 ic 1 (.slice (some ⟨w.heap.size, 0, none⟩) n n) (nums (List.replicate n 0)) := by
 have e1 : (nums (List.replicate n 0)).length = n := by simp [nums]
 have e2 : (nums (List.replicate n 0)).flatMap ic = List.replicate n (.int .i64 0) := by
  exact flat_zero n
 refine ⟨by rw [e2, e1]; simp, .inr ⟨w.heap.size, n, Array.replicate n (.int .i64 0), by rw [e1], Nat.zero_le _, World.alloc_heap_new w _, by rw [e1]; exact Nat.le_refl _, by unfold maxLen; omega, by simp, ?_⟩⟩
 rw [e2, e1]; simp
theorem map_ic : ∀ (x : List Nat), List.map (fun v => (intOf v).toNat) (List.flatMap ic (nums x)) = x
 | [] => rfl
 | a :: x => by
  have ih := map_ic x
  unfold nums at *
  simp only [List.map_cons, List.flatMap_cons, List.map_append, ih]
  rfl
theorem cellAt {W : World} {b : Nat} {cs : Array Value} {e : TypeId} {f : Nat × Nat} (h : W.heap[b]? = some (Obj.cells cs e f)) (j : Nat) {v : Value} (hv : cs[j]? = some v) : W.cell? ⟨b, j, none⟩ = some v := by
 simp [World.cell?, h, hv]
/-- The numbers in a row. -/
def rdN (W : World) (b : Nat) : List Nat := match W.heap[b]? with
 | some (.cells c _ _) => c.toList.map (fun v => (intOf v).toNat)
 | _ => []
theorem rdN_own {W : World} {B m : Nat} {x : List Nat} (h : Own W 0 3 ic 1 (.slice (some ⟨B, 0, none⟩) m m) (nums x)) : rdN W B = x := by
 rcases h.2 with ⟨h2, _⟩ | ⟨g, cap, cur, hv, _, hg, r1, r2, r3, r4⟩
 ·cases h2
 ·injection hv with e1 e2 e3
  injection e1 with e1
  injection e1 with e1 _ _
  subst e1 e3
  unfold rdN
  rw [hg]
  have hl : cur.toList = (nums x).flatMap ic := by
   rw [← r4, List.take_of_length_le (by simp [r3, e2])]
  simp only [hl]
  exact map_ic x
theorem val_digs : ∀ (ms : List Nat) (i : Nat), i < cnt ms → valC ms (digs ms i) = i
 | [], i, h => by simp [cnt] at h; subst h; rfl
 | m :: ms, i, h => by
  simp only [cnt] at h
  have hP : 0 < cnt ms := by
   rcases Nat.eq_zero_or_pos (cnt ms) with e | e
   ·rw [e] at h; simp at h
   ·exact e
  have ih := val_digs ms (i % cnt ms) (Nat.mod_lt _ hP)
  simp only [digs, valC, ih]
  rw [Nat.mul_comm]; exact Nat.div_add_mod i (cnt ms)
def leftC (W : World) (B : Nat) (ms : List Nat) : Nat := cnt ms - valC ms (rdN W B)
theorem leftC_own {W : World} {B m : Nat} {ms : List Nat} {q : Nat} (hq : q < cnt ms) (h : Own W 0 3 ic 1 (.slice (some ⟨B, 0, none⟩) m m) (nums (digs ms q))) : leftC W B ms = cnt ms - q := by
 unfold leftC; rw [rdN_own h, val_digs ms q hq]
/-- How many paths each track of a group has. -/
def rowN (X : Scn) (n : Nat) : Nat := ((X.st[n]?).map (fun r => r.l.length)).getD 0
def grpM (X : Scn) (ts : List Nat) : List Nat := ts.map (rowN X)
structure CCap (N : Nat) (W : World) (b1 b2 : Nat) (X : Scn) (g : Grp) : Prop where
 l1 : b1 < N
 l2 : b2 < N
 l3 : g.b < N
 l4 : ∀ k, g.tv.ownBlock = some k → k < N
 l5 : ∀ k, X.sv.ownBlock = some k → k < N
 c1 : W.heap[b1]? = some (Obj.cells #[gptr g.b] 81 (0, 0))
 c2 : W.heap[b2]? = some (Obj.cells X.cells.toArray 78 (0, 0))
 gb : W.heap[g.b]? = some (Obj.cells #[g.tv, g.rv] 94 (0, 0))
 t : Own W 0 3 ic 1 g.tv (nums g.ts)
 s : Own W 0 135 SliceOf.enc 1 X.sv X.st
theorem CCap.kc {N : Nat} {W W' : World} {b1 b2 : Nat} {X : Scn} {g : Grp} (h : CCap N W b1 b2 X g) (hk : KC W W') : CCap N W' b1 b2 X g :=
 ⟨h.l1, h.l2, h.l3, h.l4, h.l5, hk.2 _ _ _ _ h.c1 (by decide), hk.2 _ _ _ _ h.c2 (by decide), hk.2 _ _ _ _ h.gb (by decide), h.t.kc hk (by decide), h.s.kc hk (by decide)⟩
theorem CCap.below {N : Nat} {W W' : World} {b1 b2 : Nat} {X : Scn} {g : Grp} (h : CCap N W b1 b2 X g) (hk : Below N W W') : CCap N W' b1 b2 X g :=
 ⟨h.l1, h.l2, h.l3, h.l4, h.l5, (hk.block _ h.l1).trans h.c1, (hk.block _ h.l2).trans h.c2, (hk.block _ h.l3).trans h.gb, h.t.block (fun k e => hk.block k (h.l4 k e)), h.s.block (fun k e => hk.block k (h.l5 k e))⟩
theorem own_lenN {W : World} {B : Nat} {m : Nat} {x : List Nat} (h : Own W 0 3 ic 1 (.slice (some ⟨B, 0, none⟩) m m) (nums x)) : x.length = m := by
 rcases h.2 with ⟨h2, _⟩ | ⟨g, cap, cur, hv, _⟩
 ·cases h2
 ·injection hv with _ e2 _
  simpa [nums] using e2.symm
theorem own_getN {W : World} {B m : Nat} {x : List Nat} (h : Own W 0 3 ic 1 (.slice (some ⟨B, 0, none⟩) m m) (nums x)) {j d : Nat} (hd : x[j]? = some d) : W.cell? ⟨B, j, none⟩ = some (.int .i64 d) := by
 have hlt := (List.getElem?_eq_some_iff.1 hd).1
 obtain ⟨y, b, o, hy, hA, hb, hc⟩ := ((show Slc W ic 1 (some ⟨B, 0, none⟩) (nums x) from h.slc (fun _ => rfl) (by decide))).at_ (k := j) (by simpa [nums] using hlt)
 injection hA with hA
 injection hA with e1 e2
 subst e1 e2
 have : y = (d : Int) := by rw [nums_at hd] at hy; cases hy; rfl
 subst this
 have := hc 0 _ rfl
 simpa using this
theorem own_setN {W : World} {B m : Nat} {x : List Nat} (h : Own W 0 3 ic 1 (.slice (some ⟨B, 0, none⟩) m m) (nums x)) {j d : Nat} (e : Nat) (hd : x[j]? = some d) : Own (W.setCell ⟨B, j, none⟩ (.int .i64 e)) 0 3 ic 1 (.slice (some ⟨B, 0, none⟩) m m) (nums (x.set j e)) := by
 have := Own.set_ (sz := 1) (enc := ic) (fun _ => rfl) h (k := j) (r := 0) (x := (d : Int)) (y := (e : Int)) (v := .int .i64 e) (nums_at hd) (by decide) rfl
 rw [show nums (x.set j e) = (nums x).set j (e : Int) by simp [nums]]
 simpa using this
theorem mid_get {xs : List Nat} {m k : Nat} (h : k < xs.length) : (xs.take (k + 1) ++ List.replicate (m - (k + 1)) 0)[k]? = xs[k]? := by
 rw [List.getElem?_append_left (by simp; omega), List.getElem?_take]; simp
theorem mid_set {xs : List Nat} {m k : Nat} (y : Nat) (h : k < xs.length) : (xs.take (k + 1) ++ List.replicate (m - (k + 1)) 0).set k y = xs.take k ++ y :: List.replicate (m - (k + 1)) 0 := by
 rw [take_snoc2 (List.getElem?_eq_getElem h), List.append_assoc, List.set_append_right _ _ (by rw [List.length_take]; omega)]
 rw [List.length_take, Nat.min_eq_left (Nat.le_of_lt h), Nat.sub_self]; rfl
theorem mid_zero {xs : List Nat} {m k : Nat} (h : k < m) : xs.take k ++ 0 :: List.replicate (m - (k + 1)) 0 = xs.take k ++ List.replicate (m - k) 0 := by
 rw [show m - k = (m - (k + 1)) + 1 by omega, List.replicate_succ]
set_option maxRecDepth 100000 in
set_option maxHeartbeats 16000000 in
theorem comb_in (n : Nat) (hn : 1 ≤ n) (l : Nat) (b1 b2 : Nat) (X : Scn) (gb : Nat) (TA RA : Option Addr) (tc rc : Nat) (call : ByteArray) (ts : List Nat) (rs : List Rep) (htl : ts.length ≤ 1000) (hrow : ∀ i ∈ ts, ∃ r, X.st[i]? = some r ∧ 0 < r.l.length ∧ r.l.length ≤ 4096)
  (J : List (List Nat) → World → Prop) (W : World) (hJ : ∀ s A A', J s A → W.heap.size ≤ A.heap.size → Below W.heap.size A A' → J s A')
  (hY : ∀ pre x W1, J pre W1 → pre ++ [x] <+: comb (grpM X ts) → W.heap.size < W1.heap.size → Own W1 0 3 ic 1 (.slice (some ⟨W.heap.size, 0, none⟩) ts.length ts.length) (nums x) →
   YieldAt Fence.wide (n - 1) Tryz.prog l #[.slice (some ⟨W.heap.size, 0, none⟩) ts.length ts.length] W1 fun e W' => e = .returned (.bool true) ∧ J (pre ++ [x]) W' ∧ KC W1 W')
  (hC : CCap W.heap.size W b1 b2 X ⟨call, gb, TA, tc, ts, RA, rc, rs⟩) (hJ0 : J [] W) :
  CallsIn Fence.wide n Tryz.prog 52 #[.func (.yield l) #[] #[], .pointer (some ⟨b1, 0, none⟩), .pointer (some ⟨b2, 0, none⟩)] W fun e W' => (∃ v, e = .returned v) ∧ J (comb (grpM X ts)) W' := by
 have HY := Lib.hid hY
 have HJ := Lib.hid hJ
 have HC := Lib.hid hC
 obtain ⟨ms, hms⟩ : ∃ ms, grpM X ts = ms := ⟨_, rfl⟩
 have hml : Hid (ms.length = ts.length) := by rw [← hms]; simp [grpM, Hid]
 have HPOS : Hid (∀ m ∈ ms, 0 < m) := by
  rw [← hms]
  intro m hm
  obtain ⟨i, hi, rfl⟩ := List.mem_map.1 hm
  obtain ⟨r, hr, h0, _⟩ := hrow i hi
  simp [rowN, hr, h0]
 have HCP := Lib.hid (cnt_pos ms HPOS.out)
 have HROW := Lib.hid hrow
 have HMS := Lib.hid hms
 rw [hms] at HY ⊢
 have c1 := cellAt hC.c1 0 rfl
 have gb0 := cellAt hC.gb 0 rfl
 have HM := Lib.hid (mk39 ts.length (by omega) W)
 have hmk := HM.out
 clear hms hY hJ hC hrow
 refine callsIn_of_wp Tryz.func52 rfl trivial ?_ rfl
 simp only [Tryz.ntmps52, List.size_toArray, List.length_cons, List.length_nil, Nat.reduceAdd, Nat.reduceSub, Array.replicate_succ, Array.replicate_zero, List.push_toArray, List.append_toArray, List.nil_append, List.cons_append]
 gi_wp2_with fail
 have HO0 := Lib.hid (own_z0 ts.length W (by omega))
 have hEz : Below W.heap.size W (W.alloc (.cells (Array.replicate ts.length (.int .i64 0)) 3)) := ext_alloc (ext_refl W) _
 have HJz : Hid (J [] (W.alloc (.cells (Array.replicate ts.length (.int .i64 0)) 3))) := HJ.out _ _ _ hJ0 (Nat.le_refl _) hEz
 have HCz := Lib.hid (HC.out.below hEz)
 have HSz : W.heap.size < (W.alloc (.cells (Array.replicate ts.length (.int .i64 0)) 3)).heap.size := by simp
 obtain ⟨Wz, hWz⟩ : ∃ Wz, W.alloc (.cells (Array.replicate ts.length (.int .i64 0)) 3) = Wz := ⟨_, rfl⟩
 rw [hWz] at HO0 HJz HCz HSz ⊢
 clear hWz hEz hJ0 c1 gb0 hmk HM HC
 gi_loopw [5] (fun i wr => ∃ q : Nat, q < cnt ms ∧ Hid (J ((comb ms).take q) wr) ∧ Hid (Own wr 0 3 ic 1 (.slice (some ⟨W.heap.size, 0, none⟩) ts.length ts.length) (nums (digs ms q))) ∧ Hid (CCap W.heap.size wr b1 b2 X ⟨call, gb, TA, tc, ts, RA, rc, rs⟩) ∧ W.heap.size < wr.heap.size) (fun _ wr => leftC wr W.heap.size ms)
 case atStart => exact ⟨0, HCP.out, by simpa [Hid] using HJz.out, by rw [digs_zero, hml.out]; exact HO0.out, HCz, HSz⟩
 case round =>
  obtain ⟨q, hq, HJq, HOq, HCq, hsz⟩ := hrel
  clear HO0 HJz HCz HSz
  obtain ⟨wo, rfl⟩ : ∃ wo, wo = wr := ⟨_, rfl⟩
  obtain ⟨xs, hxs⟩ : ∃ xs, digs ms q = xs := ⟨_, rfl⟩
  have hmeas := leftC_own hq HOq.out
  rw [hxs] at HOq
  have HXS := Lib.hid hxs
  have HTK : Hid ((comb ms).take q ++ [xs] = (comb ms).take (q + 1)) := by rw [← hxs]; exact (take_snoc2 (comb_get hq)).symm
  obtain ⟨fn, tmps, assign, body, hy, hR⟩ := HY.out ((comb ms).take q) xs wo HJq.out (by rw [HTK.out]; exact List.take_prefix _ _) hsz HOq.out
  have HMEAS := Lib.hid hmeas
  clear hxs hmeas
  gi_wp2_with fail
  refine hR.mono ?_
  rintro e W3 ⟨rfl, hJ3, hK3⟩
  rw [HTK.out] at hJ3
  have HO3 := Lib.hid (HOq.out.kc hK3 (by decide))
  have HC3 := Lib.hid (HCq.out.kc hK3)
  have hs3 : W.heap.size < W3.heap.size := Nat.lt_of_lt_of_le hsz hK3.1
  have HJ3 := Lib.hid hJ3
  clear hy hR hJ3 hK3 HJq HOq HCq hsz
  have hwl : IntKind.i64.wrap ((ts.length : Int) - 1) = (ts.length : Int) - 1 := IntWalk.i64_in _ (by omega)
  have hln : xs.length = ts.length := own_lenN HO3.out
  have HLN := Lib.hid hln
  clear hln
  gi_wp2_with fail
  clear hwl
  gi_loopw [5] (fun i wr => ∃ j : Nat, j ≤ ts.length ∧ i = .int .i64 ((j : Int) - 1) ∧ Hid (J ((comb ms).take (q + 1)) wr) ∧ Hid (Own wr 0 3 ic 1 (.slice (some ⟨W.heap.size, 0, none⟩) ts.length ts.length) (nums (xs.take j ++ List.replicate (ts.length - j) 0))) ∧ Hid (Spun ms xs j) ∧ Hid (CCap W.heap.size wr b1 b2 X ⟨call, gb, TA, tc, ts, RA, rc, rs⟩) ∧ W.heap.size < wr.heap.size) (fun i _ => (intOf i + 1).toNat)
  case atStart => exact ⟨ts.length, Nat.le_refl _, rfl, HJ3, by rw [Nat.sub_self, List.replicate_zero, List.append_nil, List.take_of_length_le (by rw [HLN.out]; exact Nat.le_refl _)]; exact HO3.out, spun_end (by rw [hml.out]; exact Nat.le_refl _), HC3, hs3⟩
  case round =>
   obtain ⟨j, hj, rfl, HJ4, HO4, HSP, HC4, hs4⟩ := hrel
   clear HJ3 HO3 HC3 hs3
   obtain ⟨wi, rfl⟩ : ∃ wi, wi = wr := ⟨_, rfl⟩
   cases j with
   | zero =>
    have hq1 : ¬ q + 1 < cnt ms := fun h => by
     have e := inc_digs ms q HPOS.out hq
     rw [if_pos h, HXS.out] at e
     have := HSP.out
     unfold Spun at this
     rw [List.drop_zero, List.drop_zero, e] at this
     cases this
    have HEND : Hid (J (comb ms) wi) := by
     have := HJ4.out
     rwa [List.take_of_length_le (by rw [comb_len]; omega)] at this
    have z1 : ((0 : Nat) : Int) - 1 = -1 := rfl
    rw [z1]
    clear HJ4 HO4 HSP HC4 z1
    gi_wp2_with fail
    refine bodyPost_ret (results_none rfl _ _ _) rfl ?_
    exact ⟨⟨_, rfl⟩, HEND.out⟩
   | succ k =>
    have z1 : ((k + 1 : Nat) : Int) - 1 = (k : Int) := by omega
    rw [z1]
    have hkx : k < xs.length := by rw [HLN.out]; omega
    obtain ⟨d, hd⟩ : ∃ d, xs[k]? = some d := ⟨_, List.getElem?_eq_getElem hkx⟩
    have hd2 : (xs.take (k + 1) ++ List.replicate (ts.length - (k + 1)) 0)[k]? = some d := (mid_get hkx).trans hd
    have d0 := own_getN HO4.out hd2
    have f0 := Own.frozen HO4.out k
    have hkt : k < ts.length := by omega
    obtain ⟨nn, hnn⟩ : ∃ nn, ts[k]? = some nn := ⟨_, List.getElem?_eq_getElem hkt⟩
    obtain ⟨r, hr, hr0, hr1⟩ := HROW.out nn (List.mem_of_getElem? hnn)
    have hmk : ms[k]? = some r.l.length := by rw [← HMS.out]; simp [grpM, hnn, rowN, hr]
    have hdr : d < r.l.length := by
     have := (digs_choice ms q hq).2 k _ d hmk
     rw [HXS.out] at this
     exact this hd
    have hki : (k : Int) < (ts.length : Int) := by omega
    have hk0 : (0 : Int) ≤ (k : Int) := by omega
    have hwd : IntKind.i64.wrap ((d : Int) + 1) = (d : Int) + 1 := IntWalk.i64_in _ (by omega)
    have hwk : IntKind.i64.wrap ((k : Int) - 1) = (k : Int) - 1 := IntWalk.i64_in _ (by omega)
    have HO5 : Hid (Own (wi.setCell ⟨W.heap.size, k, none⟩ (.int .i64 ((d : Int) + 1))) 0 3 ic 1 (.slice (some ⟨W.heap.size, 0, none⟩) ts.length ts.length) (nums (xs.take k ++ (d + 1) :: List.replicate (ts.length - (k + 1)) 0))) := by
     have := own_setN HO4.out (d + 1) hd2
     rw [mid_set _ hkx] at this
     exact this
    have hEs : Below W.heap.size wi (wi.setCell ⟨W.heap.size, k, none⟩ (.int .i64 ((d : Int) + 1))) := below_set ((ext_refl wi).mono (by omega)) _ _ (Nat.le_refl _)
    have HJ5 : Hid (J ((comb ms).take (q + 1)) (wi.setCell ⟨W.heap.size, k, none⟩ (.int .i64 ((d : Int) + 1)))) := HJ.out _ _ _ HJ4.out (by omega) hEs
    have HC5 := Lib.hid (HC4.out.below hEs)
    have hs5 : W.heap.size < (wi.setCell ⟨W.heap.size, k, none⟩ (.int .i64 ((d : Int) + 1))).heap.size := by simp [World.setCell]; omega
    obtain ⟨W4, hW4⟩ : ∃ W4, wi.setCell ⟨W.heap.size, k, none⟩ (.int .i64 ((d : Int) + 1)) = W4 := ⟨_, rfl⟩
    rw [hW4] at HO5 HJ5 HC5 hs5
    have HD := Lib.hid hd
    have HNN := Lib.hid hnn
    have HR := Lib.hid hr
    have HMK := Lib.hid hmk
    clear HO4 HJ4 HC4 hEs hd hd2 hnn hr hmk z1
    gi_wp2_with fail
    clear d0 f0 hW4
    obtain ⟨y1, tb, to, hy1, hTA, htb, hc1⟩ := (show Slc W4 ic 1 TA (nums ts) from Own.slc (n := (nums ts).length) (c := tc) (fun _ => rfl) (by decide) (by have := HC5.out.t; simpa [nums] using this)).at_ (k := k) (by simpa [nums] using hkt)
    obtain rfl : y1 = (nn : Int) := by rw [nums_at HNN.out] at hy1; cases hy1; rfl
    obtain ⟨y2, sb, so, hy2, hSA, hsb, hc2⟩ := (show Slc W4 SliceOf.enc 1 X.sA X.st from Own.slc (fun _ => rfl) (by decide) HC5.out.s).at_ (k := nn) (List.getElem?_eq_some_iff.1 HR.out).1
    obtain rfl : y2 = r := Option.some.inj (hy2.symm.trans HR.out)
    have F1 : Hid (W4.cell? ⟨W.heap.size, k, none⟩ = some (.int .i64 ((d : Int) + 1))) := own_getN (d := d + 1) HO5.out (by rw [List.getElem?_append_right (by simp; omega)]; simp [Nat.min_eq_left (Nat.le_of_lt hkx)])
    have F2 : Hid (W4.cell? ⟨b2, 0, none⟩ = some (.slice (some ⟨sb, so, none⟩) X.st.length X.sc)) := by
     have := cellAt HC5.out.c2 0 (v := X.sv) rfl
     rw [show X.sv = .slice X.sA X.st.length X.sc from rfl, hSA] at this
     exact this
    have F3 : Hid (W4.cell? ⟨b1, 0, none⟩ = some (gptr gb)) := cellAt HC5.out.c1 0 rfl
    have F4 : Hid (W4.cell? ⟨gb, 0, none⟩ = some (.slice (some ⟨tb, to, none⟩) ts.length tc)) := by
     have := cellAt HC5.out.gb 0 (v := .slice TA ts.length tc) rfl
     rw [hTA] at this
     exact this
    have F5 : Hid (W4.cell? ⟨tb, to + k, none⟩ = some (.int .i64 nn)) := by have := hc1 0 _ rfl; simpa [Hid] using this
    have F6 : Hid (W4.cell? ⟨sb, so + nn, none⟩ = some (.slice y2.A y2.l.length y2.c)) := by have := hc2 0 _ rfl; simpa [Hid] using this
    have hb1 : b1 < W4.heap.size := by have := HC5.out.l1; omega
    have hb2 : b2 < W4.heap.size := by have := HC5.out.l2; omega
    have hb3 : gb < W4.heap.size := by have := HC5.out.l3; simp at this; omega
    have hnl : (nn : Int) < (X.st.length : Int) := by have := (List.getElem?_eq_some_iff.1 HR.out).1; omega
    clear hy1 hy2 hTA hSA hc1 hc2
    refine region_in ?_
    have SS := Lib.hid (show ∀ w', Below W4.heap.size W4 w' → (fun w' => Below W4.heap.size W4 w' ∧ w'.cell? ⟨W.heap.size, k, none⟩ = some (.int .i64 ((d : Int) + 1)) ∧ w'.cell? ⟨b2, 0, none⟩ = some (.slice (some ⟨sb, so, none⟩) X.st.length X.sc) ∧ w'.cell? ⟨b1, 0, none⟩ = some (gptr gb) ∧ w'.cell? ⟨gb, 0, none⟩ = some (.slice (some ⟨tb, to, none⟩) ts.length tc) ∧ w'.cell? ⟨tb, to + k, none⟩ = some (.int .i64 nn) ∧ w'.cell? ⟨sb, so + nn, none⟩ = some (.slice y2.A y2.l.length y2.c)) w' from fun w' h => ⟨h, (h.cell (p := ⟨W.heap.size, k, none⟩) hs5).trans F1.out, (h.cell (p := ⟨b2, 0, none⟩) hb2).trans F2.out, (h.cell (p := ⟨b1, 0, none⟩) hb1).trans F3.out, (h.cell (p := ⟨gb, 0, none⟩) hb3).trans F4.out, (h.cell (p := ⟨tb, to + k, none⟩) htb).trans F5.out, (h.cell (p := ⟨sb, so + nn, none⟩) hsb).trans F6.out⟩)
    refine rgB 17 SS (ext_drew (ext_refl _)) (fun Q7 hQ7 hN7 hHeld => ?_)
    refine rgT 0 (some 29) hQ7 hHeld ?_; refine rgT 1 (some 30) hQ7 hHeld ?_; refine rgT 2 (some 31) hQ7 hHeld ?_; refine rgT 3 (some 32) hQ7 hHeld ?_; refine rgT 4 (some 33) hQ7 hHeld ?_; refine rgT 5 (some 34) hQ7 hHeld ?_; refine rgT 6 (some 35) hQ7 hHeld ?_; refine rgT 7 (some 36) hQ7 hHeld ?_; refine rgT 8 (some 37) hQ7 hHeld ?_; refine rgT 9 (some 38) hQ7 hHeld ?_; refine rgT 10 (some 39) hQ7 hHeld ?_
    refine rgT 11 (some 40) hQ7 hHeld ?_; refine rgT 12 (some 41) hQ7 hHeld ?_; refine rgT 13 (some 42) hQ7 hHeld ?_; refine rgT 14 (some 43) hQ7 hHeld ?_; refine rgT 15 (some 44) hQ7 hHeld ?_; refine rgT 16 (some 45) hQ7 hHeld ?_
    refine rg_end (by kernel_rfl) (hN7 _ _ ?_) _
    clear hQ7 hN7 Q7
    have BX := hHeld.1
    clear SS
    refine onlyN ?_
    have HO6 := Lib.hid (HO5.out.ext BX)
    have HC6 := Lib.hid (HC5.out.below (BX.mono (by omega)))
    have hs6 : W.heap.size < W4.drew.heap.size := Nat.lt_of_lt_of_le hs5 BX.size
    have HJ6 : Hid (J ((comb ms).take (q + 1)) W4.drew) := HJ.out _ _ _ HJ5.out (by omega) (BX.mono (by omega))
    clear hb1 hb2 hb3 htb hsb F1 F2 F3 F4 F5 F6 hHeld BX HO5 HC5 HJ5 hs5
    obtain ⟨W6, hW6⟩ : ∃ W6, W4.drew = W6 := ⟨_, rfl⟩
    rw [hW6] at HO6 HC6 hs6 HJ6 ⊢
    clear hW6
    by_cases hin : d + 1 < y2.l.length
    ·have hin' : (d : Int) + 1 < (y2.l.length : Int) := by omega
     have hin2 := spun_inc (by rw [hml.out, HLN.out]) HMK.out HD.out HSP.out hin
     have hid := inc_digs ms q HPOS.out hq
     rw [HXS.out, hin2, hml.out] at hid
     have hq1 : q + 1 < cnt ms := by
      by_cases h : q + 1 < cnt ms
      ·exact h
      ·rw [if_neg h] at hid; cases hid
     rw [if_pos hq1, Option.some.injEq] at hid
     have HIDX := Lib.hid hid
     have hk9 : ¬ (k : Int) < 0 := by omega
     clear hin2 hid
     gi_wp2_with fail
     go_roundw
     case rel => exact ⟨q + 1, hq1, HJ6, by rw [← HIDX.out]; exact HO6.out, HC6, hs6⟩
     case measure =>
      rw [leftC_own hq1 (m := ts.length) (by rw [← HIDX.out]; exact HO6.out), HMEAS.out]; (try omega)
    ·have hin' : ¬ (d : Int) + 1 < (y2.l.length : Int) := by omega
     have g0 := own_getN HO6.out (j := k) (d := d + 1) (by rw [List.getElem?_append_right (by simp; omega)]; simp [Nat.min_eq_left (Nat.le_of_lt hkx)])
     have f0 := Own.frozen HO6.out k
     have HO7 : Hid (Own (W6.setCell ⟨W.heap.size, k, none⟩ (.int .i64 0)) 0 3 ic 1 (.slice (some ⟨W.heap.size, 0, none⟩) ts.length ts.length) (nums (xs.take k ++ List.replicate (ts.length - k) 0))) := by
      have := own_setN HO6.out (j := k) (d := d + 1) 0 (by rw [List.getElem?_append_right (by simp; omega)]; simp [Nat.min_eq_left (Nat.le_of_lt hkx)])
      rw [List.set_append_right _ _ (by rw [List.length_take]; omega), List.length_take, Nat.min_eq_left (Nat.le_of_lt hkx), Nat.sub_self, List.set_cons_zero, mid_zero hkt] at this
      exact this
     have hEs : Below W.heap.size W6 (W6.setCell ⟨W.heap.size, k, none⟩ (.int .i64 0)) := below_set ((ext_refl W6).mono (by omega)) _ _ (Nat.le_refl _)
     have HJ7 : Hid (J ((comb ms).take (q + 1)) (W6.setCell ⟨W.heap.size, k, none⟩ (.int .i64 0))) := HJ.out _ _ _ HJ6.out (by omega) hEs
     have HC7 := Lib.hid (HC6.out.below hEs)
     have hs7 : W.heap.size < (W6.setCell ⟨W.heap.size, k, none⟩ (.int .i64 0)).heap.size := by simp [World.setCell]; omega
     have HSP7 := Lib.hid (spun_step HMK.out HD.out HSP.out hin)
     clear hEs HO6 HC6 HJ6 hs4
     gi_wp2_with fail
     go_roundw
     case rel => exact ⟨k, by omega, by go_num, HJ7, HO7, HSP7, HC7, hs7⟩
     case measure => simp [intOf]; (try omega)
theorem comb_seq (n : Nat) (hn : 1 ≤ n) (b1 b2 : Nat) (X : Scn) (g : Grp) (htl : g.ts.length ≤ 1000) (hrow : ∀ i ∈ g.ts, ∃ r, X.st[i]? = some r ∧ 0 < r.l.length ∧ r.l.length ≤ 4096) (w : World) (hC : CCap w.heap.size w b1 b2 X g) :
  SeqBuf Fence.wide n Tryz.prog 52 #[.pointer (some ⟨b1, 0, none⟩), .pointer (some ⟨b2, 0, none⟩)] (comb (grpM X g.ts)) g.ts.length w :=
 fun l J W hW hJ hY hJ0 => comb_in n hn l b1 b2 X g.b g.tA g.rA g.tc g.rc g.call g.ts g.rs htl hrow J W hJ hY
  (let h := hC.below hW; ⟨Nat.lt_of_lt_of_le h.l1 hW.size, Nat.lt_of_lt_of_le h.l2 hW.size, Nat.lt_of_lt_of_le h.l3 hW.size, fun k e => Nat.lt_of_lt_of_le (h.l4 k e) hW.size, fun k e => Nat.lt_of_lt_of_le (h.l5 k e) hW.size, h.c1, h.c2, h.gb, h.t, h.s⟩) hJ0
theorem combs_at (X : Scn) (b : Nat) (w : World) :
  Calls Tryz.prog 27 #[X.v, gptr b] w fun e w' => e = .returned (.func (.func 52) #[] #[.pointer (some ⟨w.heap.size + 1, 0, none⟩), .pointer (some ⟨w.heap.size, 0, none⟩)]) ∧
   (w.alloc (.cells X.cells.toArray 78)).alloc (.cells #[gptr b] 81) = w' := by
 go_enter Tryz.func27, Tryz.ntmps27
 go_wp2
 go_ret
 exact ⟨rfl, rfl⟩
theorem SceneOk.cap {W : World} {X : Scn} {g : Grp} (h : SceneOk W X) (hg : g ∈ X.G) : CCap ((W.alloc (.cells X.cells.toArray 78)).alloc (.cells #[gptr g.b] 81)).heap.size ((W.alloc (.cells X.cells.toArray 78)).alloc (.cells #[gptr g.b] 81)) (W.heap.size + 1) W.heap.size X g := by
 have hE : Below W.heap.size W ((W.alloc (.cells X.cells.toArray 78)).alloc (.cells #[gptr g.b] 81)) := ext_alloc (ext_alloc (ext_refl W) _) _
 have h2 := h.ext hE
 have hG := h2.g1 g hg
 have q := World.alloc_heap_new (W.alloc (.cells X.cells.toArray 78)) (.cells #[gptr g.b] 81)
 rw [World.size_alloc] at q
 exact ⟨by simp, by simp; omega, (Array.getElem?_eq_some_iff.1 hG.b).1, fun k e => (hG.t.lt k e).1, fun k e => (h2.s0.lt k e).1, q, ((ext_alloc (ext_refl (W.alloc _)) _).block W.heap.size (by simp)).trans (World.alloc_heap_new W _), hG.b, hG.t, h2.s0⟩
end Go.Proofs.YtjiojpoiocdnmaaGreat
