/- Leaves. -/
import Derived.Test.YtilocjliplmmpaaGreatFF
set_option linter.unusedSimpArgs false
set_option linter.unusedVariables false
namespace Go.Proofs.YtilocjliplmmpaaGreat
open Go.RowKit
theorem isleaf1_any (x : Nd) (b : Nat) (m : Int) (w : World) (hb : b < w.heap.size) (hm : w.cell? ⟨b, 0, none⟩ = some (.int .i64 m)) : Calls Tryz.prog 102 #[x.v, .pointer (some ⟨b, 0, none⟩)] w (RetB w (decide (x.p = m))) := by
  have HW : Hid (Below w.heap.size w (w.alloc (.cells #[.int .i64 x.p, .int .i64 x.f, .slice x.cuts.A x.cuts.l.length x.cuts.c] 63))) := ext_alloc (ext_refl w) _
  have hm2 := (HW.out.cell (p := ⟨b, 0, none⟩) hb).trans hm
  have hb2 : b < (w.alloc (.cells #[.int .i64 x.p, .int .i64 x.f, .slice x.cuts.A x.cuts.l.length x.cuts.c] 63)).heap.size := by simp; omega
  clear hm
  go_enter Tryz.func102, Tryz.ntmps102
  go_wp2_with fail
  go_ret
  exact ⟨ret_bool (by rw [Bool.eq_iff_iff]; simp), HW.out⟩
theorem isleaf_any (A : Option Addr) (c : Nat) (l : List Nd) (n : Int) (w : World) (ha : Slc w Nd.cells 3 A l) (hn : l.length ≤ 1000) :
    Calls Tryz.prog 72 #[.slice A l.length c, .int .i64 n] w (RetB w (leafB l n)) := by
  obtain ⟨r1, hr1⟩ : ∃ r, (decide (0 ≤ n) && decide (n ≤ (l.length : Int) - 1)) = r := ⟨_, rfl⟩
  obtain ⟨r2, hr2⟩ : ∃ r, (l.any fun x => decide (x.p = n)) = r := ⟨_, rfl⟩
  have HL : Hid (leafB l n = (r1 && !r2)) := by
    unfold Hid leafB
    rw [← hr1, hr2]
    congr 2
    rw [decide_eq_decide]; omega
  have H1 := Lib.hid hr1
  have H2 := Lib.hid hr2
  have HW : Hid (Below w.heap.size w (w.alloc (.cells #[.int .i64 n] 3))) := ext_alloc (ext_refl w) _
  have hcell : (w.alloc (.cells #[.int .i64 n] 3)).cell? ⟨w.heap.size, 0, none⟩ = some (.int .i64 n) := by simp
  have hsz : w.heap.size < (w.alloc (.cells #[.int .i64 n] 3)).heap.size := by simp
  have HC := Lib.hid hcell
  have HS := Lib.hid hsz
  clear hr1 hr2 hcell hsz
  cases r1
  · go_enter Tryz.func72, Tryz.ntmps72
    go_wp2_with fail
    refine (in_at false H1.out).mono ?_
    rintro e w1 ⟨rfl, rfl⟩
    go_wp2_with fail
    go_ret
    exact ⟨ret_bool (by rw [HL.out]; rfl), HW.out⟩
  · go_enter Tryz.func72, Tryz.ntmps72
    go_wp2_with fail
    refine (in_at true H1.out).mono ?_
    rintro e w1 ⟨rfl, rfl⟩
    go_wp2_with fail
    refine (containsNd 102 (.pointer (some ⟨w.heap.size, 0, none⟩)) (fun x => decide (x.p = n)) A c l _ (ha.ext HW.out) (by unfold maxLen; omega) enters43 (fun x W _ hW => isleaf1_any x _ n W (Nat.lt_of_lt_of_le HS.out hW.size) ((hW.cell (p := ⟨w.heap.size, 0, none⟩) HS.out).trans HC.out))).mono ?_
    rintro e w1 ⟨rfl, B1⟩
    rw [H2.out]
    cases r2
    all_goals
      go_wp2_with fail
      go_ret
      exact ⟨ret_bool (by rw [HL.out]; rfl), ext_trans HW.out B1⟩
set_option maxHeartbeats 400000 in
theorem risleaf_any (A : Option Addr) (c : Nat) (l : List Nd) (n : Int) (w : World) (ha : Slc w Nd.cells 3 A l) (hn : l.length ≤ 1000) :
    Calls Tryz.prog 76 #[.slice A l.length c, .int .i64 n] w fun e w' => e = .returned (.bool (leafB l n)) ∧ w = w' := by
  obtain ⟨r, hr⟩ : ∃ r, leafB l n = r := ⟨_, rfl⟩
  have HR := Lib.hid hr
  rw [hr]
  clear hr
  by_cases h1 : n < 0
  · go_enter Tryz.func76, Tryz.ntmps76
    go_wp2_with fail
    go_ret
    exact ⟨ret_bool (by rw [← HR.out]; simp [leafB]; omega), rfl⟩
  by_cases h2 : (l.length : Int) ≤ n
  · go_enter Tryz.func76, Tryz.ntmps76
    go_wp2_with fail
    go_ret
    exact ⟨ret_bool (by rw [← HR.out]; simp [leafB]; omega), rfl⟩
  go_enter Tryz.func76, Tryz.ntmps76
  go_wp2_with fail
  go_loop [5] (fun i => ∃ k : Nat, k ≤ l.length ∧ i = .int .i64 k ∧ Hid ((l.take k).any (fun x => decide (x.p = n)) = false)) (fun i => l.length - (intOf i).toNat)
  case atStart => exact ⟨0, Nat.zero_le _, rfl, by simp [Hid]⟩
  case round =>
    obtain ⟨k, hk, rfl, HT⟩ := hrel
    by_cases hlt : k < l.length
    · obtain ⟨x, b1, o1, hx, rfl, hb1, hc⟩ := ha.at_ hlt
      have HX := Lib.hid hx
      have c0 := hc 0 _ rfl
      simp only [Nat.add_zero] at c0
      clear hx hc
      have hlt' : (k : Int) < l.length := by omega
      by_cases hxn : x.p = n
      · have e1 : (x.p == n) = true := by simpa using hxn
        have HP : Hid ((l.any fun x => decide (x.p = n)) = true) := any_hit HX.out (by simp [hxn])
        clear hxn
        go_wp2_with fail
        go_ret
        exact ⟨ret_bool (by rw [← HR.out, leafB, HP.out]; simp), rfl⟩
      · have e1 : (x.p == n) = false := by simpa using hxn
        have HP := Lib.hid hxn
        clear hxn
        go_wp2_with fail
        go_round
        case rel => exact ⟨k + 1, hlt, by go_num, any_take HT.out HX.out (by simpa using HP.out)⟩
        case measure => simp [intOf]; omega
    · have hlt' : ¬ (k : Int) < l.length := by omega
      go_wp2_with fail
      go_ret
      exact ⟨ret_bool (by rw [← HR.out, leafB, any_end HT.out (by omega)]; simp; omega), rfl⟩
theorem leaves1_any (n : Int) (w : World) : Calls Tryz.prog 70 #[.int .i64 n] w (RetB w true) := by
  go_enter Tryz.func70, Tryz.ntmps70
  go_wp2
  go_ret
  exact ⟨rfl, ext_refl _⟩
/-- What hands back a list of numbers. -/
def RetIs (w : World) (l : List Int) (e : Ending) (w' : World) : Prop := ∃ A c, e = .returned (.slice A l.length c) ∧ Slc w' ic 1 A l ∧ Below w.heap.size w w'
theorem info3 : (Tryz.prog.info? 3).map (fun i => (i.zero, i.size, i.bytes)) = some (some (.int .i64 0), 1, 8) := by kernel_rfl
theorem info_parts {P : Program} {e : TypeId} {z : Value} {sz b : Nat} (h : (P.info? e).map (fun i => (i.zero, i.size, i.bytes)) = some (some z, sz, b)) : ∃ i, P.info? e = some i ∧ i.zero = some z ∧ i.size = sz ∧ i.bytes = b := by
  cases hi : P.info? e with
  | none => rw [hi] at h; cases h
  | some i =>
    rw [hi] at h
    simp only [Option.map_some, Option.some.injEq, Prod.mk.injEq] at h
    exact ⟨i, rfl, h.1, h.2.1, h.2.2⟩
theorem I25 : EInfo Tryz.prog 32 3 ic 1 8 := by
  obtain ⟨i0, hi, hz0, hz1, hz2⟩ := info_parts info3
  exact ⟨Tryz.underlying32, ⟨i0, _, hi, hz0, hz1, hz2, rfl⟩, by decide, fun _ => rfl, fun x => by simp [ic, Value.oneCell']⟩
/-- The leaves among the first k nodes for which h holds. -/
def lvs (l : List Nd) (h : Int → Bool) (k : Nat) : List Int := ((List.range k).map (fun i : Nat => (i : Int))).filter (fun n => leafB l n && h n)
theorem lvs_step (l : List Nd) (h : Int → Bool) (k : Nat) : lvs l h (k + 1) = if leafB l k && h k then lvs l h k ++ [(k : Int)] else lvs l h k := by
  unfold lvs
  rw [List.range_succ, List.map_append, List.filter_append]
  simp only [List.map_cons, List.map_nil, List.filter_cons, List.filter_nil]
  split <;> simp
theorem lvs_end (l : List Nd) (h : Int → Bool) : lvs l h l.length = leavesIf l h := rfl
theorem lvs_len (l : List Nd) (h : Int → Bool) (k : Nat) : (lvs l h k).length ≤ k := by
  unfold lvs
  exact Nat.le_trans (List.length_filter_le _ _) (by simp)
set_option maxHeartbeats 800000 in
theorem leavesF0 (g : Nat) (h : Int → Bool) (A : Option Addr) (c : Nat) (l : List Nd) (w : World) (ha : Slc w Nd.cells 3 A l) (hn : l.length ≤ 1000) (hE : Enters Tryz.prog g)
    (hp : ∀ (x : Int) (W : World), leafB l x = true → Below w.heap.size w W → Calls Tryz.prog g #[.int .i64 x] W fun e W' => e = .returned (.bool (h x)) ∧ Below W.heap.size W W') :
    Calls Tryz.prog 69 #[.slice A l.length c, .func (.func g) #[] #[]] w (RetIs w (leavesIf l h)) := by
  have HP := Lib.hid hp
  have HE := Lib.hid hE
  clear hp hE
  go_enter Tryz.func69, Tryz.ntmps69
  go_wp2_with fail
  go_loopw [4, 8] (fun v i wr => ∃ k : Nat, k ≤ l.length ∧ i = .int .i64 k ∧ Own wr w.heap.size 3 ic 1 v (lvs l h k) ∧ Below w.heap.size w wr) (fun _ i _ => l.length - (intOf i).toNat)
  case atStart => exact ⟨0, Nat.zero_le _, rfl, Own.nil _ _ _ _ _, ext_refl _⟩
  case round =>
    obtain ⟨k, hk, rfl, hO, hB⟩ := hrel
    obtain ⟨A2, c2, rfl, hc2, _, _⟩ := hO.form
    by_cases hlt : k < l.length
    · have hlt' : (k : Int) < l.length := by omega
      obtain ⟨r1, hr1⟩ : ∃ r, leafB l k = r := ⟨_, rfl⟩
      obtain ⟨r2, hr2⟩ : ∃ r, h k = r := ⟨_, rfl⟩
      have H1 := Lib.hid hr1
      have H2 := Lib.hid hr2
      have HS := Lib.hid (lvs_step l h k)
      have hlen := lvs_len l h k
      rw [hr1, hr2] at HS
      clear hr1 hr2
      cases r1
      · go_wp2_with fail
        refine (isleaf_any A c l k _ (ha.ext hB) hn).mono ?_
        rintro e w1 ⟨rfl, B1⟩
        rw [H1.out]
        go_wp2_with fail
        go_roundw
        case rel => exact ⟨k + 1, hlt, by go_num, by rw [HS.out]; exact hO.ext B1, ext_trans hB B1⟩
        case measure => simp [intOf]; omega
      cases r2
      · go_wp2_with fail
        refine (isleaf_any A c l k _ (ha.ext hB) hn).mono ?_
        rintro e w1 ⟨rfl, B1⟩
        rw [H1.out]
        have hE2 := HE.out #[.int .i64 (k : Int)] w1
        go_wp2_with fail
        refine (HP.out k w1 H1.out (ext_trans hB B1)).mono ?_
        rintro e w2 ⟨rfl, B2⟩
        rw [H2.out]
        clear hE2
        go_wp2_with fail
        go_roundw
        case rel => exact ⟨k + 1, hlt, by go_num, by rw [HS.out]; exact (hO.ext B1).ext B2, ext_trans hB (ext_trans B1 B2)⟩
        case measure => simp [intOf]; omega
      · go_wp2_with fail
        refine (isleaf_any A c l k _ (ha.ext hB) hn).mono ?_
        rintro e w1 ⟨rfl, B1⟩
        rw [H1.out]
        have hE2 := HE.out #[.int .i64 (k : Int)] w1
        go_wp2_with fail
        refine (HP.out k w1 H1.out (ext_trans hB B1)).mono ?_
        rintro e w2 ⟨rfl, B2⟩
        rw [H2.out]
        clear hE2
        have hO2 := (hO.ext B1).ext B2
        have hB2 := ext_trans hB (ext_trans B1 B2)
        have hS := slc_litH w2 [(k : Int)] #[.int .i64 k] 3 (enc := ic) (sz := 1) (fun _ => rfl) rfl w2.heap.size rfl
        obtain ⟨v', w5, hrun, hO5, hg5, hat5⟩ := (hO2.alloc (.cells #[.int .i64 k] 3)).append I25 32 (ys := [(k : Int)]) (m := 1) rfl 1 hS (by simp only [List.length_cons, List.length_nil]; omega) (by unfold maxLen; simp only [List.length_cons, List.length_nil]; omega) (by have := hB2.size; simp; omega)
        have hB5 : Below w.heap.size w w5 := (ext_alloc hB2 _).grown hg5 (by have := hB2.size; simp; omega) (fun r e => (hO2.lt r e).2)
        have HRUN := Lib.hid hrun
        have HO5 := Lib.hid hO5
        clear hrun hO5 hg5 hat5 hS hO hO2
        go_wp2_with (at_builtin; refine wpList_append_run rfl (.tmp 19) (.tmp 21) 32 rfl (.slice A2 (lvs l h k).length c2) (.slice (some ⟨w2.heap.size, 0, none⟩) 1 1) rfl rfl HRUN.out ?_)
        go_roundw
        case rel => exact ⟨k + 1, hlt, by go_num, by rw [HS.out]; exact HO5.out, hB5⟩
        case measure => simp [intOf]; omega
    · have hlt' : ¬ (k : Int) < l.length := by omega
      obtain rfl : k = l.length := by omega
      go_wp2_with fail
      go_ret
      exact ⟨A2, c2, rfl, hO.slc (fun _ => rfl) (by decide), hB⟩
set_option maxHeartbeats 800000 in
theorem leavesF2 (g : Nat) (cap1 : Value) (cap2 : Value) (h : Int → Bool) (A : Option Addr) (c : Nat) (l : List Nd) (w : World) (ha : Slc w Nd.cells 3 A l) (hn : l.length ≤ 1000) (hE : Enters Tryz.prog g)
    (hp : ∀ (x : Int) (W : World), leafB l x = true → Below w.heap.size w W → Calls Tryz.prog g #[.int .i64 x, cap1, cap2] W fun e W' => e = .returned (.bool (h x)) ∧ Below W.heap.size W W') :
    Calls Tryz.prog 69 #[.slice A l.length c, .func (.func g) #[] #[cap1, cap2]] w (RetIs w (leavesIf l h)) := by
  have HP := Lib.hid hp
  have HE := Lib.hid hE
  clear hp hE
  go_enter Tryz.func69, Tryz.ntmps69
  go_wp2_with fail
  go_loopw [4, 8] (fun v i wr => ∃ k : Nat, k ≤ l.length ∧ i = .int .i64 k ∧ Own wr w.heap.size 3 ic 1 v (lvs l h k) ∧ Below w.heap.size w wr) (fun _ i _ => l.length - (intOf i).toNat)
  case atStart => exact ⟨0, Nat.zero_le _, rfl, Own.nil _ _ _ _ _, ext_refl _⟩
  case round =>
    obtain ⟨k, hk, rfl, hO, hB⟩ := hrel
    obtain ⟨A2, c2, rfl, hc2, _, _⟩ := hO.form
    by_cases hlt : k < l.length
    · have hlt' : (k : Int) < l.length := by omega
      obtain ⟨r1, hr1⟩ : ∃ r, leafB l k = r := ⟨_, rfl⟩
      obtain ⟨r2, hr2⟩ : ∃ r, h k = r := ⟨_, rfl⟩
      have H1 := Lib.hid hr1
      have H2 := Lib.hid hr2
      have HS := Lib.hid (lvs_step l h k)
      have hlen := lvs_len l h k
      rw [hr1, hr2] at HS
      clear hr1 hr2
      cases r1
      · go_wp2_with fail
        refine (isleaf_any A c l k _ (ha.ext hB) hn).mono ?_
        rintro e w1 ⟨rfl, B1⟩
        rw [H1.out]
        go_wp2_with fail
        go_roundw
        case rel => exact ⟨k + 1, hlt, by go_num, by rw [HS.out]; exact hO.ext B1, ext_trans hB B1⟩
        case measure => simp [intOf]; omega
      cases r2
      · go_wp2_with fail
        refine (isleaf_any A c l k _ (ha.ext hB) hn).mono ?_
        rintro e w1 ⟨rfl, B1⟩
        rw [H1.out]
        have hE2 := HE.out #[.int .i64 (k : Int), cap1, cap2] w1
        go_wp2_with fail
        refine (HP.out k w1 H1.out (ext_trans hB B1)).mono ?_
        rintro e w2 ⟨rfl, B2⟩
        rw [H2.out]
        clear hE2
        go_wp2_with fail
        go_roundw
        case rel => exact ⟨k + 1, hlt, by go_num, by rw [HS.out]; exact (hO.ext B1).ext B2, ext_trans hB (ext_trans B1 B2)⟩
        case measure => simp [intOf]; omega
      · go_wp2_with fail
        refine (isleaf_any A c l k _ (ha.ext hB) hn).mono ?_
        rintro e w1 ⟨rfl, B1⟩
        rw [H1.out]
        have hE2 := HE.out #[.int .i64 (k : Int), cap1, cap2] w1
        go_wp2_with fail
        refine (HP.out k w1 H1.out (ext_trans hB B1)).mono ?_
        rintro e w2 ⟨rfl, B2⟩
        rw [H2.out]
        clear hE2
        have hO2 := (hO.ext B1).ext B2
        have hB2 := ext_trans hB (ext_trans B1 B2)
        have hS := slc_litH w2 [(k : Int)] #[.int .i64 k] 3 (enc := ic) (sz := 1) (fun _ => rfl) rfl w2.heap.size rfl
        obtain ⟨v', w5, hrun, hO5, hg5, hat5⟩ := (hO2.alloc (.cells #[.int .i64 k] 3)).append I25 32 (ys := [(k : Int)]) (m := 1) rfl 1 hS (by simp only [List.length_cons, List.length_nil]; omega) (by unfold maxLen; simp only [List.length_cons, List.length_nil]; omega) (by have := hB2.size; simp; omega)
        have hB5 : Below w.heap.size w w5 := (ext_alloc hB2 _).grown hg5 (by have := hB2.size; simp; omega) (fun r e => (hO2.lt r e).2)
        have HRUN := Lib.hid hrun
        have HO5 := Lib.hid hO5
        clear hrun hO5 hg5 hat5 hS hO hO2
        go_wp2_with (at_builtin; refine wpList_append_run rfl (.tmp 19) (.tmp 21) 32 rfl (.slice A2 (lvs l h k).length c2) (.slice (some ⟨w2.heap.size, 0, none⟩) 1 1) rfl rfl HRUN.out ?_)
        go_roundw
        case rel => exact ⟨k + 1, hlt, by go_num, by rw [HS.out]; exact HO5.out, hB5⟩
        case measure => simp [intOf]; omega
    · have hlt' : ¬ (k : Int) < l.length := by omega
      obtain rfl : k = l.length := by omega
      go_wp2_with fail
      go_ret
      exact ⟨A2, c2, rfl, hO.slc (fun _ => rfl) (by decide), hB⟩
end Go.Proofs.YtilocjliplmmpaaGreat
