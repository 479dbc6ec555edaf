/- The reference's At, Below and Alive. -/
import Derived.Test.YtemdebheinbolaaI
namespace Go.Proofs.Ytemdebheinbolaa
open Go.RowKit
theorem risleaf_at {A : Option Addr} {n c : Nat} {l : List Nd} {x : Int} {w : World} (r : Bool) (hr : leafB l x = r) (hn : n = l.length) (ha : Slc w Nd.cells 3 A l) (h : l.length ≤ 1000) : Calls Try.prog 28 #[.slice A n c, .int .i64 x] w fun e w' => e = .returned (.bool r) ∧ w = w' := by
  subst hr hn; exact risleaf_any A c l x w ha h
theorem atN_here {l : List Nd} (T : Tree l) {x m : Int} (h0 : 0 ≤ x) (h1 : x < l.length) (h : frm l x.toNat ≤ m) : atN l x m = some x := by
  unfold atN; rw [T.way_cons h0 h1]; simp [h]
theorem atN_next {l : List Nd} (T : Tree l) {x m : Int} (h0 : 0 ≤ x) (h1 : x < l.length) (h : ¬ frm l x.toNat ≤ m) : atN l x m = atN l (par l x.toNat) m := by
  unfold atN; rw [T.way_cons h0 h1]; simp [h]
set_option maxHeartbeats 800000 in
theorem rat_any (A : Option Addr) (c : Nat) (l : List Nd) (leaf m : Int) (w : World) (ha : TOk w A l) : Calls Try.prog 19 #[.slice A l.length c, .int .i64 leaf, .int .i64 m] w (RetI w (atR l leaf m)) := by
  cases hv : vld l
  · have HV := Lib.hid hv
    have HR : Hid (atR l leaf m = (0, 180)) := by simp [Hid, atR, hv]
    clear hv
    go_enter Try.func19, Try.ntmps19
    go_wp2_with fail
    refine (rcheck_at 180 (chk_no HV.out) rfl ha).mono ?_
    rintro e w1 ⟨rfl, B1⟩
    go_wp2_with fail
    go_ret2
    rw [HR.out]; exact ⟨rfl, B1⟩
  have T := tree_of hv
  have h32 := T.hi
  have HV := Lib.hid hv
  cases hlf : leafB l leaf
  · have HLF := Lib.hid hlf
    have HR : Hid (atR l leaf m = (0, 180)) := by simp [Hid, atR, hlf]
    clear hv T hlf
    go_enter Try.func19, Try.ntmps19
    go_wp2_with fail
    refine (rcheck_at 0 (chk_yes HV.out) rfl ha).mono ?_
    rintro e w1 ⟨rfl, B1⟩
    go_wp2_with fail
    refine (risleaf_at false HLF.out rfl (ha.ext B1).nd (by omega)).mono ?_
    rintro e w2 ⟨rfl, rfl⟩
    go_wp2_with fail
    go_ret2
    rw [HR.out]; exact ⟨rfl, B1⟩
  have HLF := Lib.hid hlf
  by_cases hm : 0 ≤ m
  rotate_left
  · have HR : Hid (atR l leaf m = (0, 180)) := by simp [Hid, atR, hm]
    have hm2 : m < 0 := by omega
    clear hv T hlf hm
    go_enter Try.func19, Try.ntmps19
    go_wp2_with fail
    refine (rcheck_at 0 (chk_yes HV.out) rfl ha).mono ?_
    rintro e w1 ⟨rfl, B1⟩
    go_wp2_with fail
    refine (risleaf_at true HLF.out rfl (ha.ext B1).nd (by omega)).mono ?_
    rintro e w2 ⟨rfl, rfl⟩
    go_wp2_with fail
    go_ret2
    rw [HR.out]; exact ⟨rfl, B1⟩
  obtain ⟨lf0, lf1, _⟩ := (leafB_iff l leaf).1 hlf
  have HR : Hid (atR l leaf m = ((atN l leaf m).getD 0, 0)) := by simp [Hid, atR, hm, hv, hlf]
  have HT := Lib.hid T
  clear hv T hlf
  go_enter Try.func19, Try.ntmps19
  go_wp2_with fail
  refine (rcheck_at 0 (chk_yes HV.out) rfl ha).mono ?_
  rintro e w1 ⟨rfl, B1⟩
  go_wp2_with fail
  refine (risleaf_at true HLF.out rfl (ha.ext B1).nd (by omega)).mono ?_
  rintro e w2 ⟨rfl, rfl⟩
  have HA := (ha.ext B1).nd
  clear ha
  go_wp2_with fail
  go_loop [8] (fun i => ∃ x : Int, 0 ≤ x ∧ x < l.length ∧ i = .int .i64 x ∧ Hid (atN l leaf m = atN l x m)) (fun i => (intOf i).toNat)
  case atStart => exact ⟨leaf, lf0, lf1, rfl, rfl⟩
  case round =>
    obtain ⟨x, x0, x1, rfl, HX⟩ := hrel
    obtain ⟨nd, bb, oo, hx, rfl, hbb, hc⟩ := HA.at_ (k := x.toNat) (by omega)
    have d0 := hc 0 _ rfl
    have d1 := hc 1 _ rfl
    simp only [Nat.add_zero] at d0
    have hf := frm_at hx
    have hp := par_at hx
    have hpl := HT.out.par_lt (i := x.toNat) (by omega)
    rw [hp] at hpl
    have HF := Lib.hid hf
    have HP := Lib.hid hp
    clear hx hc hf hp
    by_cases hle : m < nd.f
    · have h00 : ¬ x.toNat = 0 := fun e => by
        have := HF.out
        rw [e, HT.out.frm0] at this; omega
      have HN := Lib.hid (atN_next HT.out x0 x1 (m := m) (by rw [HF.out]; omega))
      go_wp2_with fail
      go_round
      case rel => exact ⟨nd.p, by omega, by omega, rfl, by unfold Hid; rw [HX.out, HN.out, HP.out]⟩
      case measure => simp [intOf]; omega
    · have HN := Lib.hid (atN_here HT.out x0 x1 (m := m) (by rw [HF.out]; omega))
      go_wp2_with fail
      go_ret2
      rw [HR.out, HX.out, HN.out]
      exact ⟨rfl, B1⟩
theorem below_here {l : List Nd} (T : Tree l) {x n : Int} (h0 : 0 ≤ x) (h1 : x < l.length) (h : x = n) : below l x n = true := by
  unfold below; rw [T.way_cons h0 h1]; simp [h]
theorem below_next {l : List Nd} (T : Tree l) {x n : Int} (h0 : 0 ≤ x) (h1 : x < l.length) (h : ¬ x = n) : below l x n = below l (par l x.toNat) n := by
  unfold below; rw [T.way_cons h0 h1]; simp [h]
theorem below_neg {l : List Nd} {x n : Int} (h : x < 0) : below l x n = false := by unfold below; rw [way_neg h]; rfl
theorem rbelow_any (A : Option Addr) (c : Nat) (l : List Nd) (leaf node : Int) (w : World) (HA : Slc w Nd.cells 3 A l) (T : Tree l) (lf0 : 0 ≤ leaf) (lf1 : leaf < l.length) :
    Calls Try.prog 39 #[.slice A l.length c, .int .i64 leaf, .int .i64 node] w fun e w' => e = .returned (.bool (below l leaf node)) ∧ w = w' := by
  have h32 := T.hi
  have HT := Lib.hid T
  clear T
  go_enter Try.func39, Try.ntmps39
  go_wp2_with fail
  go_loop [7] (fun i => ∃ x : Int, -1 ≤ x ∧ x < l.length ∧ i = .int .i64 x ∧ Hid (below l leaf node = below l x node)) (fun i => (intOf i + 1).toNat)
  case atStart => exact ⟨leaf, by omega, lf1, rfl, rfl⟩
  case round =>
    obtain ⟨x, x0, x1, rfl, HX⟩ := hrel
    by_cases hx0 : 0 ≤ x
    rotate_left
    · have HN := Lib.hid (below_neg (l := l) (x := x) (n := node) (by omega))
      go_wp2_with fail
      go_ret
      exact ⟨ret_bool (by rw [HX.out, HN.out]), rfl⟩
    obtain ⟨nd, bb, oo, hx, rfl, hbb, hc⟩ := HA.at_ (k := x.toNat) (by omega)
    have d0 := hc 0 _ rfl
    simp only [Nat.add_zero] at d0
    have hp := par_at hx
    have hpl := HT.out.par_lt (i := x.toNat) (by omega)
    rw [hp] at hpl
    have HP := Lib.hid hp
    clear hx hc hp
    by_cases he : x = node
    · have HN := Lib.hid (below_here HT.out hx0 x1 he)
      have e1 : (x == node) = true := by simpa using he
      clear he
      go_wp2_with fail
      go_ret
      exact ⟨ret_bool (by rw [HX.out, HN.out]), rfl⟩
    · have HN := Lib.hid (below_next HT.out hx0 x1 he)
      have e1 : (x == node) = false := by simpa using he
      clear he
      go_wp2_with fail
      go_round
      case rel => exact ⟨nd.p, by omega, by omega, rfl, by unfold Hid; rw [HX.out, HN.out, HP.out]⟩
      case measure => simp [intOf]; omega
theorem rbelow_at {A : Option Addr} {n c : Nat} {l : List Nd} {leaf node : Int} {w : World} (r : Bool) (hr : below l leaf node = r) (hn : n = l.length) (HA : Slc w Nd.cells 3 A l) (T : Tree l) (lf0 : 0 ≤ leaf) (lf1 : leaf < l.length) :
    Calls Try.prog 39 #[.slice A n c, .int .i64 leaf, .int .i64 node] w fun e w' => e = .returned (.bool r) ∧ w = w' := by
  subst hr hn; exact rbelow_any A c l leaf node w HA T lf0 lf1
theorem all_take {p : Int → Bool} {l : List Int} {k : Nat} {x : Int} (hx : l[k]? = some x) : (l.take (k + 1)).all p = ((l.take k).all p && p x) := by
  rw [List.take_add_one, hx]; simp
theorem all_no {p : Int → Bool} {l : List Int} {k : Nat} {x : Int} (hx : l[k]? = some x) (h : p x = false) : l.all p = false := by
  rw [Bool.eq_false_iff]; intro ha
  rw [List.all_eq_true] at ha
  rw [ha x (List.mem_of_getElem? hx)] at h; cases h
theorem all_end {p : Int → Bool} {l : List Int} {k : Nat} (hk : l.length ≤ k) : (l.take k).all p = l.all p := by rw [List.take_of_length_le hk]
set_option maxHeartbeats 1600000 in
set_option maxRecDepth 100000 in
theorem ralive_any (A B : Option Addr) (c d : Nat) (l : List Nd) (seen : List Int) (w : World) (ha : TOk w A l) (hb : Slc w ic 1 B seen) (hbl : seen.length ≤ maxLen) : Calls Try.prog 21 #[.slice A l.length c, .slice B seen.length d] w (RetP w (aliveR l seen)) := by
  unfold maxLen at hbl
  cases hv : vld l
  · have HV := Lib.hid hv
    have HR : Hid (aliveR l seen = ([], 180)) := by simp [Hid, aliveR, hv]
    clear hv
    go_enter Try.func21, Try.ntmps21
    go_wp2_with fail
    refine (rcheck_at 180 (chk_no HV.out) rfl ha).mono ?_
    rintro e w1 ⟨rfl, B1⟩
    go_wp2_with fail
    go_ret2
    rw [HR.out]; exact ⟨none, 0, rfl, Slc.nil, B1⟩
  have T := tree_of hv
  have h32 := T.hi
  have HV := Lib.hid hv
  have HT := Lib.hid T
  have HNO : Hid (seen.all (inT l) = false → aliveR l seen = ([], 180)) := fun h => by simp [aliveR, hv, h]
  have HYES : Hid (seen.all (inT l) = true → aliveR l seen = if (aliveL l seen).length = 0 then ([], 181) else (aliveL l seen, 0)) := fun h => by simp [aliveR, hv, h]
  clear hv T
  go_enter Try.func21, Try.ntmps21
  go_wp2_with fail
  refine (rcheck_at 0 (chk_yes HV.out) rfl ha).mono ?_
  rintro e w1 ⟨rfl, B1⟩
  have HA := (ha.ext B1).nd
  have HB := hb.ext B1
  clear ha hb
  go_wp2_with fail
  go_loop [6] (fun i => ∃ k : Nat, k ≤ seen.length ∧ i = .int .i64 k ∧ Hid ((seen.take k).all (inT l) = true)) (fun i => seen.length - (intOf i).toNat)
  case atStart => exact ⟨0, Nat.zero_le _, rfl, by simp [Hid]⟩
  case round =>
    obtain ⟨k, hk, rfl, HK⟩ := hrel
    by_cases hlt : k < seen.length
    · obtain ⟨x, bb, oo, hx, rfl, hbb, hc⟩ := HB.at_ hlt
      have d0 := hc 0 _ rfl
      simp only [Nat.mul_one, Nat.add_zero] at d0
      have HX := Lib.hid hx
      have hlt' : (k : Int) < seen.length := by omega
      clear hx hc
      by_cases h0 : x < 0
      · have HN : Hid (inT l x = false) := by simp [Hid, inT]; omega
        go_wp2_with fail
        go_ret2
        rw [HNO.out (all_no HX.out HN.out)]
        exact ⟨none, 0, rfl, Slc.nil, B1⟩
      by_cases h1 : (l.length : Int) ≤ x
      · have HN : Hid (inT l x = false) := by simp [Hid, inT]; omega
        go_wp2_with fail
        go_ret2
        rw [HNO.out (all_no HX.out HN.out)]
        exact ⟨none, 0, rfl, Slc.nil, B1⟩
      · have HN : Hid (inT l x = true) := by simp [Hid, inT]; omega
        go_wp2_with fail
        go_round
        case rel => exact ⟨k + 1, hlt, by go_num, by unfold Hid; rw [all_take HX.out, HK.out, HN.out]; rfl⟩
        case measure => simp [intOf]; omega
    · have hlt' : ¬ (k : Int) < seen.length := by omega
      have HY := HYES.out (by rw [← all_end (k := k) (by omega)]; exact HK.out)
      have HYY := Lib.hid HY
      clear HY
      go_wp2_with fail
      go_loopw [7, 8] (fun v i wr => ∃ q : Nat, q ≤ l.length ∧ i = .int .i64 q ∧ Own wr w1.heap.size 3 ic 1 v (lvs l (fun x => seen.all (below l x)) q) ∧ Below w1.heap.size w1 wr) (fun _ i _ => l.length - (intOf i).toNat)
      case atStart => exact ⟨0, Nat.zero_le _, rfl, Own.made w1 _ 3 ic 1 (Nat.le_refl _), ext_alloc (ext_refl w1) _⟩
      case round =>
        obtain ⟨q, hq, rfl, hO, hB⟩ := hrel
        obtain ⟨A2, c2, rfl, hc2, _, _⟩ := hO.form
        by_cases hlq : q < l.length
        · have hlq' : (q : Int) < l.length := by omega
          obtain ⟨r1, hr1⟩ : ∃ r, leafB l q = r := ⟨_, rfl⟩
          have H1 := Lib.hid hr1
          have HS := Lib.hid (lvs_step l (fun x => seen.all (below l x)) q)
          have hlen := lvs_len l (fun x => seen.all (below l x)) q
          rw [hr1] at HS
          clear hr1
          obtain ⟨wo, rfl⟩ : ∃ wo, wo = wr := ⟨_, rfl⟩
          have HO := Lib.hid hO
          clear hO
          go_wp2_with fail
          refine (risleaf_at _ H1.out rfl (HA.ext hB) (by omega)).mono ?_
          rintro e w2 ⟨rfl, rfl⟩
          go_wp2_with fail
          go_loop [9, 10] (fun ok i => ∃ (j : Nat) (b : Bool), j ≤ seen.length ∧ i = .int .i64 j ∧ ok = .bool b ∧ Hid (b = (r1 && (seen.take j).all (below l q)))) (fun _ i => seen.length - (intOf i).toNat)
          case atStart => exact ⟨0, r1, Nat.zero_le _, rfl, rfl, by simp [Hid]⟩
          case round =>
            obtain ⟨j, b, hj, rfl, rfl, HBJ⟩ := hrel
            by_cases hlj : j < seen.length
            · obtain ⟨x, bb, oo, hx, rfl, hbb, hc⟩ := (HB.ext hB).at_ hlj
              have d0 := hc 0 _ rfl
              simp only [Nat.mul_one, Nat.add_zero] at d0
              have HX := Lib.hid hx
              have hlj' : (j : Int) < seen.length := by omega
              clear hx hc
              cases b
              · go_wp2_with fail
                go_round
                case rel => exact ⟨j + 1, false, hlj, by go_num, rfl, by unfold Hid; rw [all_take HX.out, ← Bool.and_assoc, ← HBJ.out]; rfl⟩
                case measure => simp [intOf]; omega
              · obtain ⟨r2, hr2⟩ : ∃ r, below l q x = r := ⟨_, rfl⟩
                have H2 := Lib.hid hr2
                clear hr2
                go_wp2_with fail
                refine (rbelow_at _ H2.out rfl (HA.ext hB) HT.out (by omega) hlq').mono ?_
                rintro e w2 ⟨rfl, rfl⟩
                go_wp2_with fail
                go_round
                case rel => exact ⟨j + 1, r2, hlj, by go_num, rfl, by unfold Hid; rw [all_take HX.out, ← Bool.and_assoc, ← HBJ.out, H2.out]; rfl⟩
                case measure => simp [intOf]; omega
            · have hlj' : ¬ (j : Int) < seen.length := by omega
              have hbj := HBJ.out
              rw [all_end (by omega)] at hbj
              rw [← hbj] at HS
              clear hbj
              cases b
              · go_wp2_with fail
                go_roundw
                case rel => exact ⟨q + 1, hlq, by go_num, by rw [HS.out]; exact HO.out, hB⟩
                case measure => simp [intOf]; omega
              · have hS := slc_litH wo [(q : Int)] #[.int .i64 q] 3 (enc := ic) (sz := 1) (fun _ => rfl) rfl wo.heap.size rfl
                obtain ⟨v', w5, hrun, hO5, hg5, hat5⟩ := (HO.out.alloc (.cells #[.int .i64 q] 3)).append I25 25 (ys := [(q : Int)]) (m := 1) rfl 1 hS (by simp only [List.length_cons, List.length_nil]; omega) (by unfold maxLen; simp only [List.length_cons, List.length_nil]; omega) (by have := hB.size; simp; omega)
                have hB5 : Below w1.heap.size w1 w5 := (ext_alloc hB _).grown hg5 (by have := hB.size; simp; omega) (fun r e => (HO.out.lt r e).2)
                have HRUN := Lib.hid hrun
                have HO5 := Lib.hid hO5
                clear hrun hO5 hg5 hat5 hS
                go_wp2_with (at_builtin; refine wpList_append_run rfl (.tmp 61) (.tmp 63) 25 rfl (.slice A2 (lvs l (fun x => seen.all (below l x)) q).length c2) (.slice (some ⟨wo.heap.size, 0, none⟩) 1 1) rfl rfl HRUN.out ?_)
                go_roundw
                case rel => exact ⟨q + 1, hlq, by go_num, by rw [HS.out]; exact HO5.out, hB5⟩
                case measure => simp [intOf]; omega
        · have hlq' : ¬ (q : Int) < l.length := by omega
          obtain rfl : q = l.length := by omega
          have hO2 : Own wr w1.heap.size 3 ic 1 (.slice A2 (aliveL l seen).length c2) (aliveL l seen) := hO
          have HO2 := Lib.hid hO2
          have hyy := HYY.out
          rw [show lvs l (fun x => seen.all (below l x)) l.length = aliveL l seen from rfl]
          by_cases hz : (aliveL l seen).length = 0
          · rw [if_pos hz] at hyy
            have HY := Lib.hid hyy
            have e1 : (((aliveL l seen).length : Int) == 0) = true := by simp [hz]
            clear hyy hO hO2 hz
            go_wp2_with fail
            go_ret2
            rw [HY.out]
            exact ⟨none, 0, rfl, Slc.nil, ext_trans B1 hB⟩
          · rw [if_neg hz] at hyy
            have HY := Lib.hid hyy
            have e1 : (((aliveL l seen).length : Int) == 0) = false := by simpa using hz
            clear hyy hO hO2 hz
            go_wp2_with fail
            go_ret2
            rw [HY.out]
            exact ⟨A2, c2, rfl, HO2.out.slc (fun _ => rfl) (by decide), ext_trans B1 hB⟩
end Go.Proofs.Ytemdebheinbolaa
