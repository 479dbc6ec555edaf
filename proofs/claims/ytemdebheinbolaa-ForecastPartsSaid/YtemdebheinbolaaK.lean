/- The reference's Less. -/
import Derived.Test.YtemdebheinbolaaJ
namespace Go.Proofs.Ytemdebheinbolaa
open Go.RowKit
/-- A cut in a block of its own. -/
theorem cutSum_take {a : Bool} {ix m : Int} {cs : List Cut} {k : Nat} {c : Cut} (h : cs[k]? = some c) : cutSum a ix m (cs.take (k + 1)) = cutSum a ix m (cs.take k) + (if mat a ix m c then c.less else 0) := by
  rw [List.take_add_one, h, Option.toList_some, cutSum_app]; simp [cutSum]
theorem cutsAt_of {l : List Nd} {x : Int} {n : Nd} (h : l[x.toNat]? = some n) : cutsAt l x = n.cuts.l := by simp [cutsAt, h]
theorem less_bd {l : List Nd} (T : Tree l) {leaf : Int} {p q : List Int} (h : way l leaf = p ++ q) (a : Bool) (ix m : Int) : 0 ≤ waySum l a ix m p ∧ waySum l a ix m p ≤ 4096 * 33 := by
  have h1 := way_len l leaf
  have h2 := T.waySum_le a ix m p
  rw [h, List.length_append] at h1
  omega
set_option maxHeartbeats 3200000 in
set_option maxRecDepth 100000 in
theorem rless_any (A : Option Addr) (c : Nat) (l : List Nd) (leaf : Int) (a : Bool) (ix m : Int) (w : World) (ha : TOk w A l) : Calls Try.prog 23 #[.slice A l.length c, .int .i64 leaf, .bool a, .int .i64 ix, .int .i64 m] w (RetI w (lessR l leaf a ix m)) := by
  cases hv : vld l
  · have HV := Lib.hid hv
    have HR : Hid (lessR l leaf a ix m = (0, 180)) := by simp [Hid, lessR, hv]
    clear hv
    go_enter Try.func23, Try.ntmps23
    go_wp2_with fail
    refine (rcheck_at 180 (chk_no HV.out) rfl ha).mono ?_
    rintro e w1 ⟨rfl, B1⟩
    go_wp2_with fail
    go_ret2
    rw [HR.out]; exact ⟨rfl, B1⟩
  have T := tree_of hv
  have h32 := T.hi
  have HV := Lib.hid hv
  cases hlf : leafB l leaf
  · have HLF := Lib.hid hlf
    have HR : Hid (lessR l leaf a ix m = (0, 180)) := by simp [Hid, lessR, hlf]
    clear hv T hlf
    go_enter Try.func23, Try.ntmps23
    go_wp2_with fail
    refine (rcheck_at 0 (chk_yes HV.out) rfl ha).mono ?_
    rintro e w1 ⟨rfl, B1⟩
    go_wp2_with fail
    refine (risleaf_at false HLF.out rfl (ha.ext B1).nd (by omega)).mono ?_
    rintro e w2 ⟨rfl, rfl⟩
    go_wp2_with fail
    go_ret2
    rw [HR.out]; exact ⟨rfl, B1⟩
  have HLF := Lib.hid hlf
  obtain ⟨lf0, lf1, _⟩ := (leafB_iff l leaf).1 hlf
  have HR : Hid (lessR l leaf a ix m = (waySum l a ix m (way l leaf), 0)) := by simp [Hid, lessR, lessN, hv, hlf]
  have HT := Lib.hid T
  obtain ⟨nd0, bb, oo, _, rfl, _, _⟩ := ha.nd.at_ (k := 0) (by have := T.lo; omega)
  clear hv T hlf
  go_enter Try.func23, Try.ntmps23
  go_wp2_with fail
  refine (rcheck_at 0 (chk_yes HV.out) rfl ha).mono ?_
  rintro e w1 ⟨rfl, B1⟩
  go_wp2_with fail
  refine (risleaf_at true HLF.out rfl (ha.ext B1).nd (by omega)).mono ?_
  rintro e w2 ⟨rfl, rfl⟩
  have HA := ha.ext B1
  clear ha
  go_wp2_with fail
  go_loopw [12, 13] (fun s i wr => ∃ (x : Int) (pre : List Int) (q : Int), -1 ≤ x ∧ x < l.length ∧ i = .int .i64 x ∧ s = .int .i64 q ∧ Hid (q = waySum l a ix m pre) ∧ Hid (way l leaf = pre ++ way l x) ∧ Below w1.heap.size w1 wr) (fun _ i _ => (intOf i + 1).toNat)
  case atStart => exact ⟨leaf, [], 0, by omega, lf1, rfl, rfl, rfl, rfl, ext_refl _⟩
  case round =>
    obtain ⟨x, pre, q, x0, x1, rfl, rfl, HQ, HX, hB⟩ := hrel
    by_cases hx0 : 0 ≤ x
    rotate_left
    · have hn := way_neg (l := l) (n := x) (by omega)
      rw [hn, List.append_nil] at HX
      clear hn
      go_wp2_with fail
      go_ret2
      rw [HR.out, HX.out, ← HQ.out]; exact ⟨rfl, ext_trans B1 hB⟩
    obtain ⟨nd, b1, o1, hx, hA, hbb, hc⟩ := (HA.ext hB).nd.at_ (k := x.toNat) (by omega)
    cases hA
    have hp := par_at hx
    have hpl := HT.out.par_lt (i := x.toNat) (by omega)
    rw [hp] at hpl
    have hcu := cutsAt_of hx
    have HC := Lib.hid ((HA.ext hB).ct nd (List.mem_of_getElem? hx))
    have hcl := (HT.out.nd _ _ hx).many
    have HP := Lib.hid hp
    have HCU := Lib.hid hcu
    have HCS := Lib.hid (fun k => HT.out.cutSum_le (y := x) a ix m k)
    have hbd := less_bd HT.out HX.out a ix m
    rw [← HQ.out] at hbd
    have HND := Lib.hid hx
    have g1 : x < l.length := x1
    clear hx hp hcu hc
    obtain ⟨wo, rfl⟩ : ∃ wo, wo = wr := ⟨_, rfl⟩
    go_wp2_with fail
    go_loopw [12, 14] (fun s i wr => ∃ (k : Nat) (z : Int), k ≤ nd.cuts.l.length ∧ i = .int .i64 k ∧ s = .int .i64 z ∧ Hid (z = q + cutSum a ix m (nd.cuts.l.take k)) ∧ Below wo.heap.size wo wr) (fun _ i _ => nd.cuts.l.length - (intOf i).toNat)
    case atStart => exact ⟨0, q, Nat.zero_le _, rfl, rfl, by simp [Hid, cutSum], ext_refl _⟩
    case round =>
      obtain ⟨k, z, hk, rfl, rfl, HZ, hBo⟩ := hrel
      obtain ⟨nd', b2, o2, hx', hA', hb2, hc'⟩ := ((HA.ext hB).ext hBo).nd.at_ (k := x.toNat) (by omega)
      obtain rfl : nd = nd' := Option.some.inj (HND.out.symm.trans hx')
      have d0 := hc' 0 _ rfl
      have d2 := hc' 2 _ rfl
      simp only [Nat.add_zero] at d0
      cases hA'
      clear hx' hc' hb2
      have hzb := HCS.out k
      rw [HCU.out] at hzb
      have hz := HZ.out
      by_cases hlt : k < nd.cuts.l.length
      rotate_left
      · have HQ2 : Hid (z = waySum l a ix m (pre ++ [x])) := by
          rw [List.take_of_length_le (by omega)] at hz
          rw [Hid, hz, HQ.out, waySum_app]; simp [waySum, HCU.out]
        have HX2 : Hid (way l leaf = (pre ++ [x]) ++ way l nd.p) := by
          rw [Hid, HX.out, HT.out.way_cons hx0 x1, HP.out]; simp
        clear hz hzb
        go_wp2_with fail
        go_roundw
        case rel => exact ⟨nd.p, pre ++ [x], z, by omega, by omega, rfl, rfl, HQ2, HX2, ext_trans hB hBo⟩
        case measure => simp [intOf]; omega
      obtain ⟨cu, b4, o4, hcu, hA4, hb4, hcc⟩ := (HC.out.ext hBo).at_ hlt
      have u0 := hcc 0 _ rfl
      have u1 := hcc 1 _ rfl
      have u2 := hcc 2 _ rfl
      have u3 := hcc 3 _ rfl
      have u4 := hcc 4 _ rfl
      simp only [Nat.add_zero] at u0
      have HST := Lib.hid (cutSum_take (a := a) (ix := ix) (m := m) hcu)
      have hle := badC_no ((HT.out.nd _ _ HND.out).cut cu (List.mem_of_getElem? hcu))
      obtain ⟨_, _, _, l0, l1⟩ := hle
      have hlt' : (k : Int) < nd.cuts.l.length := by omega
      have hz2 : 0 ≤ z ∧ z ≤ 1000000 := by omega
      obtain ⟨z0, z1⟩ := hz2
      rw [hA4] at d2
      clear hcu hcc hz hzb
      obtain ⟨t1, ht1⟩ : ∃ t, (cu.air == a) = t := ⟨_, rfl⟩
      cases t1
      · have HM : Hid (mat a ix m cu = false) := by simp [Hid, mat, ht1]
        go_wp2_with fail
        go_roundw
        case rel => exact ⟨k + 1, z, hlt, by go_num, rfl, by unfold Hid; rw [HST.out, HM.out, HZ.out]; simp, ext_alloc hBo _⟩
        case measure => simp [intOf]; omega
      by_cases ht2 : cu.ix = ix
      rotate_left
      · have HM : Hid (mat a ix m cu = false) := by simp [Hid, mat, ht2]
        have e2 : (cu.ix == ix) = false := by simpa using ht2
        clear ht2
        go_wp2_with fail
        go_roundw
        case rel => exact ⟨k + 1, z, hlt, by go_num, rfl, by unfold Hid; rw [HST.out, HM.out, HZ.out]; simp, ext_alloc hBo _⟩
        case measure => simp [intOf]; omega
      have e2 : (cu.ix == ix) = true := by simpa using ht2
      by_cases ht3 : cu.f ≤ m
      rotate_left
      · have HM : Hid (mat a ix m cu = false) := by simp [Hid, mat, ht3]
        clear ht2
        go_wp2_with fail
        go_roundw
        case rel => exact ⟨k + 1, z, hlt, by go_num, rfl, by unfold Hid; rw [HST.out, HM.out, HZ.out]; simp, ext_alloc hBo _⟩
        case measure => simp [intOf]; omega
      by_cases ht4 : m < cu.t
      rotate_left
      · have HM : Hid (mat a ix m cu = false) := by simp [Hid, mat, ht4]
        clear ht2
        go_wp2_with fail
        go_roundw
        case rel => exact ⟨k + 1, z, hlt, by go_num, rfl, by unfold Hid; rw [HST.out, HM.out, HZ.out]; simp, ext_alloc hBo _⟩
        case measure => simp [intOf]; omega
      have HM : Hid (mat a ix m cu = true) := by simp [Hid, mat, ht1, ht2, ht3, ht4]
      clear ht2
      go_wp2_with fail
      go_roundw
      case rel => exact ⟨k + 1, z + cu.less, hlt, by go_num, rfl, by unfold Hid; rw [HST.out, HM.out, HZ.out]; simp [Int.add_assoc], ext_alloc hBo _⟩
      case measure => simp [intOf]; omega
end Go.Proofs.Ytemdebheinbolaa
