/- The reference's test of a node whose parent and From are right; the reference's Check. -/
import Derived.Test.YtemdebheinbolaaC
namespace Go.Proofs.Ytemdebheinbolaa
open Go.RowKit
set_option maxHeartbeats 3200000 in
set_option maxRecDepth 100000 in
theorem isnode_good (A : Option Addr) (c : Nat) (l : List Nd) (i : Nat) (x : Nd) (w : World) (ha : TOk w A l) (hi : i < l.length) (hx : l[i]? = some x) (hP : okP l i x = true) :
    Calls Try.prog 32 #[.slice A l.length c, .int .i64 i] w (RetB w (!clash l i x && !(x.cuts.l.any (badC x.f)) && decide (x.cuts.l.length ≤ 64))) := by
  have hl := ha.len
  have hxl := ha.cl x (List.mem_of_getElem? hx)
  unfold maxLen at hl hxl
  obtain ⟨x', b1, o1, hx', rfl, hb1, hc⟩ := ha.nd.at_ hi
  obtain rfl : x = x' := Option.some.inj (hx.symm.trans hx')
  have c0 := hc 0 _ rfl
  have c1 := hc 1 _ rfl
  have c2 := hc 2 _ rfl
  simp only [Nat.add_zero] at c0
  have hi' : (i : Int) < l.length := by omega
  have HW : Hid (Below w.heap.size w (w.alloc (.cells #[.int .i64 x.p, .int .i64 x.f, .slice x.cuts.A x.cuts.l.length x.cuts.c] 40))) := ext_alloc (ext_refl w) _
  have HBX := BoxN.new w x 40
  have HX := Lib.hid hx
  have HA := ha
  clear ha
  clear hx hx' hc
  have HR : Hid (∀ r, (clash l i x = true → r = false) → (clash l i x = false → x.cuts.l.any (badC x.f) = true → r = false) → (clash l i x = false → x.cuts.l.any (badC x.f) = false → r = decide (x.cuts.l.length ≤ 64)) → r = (!clash l i x && !(x.cuts.l.any (badC x.f)) && decide (x.cuts.l.length ≤ 64))) := by
    intro r h1 h2 h3
    cases k1 : clash l i x
    · cases k2 : x.cuts.l.any (badC x.f)
      · rw [h3 k1 k2]; simp
      · rw [h2 k1 k2]; simp
    · rw [h1 k1]; simp
  rcases Nat.eq_zero_or_pos i with h0 | h0
  · have hP' : x.p = -1 ∧ x.f = 0 := by simpa [okP, h0] using hP
    have e0 : ((i : Int) == 0) = true := by simp [h0]
    have g0 : decide ((0 : Int) < (i : Int)) = false := by simp [h0]
    have g0n : decide (0 < i) = false := by simp [h0]
    have e1 : (x.p != -1) = false := by simp [hP'.1]
    have e2 : (x.f != 0) = false := by simp [hP'.2]
    clear hP hP' h0
    go_enter Try.func32, Try.ntmps32
    go_wp2_with fail
    go_quiet (fail)
    clear e0 g0 g0n e1 e2
    go_wp2_with fail
    go_loopw [6] (fun j wr => ∃ k : Nat, 1 ≤ k ∧ j = .int .i64 k ∧ Hid (noClash l k x) ∧ Below w.heap.size w wr ∧ BoxN wr w.heap.size x) (fun j _ => i - (intOf j).toNat)
    case atStart => exact ⟨1, Nat.le_refl _, rfl, fun j h1 h2 => by omega, ext_drewN HW.out _, HBX.ext (ext_drewN (ext_refl _) _)⟩
    case round =>
      obtain ⟨k, hk, rfl, HNC, hB, hbx⟩ := hrel
      obtain ⟨n0, n1, n2, n3⟩ := hbx
      by_cases hlt : k < i
      · obtain ⟨z, b3, o3, hz, e3, hb3, hcz⟩ := (HA.nd.ext hB).at_ (show k < l.length by omega)
        cases e3
        have z0 := hcz 0 _ rfl
        have z1 := hcz 1 _ rfl
        simp only [Nat.add_zero] at z0
        have HZ := Lib.hid hz
        have k1 : (k : Int) < i := by omega
        have k2 : (k : Int) < l.length := by omega
        clear hz hcz
        by_cases hp : z.p = x.p
        · by_cases hf : z.f = x.f
          · have HH : Hid (noClash l (k + 1) x) := noClash_step HNC.out HZ.out (fun _ => hf)
            have e1 : (z.p == x.p) = true := by simpa using hp
            have e2 : (z.f != x.f) = false := by simpa using hf
            clear hp hf
            go_wp2_with fail
            go_quiet (fail)
            clear e1 e2
            go_wp2_with fail
            go_roundw
            case rel => exact ⟨k + 1, by omega, by go_num, HH, ext_drewN hB _, n0, n1, n2, n3⟩
            case measure => simp [intOf]; omega
          · have HH : Hid (clash l i x = true) := clash_hit hk hlt HZ.out hp hf
            have e1 : (z.p == x.p) = true := by simpa using hp
            have e2 : (z.f != x.f) = true := by simpa using hf
            clear hp hf
            go_wp2_with fail
            go_quiet (fail)
            clear e1 e2
            go_wp2_with fail
            go_ret
            exact ⟨ret_bool (HR.out _ (fun _ => rfl) (fun h => by rw [HH.out] at h; cases h) (fun h => by rw [HH.out] at h; cases h)), ext_drewN hB _⟩
        · have HH : Hid (noClash l (k + 1) x) := noClash_step HNC.out HZ.out (fun e => absurd e hp)
          have e1 : (z.p == x.p) = false := by simpa using hp
          clear hp
          go_wp2_with fail
          go_quiet (fail)
          clear e1
          go_wp2_with fail
          go_roundw
          case rel => exact ⟨k + 1, by omega, by go_num, HH, ext_drewN hB _, n0, n1, n2, n3⟩
          case measure => simp [intOf]; omega
      · have k1 : ¬ (k : Int) < i := by omega
        have HNO : Hid (clash l i x = false) := noClash_end (fun j h1 h2 => HNC.out j h1 (by omega))
        have HBo := Lib.hid hB
        obtain ⟨wo, rfl⟩ : ∃ wo, wo = wr := ⟨_, rfl⟩
        have HBX2 : BoxN wo w.heap.size x := ⟨n0, n1, n2, n3⟩
        clear hB HBX
        go_wp2_with fail
        go_loopw [7] (fun j wr => ∃ q : Nat, q ≤ x.cuts.l.length ∧ j = .int .i64 q ∧ Hid ((x.cuts.l.take q).any (badC x.f) = false) ∧ Below wo.heap.size wo wr) (fun j _ => x.cuts.l.length - (intOf j).toNat)
        case atStart => exact ⟨0, Nat.zero_le _, rfl, by simp [Hid], ext_refl _⟩
        case round =>
          obtain ⟨q, hq, rfl, HT, hBq⟩ := hrel
          clear n0 n1 n2 n3
          obtain ⟨n0, n1, n2, n3⟩ := HBX2.ext hBq
          by_cases hlq : q < x.cuts.l.length
          · obtain ⟨cu, b4, o4, hcu, e4, hb4, hcc⟩ := (((HA.ct x (List.mem_of_getElem? HX.out)).ext HBo.out).ext hBq).at_ hlq
            have u0 := hcc 0 _ rfl
            have u1 := hcc 1 _ rfl
            have u2 := hcc 2 _ rfl
            have u3 := hcc 3 _ rfl
            have u4 := hcc 4 _ rfl
            simp only [Nat.add_zero] at u0
            have HCU := Lib.hid hcu
            have k2 : (q : Int) < x.cuts.l.length := by omega
            rw [e4] at n3
            have HE4 := Lib.hid e4
            clear hcu hcc e4
            have SS : ∀ w', Below wr.heap.size wr w' → (fun w' : World => w'.cell? ⟨w.heap.size, 1, none⟩ = some (.int .i64 x.f) ∧ w'.cell? ⟨w.heap.size, 2, none⟩ = some (.slice (some ⟨b4, o4, none⟩) x.cuts.l.length x.cuts.c) ∧ w'.cell? ⟨b4, o4 + q * 5, none⟩ = some (.bool cu.air) ∧ w'.cell? ⟨b4, o4 + q * 5 + 1, none⟩ = some (.int .i64 cu.ix) ∧ w'.cell? ⟨b4, o4 + q * 5 + 2, none⟩ = some (.int .i64 cu.f) ∧ w'.cell? ⟨b4, o4 + q * 5 + 3, none⟩ = some (.int .i64 cu.t) ∧ w'.cell? ⟨b4, o4 + q * 5 + 4, none⟩ = some (.int .i64 cu.less)) w' := fun w' bw =>
              ⟨(bw.cell (p := ⟨w.heap.size, 1, none⟩) n0).trans n2, (bw.cell (p := ⟨w.heap.size, 2, none⟩) n0).trans n3, (bw.cell (p := ⟨b4, _, none⟩) hb4).trans u0, (bw.cell (p := ⟨b4, _, none⟩) hb4).trans u1, (bw.cell (p := ⟨b4, _, none⟩) hb4).trans u2, (bw.cell (p := ⟨b4, _, none⟩) hb4).trans u3, (bw.cell (p := ⟨b4, _, none⟩) hb4).trans u4⟩
            obtain ⟨r, hr⟩ : ∃ r, (!badC x.f cu) = r := ⟨_, rfl⟩
            have HRR := Lib.hid hr
            clear hr
            cases r
            all_goals
              go_wp2_with fail
              go_region_held3 (fun w' => w'.cell? ⟨w.heap.size, 1, none⟩ = some (.int .i64 x.f) ∧ w'.cell? ⟨w.heap.size, 2, none⟩ = some (.slice (some ⟨b4, o4, none⟩) x.cuts.l.length x.cuts.c) ∧ w'.cell? ⟨b4, o4 + q * 5, none⟩ = some (.bool cu.air) ∧ w'.cell? ⟨b4, o4 + q * 5 + 1, none⟩ = some (.int .i64 cu.ix) ∧ w'.cell? ⟨b4, o4 + q * 5 + 2, none⟩ = some (.int .i64 cu.f) ∧ w'.cell? ⟨b4, o4 + q * 5 + 3, none⟩ = some (.int .i64 cu.t) ∧ w'.cell? ⟨b4, o4 + q * 5 + 4, none⟩ = some (.int .i64 cu.less)) (first | exact SS _ BW7 | go_keep)
                ((go_at_call 41; refine (iscut_at _ HRR.out).mono ?_; rintro e w7 ⟨rfl, B7⟩; have BW7 : Below wr.heap.size wr w7 := ext_trans (ext_drew (ext_refl wr)) B7))
              clear SS
              go_wp2_with fail
            · go_ret
              have hbad : badC x.f cu = true := by simpa using HRR.out
              exact ⟨ret_bool (HR.out _ (fun _ => rfl) (fun _ _ => rfl) (fun _ h => by rw [any_hit HCU.out hbad] at h; cases h)), ext_trans HBo.out (ext_trans hBq BW7)⟩
            · go_roundw
              case rel => exact ⟨q + 1, by omega, by go_num, any_take HT.out HCU.out (by simpa using HRR.out), ext_trans hBq BW7⟩
              case measure => simp [intOf]; omega
          · have hall : Hid (x.cuts.l.any (badC x.f) = false) := any_end HT.out (by omega)
            have k2 : ¬ (q : Int) < x.cuts.l.length := by omega
            go_wp2_with fail
            go_ret
            exact ⟨ret_bool (HR.out _ (fun h => by rw [HNO.out] at h; cases h) (fun _ h => by rw [hall.out] at h; cases h) (fun _ _ => by rw [decide_eq_decide]; omega)), ext_trans HBo.out hBq⟩
  · have hP' : 0 ≤ x.p ∧ x.p < i ∧ frm l x.p.toNat < x.f ∧ x.f < 1440 := by
      have := hP
      simp only [okP, if_neg (Nat.ne_of_gt h0), Bool.and_eq_true, decide_eq_true_eq] at this
      exact ⟨this.1.1.1, this.1.1.2, this.1.2, this.2⟩
    have e0 : ((i : Int) == 0) = false := by simp; omega
    have g0 : decide ((0 : Int) < (i : Int)) = true := by simp; omega
    obtain ⟨q, hq⟩ : ∃ q : Nat, x.p = q := ⟨x.p.toNat, by omega⟩
    obtain ⟨y, b2, o2, hy, e2, hb2, hcy⟩ := HA.nd.at_ (show q < l.length by omega)
    cases e2
    have d1 := hcy 1 _ rfl
    have hfy : frm l x.p.toNat = y.f := by rw [hq, Int.toNat_natCast, frm_at hy]
    rw [hfy] at hP'
    have g1 : decide (x.p < 0) = false := by simp; omega
    have g2 : decide ((i : Int) ≤ x.p) = false := by simp; omega
    have g3 : decide (x.f ≤ y.f) = false := by simp; omega
    have g4 : decide (1440 ≤ x.f) = false := by simp; omega
    have g5 : x.p < l.length := by omega
    have g6 : x.p.toNat = q := by omega
    have g7 : (0 : Int) ≤ x.p := by omega
    have HQ := Lib.hid hq
    clear hq hy hcy hP hfy hP'
    go_enter Try.func32, Try.ntmps32
    go_wp2_with fail
    go_quiet (fail)
    clear e0 g0 g1 g2 g3 g4 g5 g6 g7 d1 h0
    go_wp2_with fail
    go_loopw [6] (fun j wr => ∃ k : Nat, 1 ≤ k ∧ j = .int .i64 k ∧ Hid (noClash l k x) ∧ Below w.heap.size w wr ∧ BoxN wr w.heap.size x) (fun j _ => i - (intOf j).toNat)
    case atStart => exact ⟨1, Nat.le_refl _, rfl, fun j h1 h2 => by omega, ext_drewN HW.out _, HBX.ext (ext_drewN (ext_refl _) _)⟩
    case round =>
      obtain ⟨k, hk, rfl, HNC, hB, hbx⟩ := hrel
      obtain ⟨n0, n1, n2, n3⟩ := hbx
      by_cases hlt : k < i
      · obtain ⟨z, b3, o3, hz, e3, hb3, hcz⟩ := (HA.nd.ext hB).at_ (show k < l.length by omega)
        cases e3
        have z0 := hcz 0 _ rfl
        have z1 := hcz 1 _ rfl
        simp only [Nat.add_zero] at z0
        have HZ := Lib.hid hz
        have k1 : (k : Int) < i := by omega
        have k2 : (k : Int) < l.length := by omega
        clear hz hcz
        by_cases hp : z.p = x.p
        · by_cases hf : z.f = x.f
          · have HH : Hid (noClash l (k + 1) x) := noClash_step HNC.out HZ.out (fun _ => hf)
            have e1 : (z.p == x.p) = true := by simpa using hp
            have e2 : (z.f != x.f) = false := by simpa using hf
            clear hp hf
            go_wp2_with fail
            go_quiet (fail)
            clear e1 e2
            go_wp2_with fail
            go_roundw
            case rel => exact ⟨k + 1, by omega, by go_num, HH, ext_drewN hB _, n0, n1, n2, n3⟩
            case measure => simp [intOf]; omega
          · have HH : Hid (clash l i x = true) := clash_hit hk hlt HZ.out hp hf
            have e1 : (z.p == x.p) = true := by simpa using hp
            have e2 : (z.f != x.f) = true := by simpa using hf
            clear hp hf
            go_wp2_with fail
            go_quiet (fail)
            clear e1 e2
            go_wp2_with fail
            go_ret
            exact ⟨ret_bool (HR.out _ (fun _ => rfl) (fun h => by rw [HH.out] at h; cases h) (fun h => by rw [HH.out] at h; cases h)), ext_drewN hB _⟩
        · have HH : Hid (noClash l (k + 1) x) := noClash_step HNC.out HZ.out (fun e => absurd e hp)
          have e1 : (z.p == x.p) = false := by simpa using hp
          clear hp
          go_wp2_with fail
          go_quiet (fail)
          clear e1
          go_wp2_with fail
          go_roundw
          case rel => exact ⟨k + 1, by omega, by go_num, HH, ext_drewN hB _, n0, n1, n2, n3⟩
          case measure => simp [intOf]; omega
      · have k1 : ¬ (k : Int) < i := by omega
        have HNO : Hid (clash l i x = false) := noClash_end (fun j h1 h2 => HNC.out j h1 (by omega))
        have HBo := Lib.hid hB
        obtain ⟨wo, rfl⟩ : ∃ wo, wo = wr := ⟨_, rfl⟩
        have HBX2 : BoxN wo w.heap.size x := ⟨n0, n1, n2, n3⟩
        clear hB HBX
        go_wp2_with fail
        go_loopw [7] (fun j wr => ∃ q : Nat, q ≤ x.cuts.l.length ∧ j = .int .i64 q ∧ Hid ((x.cuts.l.take q).any (badC x.f) = false) ∧ Below wo.heap.size wo wr) (fun j _ => x.cuts.l.length - (intOf j).toNat)
        case atStart => exact ⟨0, Nat.zero_le _, rfl, by simp [Hid], ext_refl _⟩
        case round =>
          obtain ⟨q, hq, rfl, HT, hBq⟩ := hrel
          clear n0 n1 n2 n3
          obtain ⟨n0, n1, n2, n3⟩ := HBX2.ext hBq
          by_cases hlq : q < x.cuts.l.length
          · obtain ⟨cu, b4, o4, hcu, e4, hb4, hcc⟩ := (((HA.ct x (List.mem_of_getElem? HX.out)).ext HBo.out).ext hBq).at_ hlq
            have u0 := hcc 0 _ rfl
            have u1 := hcc 1 _ rfl
            have u2 := hcc 2 _ rfl
            have u3 := hcc 3 _ rfl
            have u4 := hcc 4 _ rfl
            simp only [Nat.add_zero] at u0
            have HCU := Lib.hid hcu
            have k2 : (q : Int) < x.cuts.l.length := by omega
            rw [e4] at n3
            have HE4 := Lib.hid e4
            clear hcu hcc e4
            have SS : ∀ w', Below wr.heap.size wr w' → (fun w' : World => w'.cell? ⟨w.heap.size, 1, none⟩ = some (.int .i64 x.f) ∧ w'.cell? ⟨w.heap.size, 2, none⟩ = some (.slice (some ⟨b4, o4, none⟩) x.cuts.l.length x.cuts.c) ∧ w'.cell? ⟨b4, o4 + q * 5, none⟩ = some (.bool cu.air) ∧ w'.cell? ⟨b4, o4 + q * 5 + 1, none⟩ = some (.int .i64 cu.ix) ∧ w'.cell? ⟨b4, o4 + q * 5 + 2, none⟩ = some (.int .i64 cu.f) ∧ w'.cell? ⟨b4, o4 + q * 5 + 3, none⟩ = some (.int .i64 cu.t) ∧ w'.cell? ⟨b4, o4 + q * 5 + 4, none⟩ = some (.int .i64 cu.less)) w' := fun w' bw =>
              ⟨(bw.cell (p := ⟨w.heap.size, 1, none⟩) n0).trans n2, (bw.cell (p := ⟨w.heap.size, 2, none⟩) n0).trans n3, (bw.cell (p := ⟨b4, _, none⟩) hb4).trans u0, (bw.cell (p := ⟨b4, _, none⟩) hb4).trans u1, (bw.cell (p := ⟨b4, _, none⟩) hb4).trans u2, (bw.cell (p := ⟨b4, _, none⟩) hb4).trans u3, (bw.cell (p := ⟨b4, _, none⟩) hb4).trans u4⟩
            obtain ⟨r, hr⟩ : ∃ r, (!badC x.f cu) = r := ⟨_, rfl⟩
            have HRR := Lib.hid hr
            clear hr
            cases r
            all_goals
              go_wp2_with fail
              go_region_held3 (fun w' => w'.cell? ⟨w.heap.size, 1, none⟩ = some (.int .i64 x.f) ∧ w'.cell? ⟨w.heap.size, 2, none⟩ = some (.slice (some ⟨b4, o4, none⟩) x.cuts.l.length x.cuts.c) ∧ w'.cell? ⟨b4, o4 + q * 5, none⟩ = some (.bool cu.air) ∧ w'.cell? ⟨b4, o4 + q * 5 + 1, none⟩ = some (.int .i64 cu.ix) ∧ w'.cell? ⟨b4, o4 + q * 5 + 2, none⟩ = some (.int .i64 cu.f) ∧ w'.cell? ⟨b4, o4 + q * 5 + 3, none⟩ = some (.int .i64 cu.t) ∧ w'.cell? ⟨b4, o4 + q * 5 + 4, none⟩ = some (.int .i64 cu.less)) (first | exact SS _ BW7 | go_keep)
                ((go_at_call 41; refine (iscut_at _ HRR.out).mono ?_; rintro e w7 ⟨rfl, B7⟩; have BW7 : Below wr.heap.size wr w7 := ext_trans (ext_drew (ext_refl wr)) B7))
              clear SS
              go_wp2_with fail
            · go_ret
              have hbad : badC x.f cu = true := by simpa using HRR.out
              exact ⟨ret_bool (HR.out _ (fun _ => rfl) (fun _ _ => rfl) (fun _ h => by rw [any_hit HCU.out hbad] at h; cases h)), ext_trans HBo.out (ext_trans hBq BW7)⟩
            · go_roundw
              case rel => exact ⟨q + 1, by omega, by go_num, any_take HT.out HCU.out (by simpa using HRR.out), ext_trans hBq BW7⟩
              case measure => simp [intOf]; omega
          · have hall : Hid (x.cuts.l.any (badC x.f) = false) := any_end HT.out (by omega)
            have k2 : ¬ (q : Int) < x.cuts.l.length := by omega
            go_wp2_with fail
            go_ret
            exact ⟨ret_bool (HR.out _ (fun h => by rw [HNO.out] at h; cases h) (fun _ h => by rw [hall.out] at h; cases h) (fun _ _ => by rw [decide_eq_decide]; omega)), ext_trans HBo.out hBq⟩
end Go.Proofs.Ytemdebheinbolaa
