import Derived.Test.YtjebmcbpiobbaaaI
import Derived.Test.YtjebmcbpiobbaaaValid
import Derived.IntWalk
namespace Go.Proofs.Ytjebmcbpiobbaaa
open Go.RowKit

theorem chkE_not {l : List Clr} {k : Nat} {x : Clr} (hx : l[k]? = some x) (h : ¬ Gd l k x) : chkE l = 340 := by
  simp [chkE, chk_not (fun hv => h (hv k x hx))]
theorem chkE_all {l : List Clr} {k : Nat} (hk : l.length ≤ k) (h : ∀ i x, i < k → l[i]? = some x → Gd l i x) : chkE l = 0 := by
  have : chk l = true := (chk_iff l).2 (fun i x hx => h i x (by have := (List.getElem?_eq_some_iff.1 hx).1; omega) hx)
  simp [chkE, this]

/-- The tests on one clearance alone. -/
def lone (k : Nat) (x : Clr) : Prop := x.no = k ∧ 0 ≤ x.fl ∧ x.fl ≤ 4095 ∧ 0 ≤ x.iss ∧ x.iss < 1440 ∧ fmd x.o = true ∧ (x.rd && x.wd) = false
theorem lone_of {l : List Clr} {k : Nat} {x : Clr} (g : Gd l k x) : lone k x := ⟨g.no, g.fl0, g.fl1, g.is0, g.is1, g.fm, g.rw_⟩
theorem one_step {l : List Clr} {q : Nat} {x z : Clr} (h : ∀ i y, i < q → l[i]? = some y → y.fl = x.fl → y.wd = false → x.wd = true) (hz : l[q]? = some z) (hn : z.fl ≠ x.fl ∨ z.wd = true) : ∀ i y, i < q + 1 → l[i]? = some y → y.fl = x.fl → y.wd = false → x.wd = true := by
  intro i y hi hy h1 h2
  rcases Nat.lt_or_ge i q with h3 | h3
  · exact h i y h3 hy h1 h2
  · obtain rfl : i = q := by omega
    rw [hz] at hy; cases hy
    rcases hn with hn | hn
    · exact absurd h1 hn
    · rw [hn] at h2; cases h2
theorem gd_step {l : List Clr} {k q : Nat} {x : Clr} (h : ∀ i x, i < k → l[i]? = some x → Gd l i x) (hx : l[k]? = some x) (hL : lone k x) (hM : ∀ y, 0 < k → l[k - 1]? = some y → y.iss ≤ x.iss) (hI : ∀ i y, i < q → l[i]? = some y → y.fl = x.fl → y.wd = false → x.wd = true) (hq : k ≤ q) : ∀ i x, i < k + 1 → l[i]? = some x → Gd l i x := by
  intro i z hi hz
  rcases Nat.lt_or_ge i k with h3 | h3
  · exact h i z h3 hz
  · obtain rfl : i = k := by omega
    rw [hx] at hz; cases hz
    obtain ⟨h1, h2, h3, h4, h5, h6, h7⟩ := hL
    exact ⟨h1, h2, h3, h4, h5, h6, h7, hM, fun j y hj => hI j y (by omega)⟩
set_option maxRecDepth 100000 in
set_option maxHeartbeats 8000000 in
theorem rcheck_any (A : Option Addr) (c : Nat) (l : List Clr) (w : World) (ha : Slc w Clr.cells 9 A l) (hn : l.length < 1048576) :
    Calls Try.prog 18 #[.slice A l.length c] w fun e w' => e = .returned (.int .i64 (chkE l)) ∧ Below w.heap.size w w' := by
  go_enter Try.func18, Try.ntmps18
  go_wp2
  go_loopw [3] (fun i wr => ∃ (k : Nat), k ≤ l.length ∧ i = .int .i64 k ∧ Hid (∀ i x, i < k → l[i]? = some x → Gd l i x) ∧ Below w.heap.size w wr) (fun i _ => l.length - (intOf i).toNat)
  case atStart => exact ⟨0, Nat.zero_le _, rfl, (fun i x h => absurd h (Nat.not_lt_zero _)), ext_refl _⟩
  case round =>
    obtain ⟨k, hk, rfl, HG, hbe⟩ := hrel
    by_cases hlt : k < l.length
    · obtain ⟨x, b1, o1, hx, rfl, hb1, hc⟩ := (ha.ext hbe).at_ hlt
      have HX := Lib.hid hx
      clear hx
      obtain ⟨c0, c1, c2, c3, c4, c5, c6, c7, c8⟩ := Clr.at9 hc
      clear hc
      have hi1 : (k : Int) < (l.length : Int) := by omega
      by_cases hq : x.no = k ∧ 0 ≤ x.fl ∧ x.fl ≤ 4095 ∧ 0 ≤ x.iss ∧ x.iss < 1440
      · obtain ⟨q1, q2, q3, q4, q5⟩ := hq
        have q1' : (x.no != (k : Int)) = false := by simp [q1]
        have HQ := Lib.hid q1
        clear q1
        cases hf : fmd x.o
        · go_wp2_with fail
          refine (rformed_any x.o _).mono ?_
          rintro e w1 ⟨rfl, hb2⟩
          obtain ⟨hcc, hff⟩ := bcell hb2
          go_wp2_with fail
          go_ret
          exact ⟨ret_int (chkE_not HX.out (fun g => by have := g.fm; rw [hf] at this; cases this)).symm, ext_trans (ext_alloc hbe _) hb2⟩
        · by_cases hrw : (x.rd && x.wd) = true
          · obtain ⟨hr, hw⟩ := Bool.and_eq_true_iff.1 hrw
            clear hrw
            go_wp2_with fail
            refine (rformed_any x.o _).mono ?_
            rintro e w1 ⟨rfl, hb2⟩
            obtain ⟨hcc, hff⟩ := bcell hb2
            have hs1 := hb2.size
            go_wp2_with fail
            go_ret
            exact ⟨ret_int (chkE_not HX.out (fun g => by have := g.rw_; simp [hr, hw] at this)).symm, ext_trans (ext_alloc hbe _) hb2⟩
          · have HL : Hid (lone k x) := ⟨HQ.out, q2, q3, q4, q5, hf, by simpa using hrw⟩
            have hcas : (x.rd = false ∧ x.wd = false) ∨ (x.rd = false ∧ x.wd = true) ∨ (x.rd = true ∧ x.wd = false) := by
              cases h1 : x.rd <;> cases h2 : x.wd <;> simp [h1, h2] at hrw ⊢
            clear hrw
            rcases hcas with ⟨hr, hw⟩ | ⟨hr, hw⟩ | ⟨hr, hw⟩
            all_goals
              go_wp2_with fail
              refine (rformed_any x.o _).mono ?_
              rintro e w1 ⟨rfl, hb2⟩
              obtain ⟨hcc, hff⟩ := bcell hb2
              have hs1 := hb2.size
              go_wp2_with fail
              have d1 : w1.cell? ⟨wr.heap.size, 1, none⟩ = some (.int .i64 x.fl) := by rw [hcc _ _ (by simp)]; simp
              have d2 : w1.cell? ⟨wr.heap.size, 2, none⟩ = some (.int .i64 x.iss) := by rw [hcc _ _ (by simp)]; simp
              have d8 : w1.cell? ⟨wr.heap.size, 8, none⟩ = some (.bool x.wd) := by rw [hcc _ _ (by simp)]; simp [hw]
              have hB1 : Below w.heap.size w w1 := ext_trans (ext_alloc hbe _) hb2
              have hlt1 : wr.heap.size < w1.heap.size := by simp at hs1; omega
              clear hcc hff hb2 hs1 c0 c1 c2 c3 c4 c5 c6 c7 c8
              obtain ⟨wo, rfl⟩ : ∃ wo : World, wo = wr := ⟨_, rfl⟩
              by_cases hk0 : 0 < k
              · obtain ⟨m, hm⟩ : ∃ m, m = k - 1 := ⟨_, rfl⟩
                obtain ⟨y, b3, o3, hy, e3, hb3, hc3⟩ := (ha.ext hB1).at_ (show m < l.length by omega)
                cases e3
                have e2 := hc3 2 _ rfl
                have HY : Hid (l[k - 1]? = some y) := by rw [← hm]; exact hy
                have hi0 : IntKind.i64.wrap ((k : Int) - 1) = (m : Int) := by rw [IntWalk.i64_in _ (by omega)]; omega
                have hml : (m : Int) < l.length := by omega
                clear hy hc3 hm
                go_quiet (fail)
                clear hi0
                go_wp2_with fail
                all_goals first
                  | (have hlt9 : x.iss < y.iss := by assumption
                     go_ret
                     exact ⟨ret_int (chkE_not HX.out (fun g => by have := g.mono y hk0 HY.out; omega)).symm, ext_drewN hB1 _⟩)
                  | skip
                have hle9 : y.iss ≤ x.iss := by assumption
                have HM : Hid (∀ y, 0 < k → l[k - 1]? = some y → y.iss ≤ x.iss) := fun z _ hz => by rw [HY.out] at hz; cases hz; exact hle9
                go_loopw [5] (fun jv W => ∃ q : Nat, q ≤ k ∧ jv = .int .i64 q ∧ Hid (∀ i y, i < q → l[i]? = some y → y.fl = x.fl → y.wd = false → x.wd = true) ∧ Below w1.heap.size w1 W) (fun jv _ => k - (intOf jv).toNat)
                case atStart => exact ⟨0, Nat.zero_le _, rfl, (fun i y h => absurd h (Nat.not_lt_zero _)), ext_drewN (ext_refl _) _⟩
                case round =>
                  obtain ⟨q, hq, rfl, HI, hbW⟩ := hrel
                  have f1 := (hbW.cell (p := ⟨wo.heap.size, 1, none⟩) hlt1).trans d1
                  have f8 := (hbW.cell (p := ⟨wo.heap.size, 8, none⟩) hlt1).trans d8
                  by_cases hqk : q < k
                  · have hqk' : (q : Int) < (k : Int) := by omega
                    have hql' : (q : Int) < (l.length : Int) := by omega
                    obtain ⟨z, b4, o4, hz, e4, hb4, hc4⟩ := (ha.ext (ext_trans hB1 hbW)).at_ (show q < l.length by omega)
                    cases e4
                    have g1 := hc4 1 _ rfl
                    have g8 := hc4 8 _ rfl
                    have HZ := Lib.hid hz
                    clear hz hc4
                    by_cases hfl : z.fl = x.fl
                    · have hfl' : (z.fl == x.fl) = true := by simp [hfl]
                      have HF := Lib.hid hfl
                      clear hfl
                      cases hzw : z.wd
                      · go_wp2_with fail
                        go_quiet (fail)
                        go_wp2_with fail
                        all_goals first
                          | (go_ret; exact ⟨ret_int (chkE_not HX.out (fun g => by have := g.one q z hqk HZ.out HF.out hzw; rw [hw] at this; cases this)).symm, ext_drewN (ext_trans hB1 hbW) _⟩)
                          | skip
                        all_goals
                          go_roundw
                          case rel => exact ⟨q + 1, hqk, by go_num, (fun i y hi hy h1 h2 => hw), ext_drewN hbW _⟩
                          case measure => simp [intOf]; omega
                      · go_wp2_with fail
                        go_quiet (fail)
                        go_wp2_with fail
                        go_roundw
                        case rel => exact ⟨q + 1, hqk, by go_num, one_step HI.out HZ.out (.inr hzw), ext_drewN hbW _⟩
                        case measure => simp [intOf]; omega
                    · have hfl' : (z.fl == x.fl) = false := by simp [hfl]
                      have HF := Lib.hid hfl
                      clear hfl
                      go_wp2_with fail
                      go_quiet (fail)
                      go_wp2_with fail
                      go_roundw
                      case rel => exact ⟨q + 1, hqk, by go_num, one_step HI.out HZ.out (.inl HF.out), ext_drewN hbW _⟩
                      case measure => simp [intOf]; omega
                  · go_wp2_with fail
                    go_roundw
                    case rel => exact ⟨k + 1, hlt, by go_num, gd_step HG.out HX.out HL.out HM.out HI.out (by omega), ext_trans hB1 hbW⟩
                    case measure => simp [intOf]; omega
              · have hd0 : decide ((0 : Int) < (k : Int)) = false := by simpa using hk0
                have hd1 : decide (0 < k) = false := by simpa using hk0
                go_quiet (fail)
                go_wp2_with fail
                have HM : Hid (∀ y, 0 < k → l[k - 1]? = some y → y.iss ≤ x.iss) := fun z h _ => absurd h hk0
                go_loopw [5] (fun jv W => ∃ q : Nat, q ≤ k ∧ jv = .int .i64 q ∧ Hid (∀ i y, i < q → l[i]? = some y → y.fl = x.fl → y.wd = false → x.wd = true) ∧ Below w1.heap.size w1 W) (fun jv _ => k - (intOf jv).toNat)
                case atStart => exact ⟨0, Nat.zero_le _, rfl, (fun i y h => absurd h (Nat.not_lt_zero _)), ext_drewN (ext_refl _) _⟩
                case round =>
                  obtain ⟨q, hq, rfl, HI, hbW⟩ := hrel
                  have f1 := (hbW.cell (p := ⟨wo.heap.size, 1, none⟩) hlt1).trans d1
                  have f8 := (hbW.cell (p := ⟨wo.heap.size, 8, none⟩) hlt1).trans d8
                  by_cases hqk : q < k
                  · have hqk' : (q : Int) < (k : Int) := by omega
                    have hql' : (q : Int) < (l.length : Int) := by omega
                    obtain ⟨z, b4, o4, hz, e4, hb4, hc4⟩ := (ha.ext (ext_trans hB1 hbW)).at_ (show q < l.length by omega)
                    cases e4
                    have g1 := hc4 1 _ rfl
                    have g8 := hc4 8 _ rfl
                    have HZ := Lib.hid hz
                    clear hz hc4
                    by_cases hfl : z.fl = x.fl
                    · have hfl' : (z.fl == x.fl) = true := by simp [hfl]
                      have HF := Lib.hid hfl
                      clear hfl
                      cases hzw : z.wd
                      · go_wp2_with fail
                        go_quiet (fail)
                        go_wp2_with fail
                        all_goals first
                          | (go_ret; exact ⟨ret_int (chkE_not HX.out (fun g => by have := g.one q z hqk HZ.out HF.out hzw; rw [hw] at this; cases this)).symm, ext_drewN (ext_trans hB1 hbW) _⟩)
                          | skip
                        all_goals
                          go_roundw
                          case rel => exact ⟨q + 1, hqk, by go_num, (fun i y hi hy h1 h2 => hw), ext_drewN hbW _⟩
                          case measure => simp [intOf]; omega
                      · go_wp2_with fail
                        go_quiet (fail)
                        go_wp2_with fail
                        go_roundw
                        case rel => exact ⟨q + 1, hqk, by go_num, one_step HI.out HZ.out (.inr hzw), ext_drewN hbW _⟩
                        case measure => simp [intOf]; omega
                    · have hfl' : (z.fl == x.fl) = false := by simp [hfl]
                      have HF := Lib.hid hfl
                      clear hfl
                      go_wp2_with fail
                      go_quiet (fail)
                      go_wp2_with fail
                      go_roundw
                      case rel => exact ⟨q + 1, hqk, by go_num, one_step HI.out HZ.out (.inl HF.out), ext_drewN hbW _⟩
                      case measure => simp [intOf]; omega
                  · go_wp2_with fail
                    go_roundw
                    case rel => exact ⟨k + 1, hlt, by go_num, gd_step HG.out HX.out HL.out HM.out HI.out (by omega), ext_trans hB1 hbW⟩
                    case measure => simp [intOf]; omega
      · have HN : Hid (¬ Gd l k x) := fun g => hq ⟨g.no, g.fl0, g.fl1, g.is0, g.is1⟩
        go_wp2_with fail
        all_goals first | (exfalso; omega) | skip
        all_goals
          go_ret
          exact ⟨ret_int (chkE_not HX.out HN.out).symm, ext_alloc hbe _⟩
    · go_wp2
      go_ret
      exact ⟨ret_int (chkE_all (by omega) HG.out).symm, hbe⟩
end Go.Proofs.Ytjebmcbpiobbaaa
