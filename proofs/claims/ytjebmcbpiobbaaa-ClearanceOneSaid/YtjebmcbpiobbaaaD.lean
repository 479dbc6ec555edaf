import Derived.Test.YtjebmcbpiobbaaaB
import Derived.Test.YtjebmcbpiobbaaaMaps
namespace Go.Proofs.Ytjebmcbpiobbaaa
open Go.RowKit

theorem bcell {W w1 : World} (hb : Below W.heap.size W w1) : (∀ b o, b < W.heap.size → w1.cell? ⟨b, o, none⟩ = W.cell? ⟨b, o, none⟩) ∧ (∀ b o, b < W.heap.size → w1.frozen? ⟨b, o, none⟩ = W.frozen? ⟨b, o, none⟩) :=
  ⟨fun b o h => hb.cell (p := ⟨b, o, none⟩) h, fun b o h => hb.frozen (p := ⟨b, o, none⟩) h⟩
theorem ret_int {a b : Int} (h : a = b) : Ending.returned (.int .i64 a) = .returned (.int .i64 b) := by rw [h]
theorem zero4 (w : World) : (zeroValue 4).run Try.prog w = .ok (.bool false) w := by kernel_rfl

set_option maxHeartbeats 800000 in
theorem check_any (A : Option Addr) (c : Nat) (l : List Clr) (w : World) (ha : Slc w Clr.cells 9 A l) (hn : l.length < 1048576) :
    Calls Try.prog 17 #[.slice A l.length c] w fun e w' => e = .returned (.int .i64 (chkE l)) ∧ Below w.heap.size w w' := by
  have hmm := @run_makeMap Try.prog
  go_enter Try.func17, Try.ntmps17
  go_wp2
  go_loopw [4, 10] (fun la i wr => ∃ (k : Nat) (last : Int) (f : Int → Bool), k ≤ l.length ∧ i = .int .i64 k ∧ la = .int .i64 last ∧ chk l = chkGo k last f (l.drop k) ∧ BMap Try.prog 3 4 wr w.heap.size k f ∧ Below w.heap.size w wr) (fun _ i _ => l.length - (intOf i).toNat)
  case atStart => exact ⟨0, 0, fun _ => false, Nat.zero_le _, rfl, rfl, rfl, BMap.made _, ext_alloc (ext_refl _) _⟩
  case round =>
    obtain ⟨k, last, f, hk, rfl, rfl, heq, hM, hbe⟩ := hrel
    have HE := Lib.hid heq
    clear heq
    by_cases hlt : k < l.length
    · obtain ⟨x, b1, o1, hx, rfl, hb1, hc⟩ := (ha.ext hbe).at_ hlt
      have HX := Lib.hid hx
      clear hx
      obtain ⟨c0, c1, c2, c3, c4, c5, c6, c7, c8⟩ := Clr.at9 hc
      clear hc
      have hi1 : (k : Int) < (l.length : Int) := by omega
      have HD : Hid (l.drop k = x :: l.drop (k + 1)) := drop_at HX.out
      by_cases hq : x.no = k ∧ 0 ≤ x.fl ∧ x.fl ≤ 4095 ∧ last ≤ x.iss ∧ x.iss < 1440
      · obtain ⟨q1, q2, q3, q4, q5⟩ := hq
        have q1' : (x.no != (k : Int)) = false := by simp [q1]
        have hwf : (Lit.int .i64 x.fl).wf = true := WalkArith.wf_i64 (by omega)
        have HQ := Lib.hid q1
        clear q1
        cases hf : fmd x.o
        · go_wp2_with (go_at_call 28; refine (formed_any x.o _).mono ?_; rintro e w1 ⟨rfl, hb2⟩; have hs1 := hb2.size; obtain ⟨hcc, hff⟩ := bcell hb2)
          go_ret
          exact ⟨ret_int (by simp [chkE, HE.out, HD.out, chkGo_bad, bad, hf]), ext_trans (ext_alloc hbe _) hb2⟩
        · have hnb : ∀ (_ : (x.rd && x.wd) = false), bad k last x = false := by
            intro h
            have := HQ.out
            simp [bad, hf] at h ⊢
            exact ⟨⟨⟨⟨⟨this, q2⟩, q3⟩, q4⟩, q5⟩, h⟩
          have HNB := Lib.hid hnb
          clear hnb
          cases hr : x.rd <;> cases hw : x.wd
          · cases hfl : f x.fl
            · go_wp2_with (first | (go_at_call 28; refine (formed_any x.o _).mono ?_; rintro e w1 ⟨rfl, hb2⟩; have hs1 := hb2.size; obtain ⟨hcc, hff⟩ := bcell hb2; have hM1 := (hM.ext (ext_alloc (ext_refl wr) _)).ext hb2; have hlk := hM1.look Try.underlying3 Try.underlying51 Try.underlying4 (zero4 _) x.fl hwf; obtain ⟨w2, hput, hM2, hg2⟩ := hM1.put Try.underlying3 Try.underlying51 Try.underlying4 (by unfold maxLen; omega) x.fl true hwf))
              go_roundw
              case rel =>
                refine ⟨k + 1, x.iss, _, hlt, by go_num, rfl, ?_, hM2, ?_⟩
                · rw [HE.out, HD.out, chkGo_one (HNB.out (by simp [hr])) hw hfl]; simp
                · exact (ext_trans (ext_alloc hbe _) hb2).grown hg2 (ext_trans (ext_alloc hbe _) hb2).size (fun j e => by cases e; exact Nat.le_refl _)
              case measure => simp [intOf]; omega
            · go_wp2_with (first | (go_at_call 28; refine (formed_any x.o _).mono ?_; rintro e w1 ⟨rfl, hb2⟩; have hs1 := hb2.size; obtain ⟨hcc, hff⟩ := bcell hb2; have hM1 := (hM.ext (ext_alloc (ext_refl wr) _)).ext hb2; have hlk := hM1.look Try.underlying3 Try.underlying51 Try.underlying4 (zero4 _) x.fl hwf))
              go_ret
              exact ⟨ret_int (by simp [chkE, HE.out, HD.out, chkGo_two (HNB.out (by simp [hr])) hw hfl]), ext_trans (ext_alloc hbe _) hb2⟩
          · go_wp2_with (first | (go_at_call 28; refine (formed_any x.o _).mono ?_; rintro e w1 ⟨rfl, hb2⟩; have hs1 := hb2.size; obtain ⟨hcc, hff⟩ := bcell hb2))
            go_roundw
            case rel => exact ⟨k + 1, x.iss, f, hlt, by go_num, rfl, by rw [HE.out, HD.out, chkGo_wd (HNB.out (by simp [hr])) hw]; simp, ((hM.ext (ext_alloc (ext_refl wr) _)).ext hb2).mono_ (Nat.le_succ _), ext_trans (ext_alloc hbe _) hb2⟩
            case measure => simp [intOf]; omega
          · cases hfl : f x.fl
            · go_wp2_with (first | (go_at_call 28; refine (formed_any x.o _).mono ?_; rintro e w1 ⟨rfl, hb2⟩; have hs1 := hb2.size; obtain ⟨hcc, hff⟩ := bcell hb2; have hM1 := (hM.ext (ext_alloc (ext_refl wr) _)).ext hb2; have hlk := hM1.look Try.underlying3 Try.underlying51 Try.underlying4 (zero4 _) x.fl hwf; obtain ⟨w2, hput, hM2, hg2⟩ := hM1.put Try.underlying3 Try.underlying51 Try.underlying4 (by unfold maxLen; omega) x.fl true hwf))
              go_roundw
              case rel =>
                refine ⟨k + 1, x.iss, _, hlt, by go_num, rfl, ?_, hM2, ?_⟩
                · rw [HE.out, HD.out, chkGo_one (HNB.out (by simp [hw])) hw hfl]; simp
                · exact (ext_trans (ext_alloc hbe _) hb2).grown hg2 (ext_trans (ext_alloc hbe _) hb2).size (fun j e => by cases e; exact Nat.le_refl _)
              case measure => simp [intOf]; omega
            · go_wp2_with (first | (go_at_call 28; refine (formed_any x.o _).mono ?_; rintro e w1 ⟨rfl, hb2⟩; have hs1 := hb2.size; obtain ⟨hcc, hff⟩ := bcell hb2; have hM1 := (hM.ext (ext_alloc (ext_refl wr) _)).ext hb2; have hlk := hM1.look Try.underlying3 Try.underlying51 Try.underlying4 (zero4 _) x.fl hwf))
              go_ret
              exact ⟨ret_int (by simp [chkE, HE.out, HD.out, chkGo_two (HNB.out (by simp [hw])) hw hfl]), ext_trans (ext_alloc hbe _) hb2⟩
          · go_wp2_with (first | (go_at_call 28; refine (formed_any x.o _).mono ?_; rintro e w1 ⟨rfl, hb2⟩; have hs1 := hb2.size; obtain ⟨hcc, hff⟩ := bcell hb2))
            go_ret
            exact ⟨ret_int (by simp [chkE, HE.out, HD.out, chkGo_bad, bad, hf, hr, hw]), ext_trans (ext_alloc hbe _) hb2⟩
      · go_wp2_with fail
        all_goals first | (exfalso; omega) | skip
        all_goals
          go_ret
          refine ⟨ret_int ?_, ext_alloc hbe _⟩
          have hbad : bad k last x = true := by
            simp only [bad, Bool.or_eq_true, decide_eq_true_eq]; omega
          simp [chkE, HE.out, HD.out, chkGo_bad hbad]
    · go_wp2
      go_ret
      refine ⟨ret_int ?_, hbe⟩
      simp [chkE, HE.out, List.drop_eq_nil_of_le (show l.length ≤ k by omega), chkGo]
end Go.Proofs.Ytjebmcbpiobbaaa
