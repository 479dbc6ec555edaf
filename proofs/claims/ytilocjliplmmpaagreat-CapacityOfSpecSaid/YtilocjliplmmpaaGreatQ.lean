/- Few14. -/
import Derived.Test.YtilocjliplmmpaaGreatOP
set_option linter.unusedSimpArgs false
set_option linter.unusedVariables false
namespace Go.Proofs.YtilocjliplmmpaaGreat
open Go.RowKit
set_option maxRecDepth 100000 in
set_option maxHeartbeats 16000000 in
theorem few14_any (t : Tab) (w : World) (ht : Tab.ok w t) : Calls Tryz.prog 6 #[t.v] w (FewR w (t.n ≤ 6 ∧ FewT t.ss.l t.cs.l)) := by
  obtain ⟨W, hW⟩ : ∃ W, w.alloc (.cells #[.int .i64 t.n, .slice t.ss.A t.ss.l.length t.ss.c, .slice t.cs.A t.cs.l.length t.cs.c, .slice t.ws.A t.ws.l.length t.ws.c, .slice t.ms.A t.ms.l.length t.ms.c, .slice t.ks.A t.ks.l.length t.ks.c] 28) = W := ⟨_, rfl⟩
  have HB : Hid (Blk W w.heap.size t.cells) := by rw [← hW]; exact Blk.newH w t.cells 28 w.heap.size rfl
  have HE : Hid (Below w.heap.size w W) := by rw [← hW]; exact ext_alloc (ext_refl w) _
  have HT := Lib.hid (ht.ext HE.out)
  have b0 := HB.out.c 0 _ rfl
  have b1 := HB.out.c 1 _ rfl
  have b2 := HB.out.c 2 _ rfl
  have b3 := HB.out.c 3 _ rfl
  have b4 := HB.out.c 4 _ rfl
  have b5 := HB.out.c 5 _ rfl
  have bl := HB.out.lt
  have hlw := HT.out.2.2.1.len
  have hlm := HT.out.2.2.2.1.len
  have hlk := HT.out.2.2.2.2.len
  unfold maxLen at hlw hlm hlk
  clear ht
  go_enter Tryz.func6, Tryz.ntmps6
  go_wp2_with fail
  clear hW
  go_loopw [3] (fun i wr => ∃ k : Nat, k ≤ t.ws.l.length ∧ i = .int .i64 k ∧ wr = W) (fun i _ => t.ws.l.length - (intOf i).toNat)
  case atStart => exact ⟨0, Nat.zero_le _, rfl, rfl⟩
  case round =>
    obtain ⟨k, hk, rfl, hw⟩ := hrel
    obtain rfl : W = wr := hw.symm
    by_cases hlt : k < t.ws.l.length
    · obtain ⟨x, q1, o1, hx, hA, hb1, hcx⟩ := HT.out.2.2.1.slc.at_ hlt
      have HXO := Lib.hid (HT.out.2.2.1.all (List.mem_of_getElem? hx))
      have c2 := hcx 2 _ rfl
      rw [hA] at b3
      have hlx := HXO.out.len
      unfold maxLen at hlx
      have hlt' : (k : Int) < t.ws.l.length := by omega
      clear hcx hx hA
      go_wp2_with fail
      go_loopw [4] (fun i wr2 => ∃ j : Nat, j ≤ x.legs.l.length ∧ i = .int .i64 j ∧ wr2 = W) (fun i _ => x.legs.l.length - (intOf i).toNat)
      case atStart => exact ⟨0, Nat.zero_le _, rfl, rfl⟩
      case round =>
        obtain ⟨j, hj, rfl, hw⟩ := hrel
        obtain rfl : W = wr := hw.symm
        by_cases hjt : j < x.legs.l.length
        · obtain ⟨y, q2, o2, hy, hA2, hb2, hcy⟩ := HXO.out.slc.at_ hjt
          have d3 := hcy 3 _ rfl
          rw [hA2] at c2
          have hjt' : (j : Int) < x.legs.l.length := by omega
          clear hcy hy hA2
          by_cases h1 : 10 ≤ j
          · have e1 : decide ((j : Int) ≥ 10) = true := decide_eq_true (by omega)
            go_wp2_with fail
            go_ret
            exact ⟨false, rfl, by simp, HE.out⟩
          have e1 : decide ((j : Int) ≥ 10) = false := decide_eq_false (by omega)
          by_cases h2 : y.mi.l.length ≤ 10
          · have e2 : decide ((y.mi.l.length : Int) > 10) = false := decide_eq_false (by omega)
            go_wp2_with fail
            first | exact ⟨⟨j + 1, by omega, by go_num, by first | rfl | trivial⟩, by simp [intOf] <;> omega⟩ | (go_roundw; all_goals first | exact ⟨j + 1, by omega, by go_num, by first | rfl | trivial⟩ | (simp [intOf] <;> omega))
          · have e2 : decide ((y.mi.l.length : Int) > 10) = true := decide_eq_true (by omega)
            go_wp2_with fail
            go_ret
            exact ⟨false, rfl, by simp, HE.out⟩
        · have hjt' : decide ((j : Int) < x.legs.l.length) = false := decide_eq_false (by omega)
          go_wp2_with fail
          first | exact ⟨⟨k + 1, by omega, by go_num, by first | rfl | trivial⟩, by simp [intOf] <;> omega⟩ | (go_roundw; all_goals first | exact ⟨k + 1, by omega, by go_num, by first | rfl | trivial⟩ | (simp [intOf] <;> omega))
    · have hlt' : decide ((k : Int) < t.ws.l.length) = false := decide_eq_false (by omega)
      go_wp2_with fail
      clear hlt' hlt hk
      go_loopw [5] (fun i wr2 => ∃ k : Nat, k ≤ t.ks.l.length ∧ i = .int .i64 k ∧ wr2 = W) (fun i _ => t.ks.l.length - (intOf i).toNat)
      case atStart => exact ⟨0, Nat.zero_le _, rfl, rfl⟩
      case round =>
        obtain ⟨k, hk, rfl, hw⟩ := hrel
        obtain rfl : W = wr := hw.symm
        by_cases hlt : k < t.ks.l.length
        · obtain ⟨x, q1, o1, hx, hA, hb1, hcx⟩ := HT.out.2.2.2.2.slc.at_ hlt
          have HXO := Lib.hid (HT.out.2.2.2.2.all (List.mem_of_getElem? hx))
          have c5 := hcx 5 _ rfl
          rw [hA] at b5
          have hlx := HXO.out.len
          unfold maxLen at hlx
          have hlt' : (k : Int) < t.ks.l.length := by omega
          clear hcx hx hA
          go_wp2_with fail
          go_loopw [6] (fun i wr3 => ∃ j : Nat, j ≤ x.cur.l.length ∧ i = .int .i64 j ∧ wr3 = W) (fun i _ => x.cur.l.length - (intOf i).toNat)
          case atStart => exact ⟨0, Nat.zero_le _, rfl, rfl⟩
          case round =>
            obtain ⟨j, hj, rfl, hw⟩ := hrel
            obtain rfl : W = wr := hw.symm
            by_cases hjt : j < x.cur.l.length
            · obtain ⟨y, q2, o2, hy, hA2, hb2, hcy⟩ := HXO.out.slc.at_ hjt
              have d0 := hcy 0 _ rfl
              simp only [Nat.mul_one, Nat.add_zero] at d0
              rw [hA2] at c5
              have hjt' : (j : Int) < x.cur.l.length := by omega
              clear hcy hy hA2
              by_cases h1 : 10 ≤ j
              · have e1 : decide ((j : Int) ≥ 10) = true := decide_eq_true (by omega)
                go_wp2_with fail
                go_ret
                exact ⟨false, rfl, by simp, HE.out⟩
              have e1 : decide ((j : Int) ≥ 10) = false := decide_eq_false (by omega)
              by_cases h2 : y.l.length ≤ 10
              · have e2 : decide ((y.l.length : Int) > 10) = false := decide_eq_false (by omega)
                go_wp2_with fail
                first | exact ⟨⟨j + 1, by omega, by go_num, by first | rfl | trivial⟩, by simp [intOf] <;> omega⟩ | (go_roundw; all_goals first | exact ⟨j + 1, by omega, by go_num, by first | rfl | trivial⟩ | (simp [intOf] <;> omega))
              · have e2 : decide ((y.l.length : Int) > 10) = true := decide_eq_true (by omega)
                go_wp2_with fail
                go_ret
                exact ⟨false, rfl, by simp, HE.out⟩
            · have hjt' : decide ((j : Int) < x.cur.l.length) = false := decide_eq_false (by omega)
              go_wp2_with fail
              first | exact ⟨⟨k + 1, by omega, by go_num, by first | rfl | trivial⟩, by simp [intOf] <;> omega⟩ | (go_roundw; all_goals first | exact ⟨k + 1, by omega, by go_num, by first | rfl | trivial⟩ | (simp [intOf] <;> omega))
        · have hlt' : decide ((k : Int) < t.ks.l.length) = false := decide_eq_false (by omega)
          go_wp2_with fail
          clear hlt' hlt hk
          go_loopw [7] (fun i wr3 => ∃ k : Nat, k ≤ t.ms.l.length ∧ i = .int .i64 k ∧ wr3 = W) (fun i _ => t.ms.l.length - (intOf i).toNat)
          case atStart => exact ⟨0, Nat.zero_le _, rfl, rfl⟩
          case round =>
            obtain ⟨k, hk, rfl, hw⟩ := hrel
            obtain rfl : W = wr := hw.symm
            by_cases hlt : k < t.ms.l.length
            · obtain ⟨x, q1, o1, hx, hA, hb1, hcx⟩ := HT.out.2.2.2.1.slc.at_ hlt
              have c0 := hcx 0 _ rfl
              simp only [Nat.mul_one, Nat.add_zero] at c0
              rw [hA] at b4
              have hlt' : (k : Int) < t.ms.l.length := by omega
              clear hcx hx hA
              by_cases h : x.l.length ≤ 20
              · have e1 : decide ((x.l.length : Int) > 20) = false := decide_eq_false (by omega)
                go_wp2_with fail
                first | exact ⟨⟨k + 1, by omega, by go_num, by first | rfl | trivial⟩, by simp [intOf] <;> omega⟩ | (go_roundw; all_goals first | exact ⟨k + 1, by omega, by go_num, by first | rfl | trivial⟩ | (simp [intOf] <;> omega))
              · have e1 : decide ((x.l.length : Int) > 20) = true := decide_eq_true (by omega)
                go_wp2_with fail
                go_ret
                exact ⟨false, rfl, by simp, HE.out⟩
            · have hlt' : decide ((k : Int) < t.ms.l.length) = false := decide_eq_false (by omega)
              by_cases h : t.n ≤ 6
              rotate_left
              · have e1 : decide (t.n ≤ 6) = false := decide_eq_false h
                go_wp2_with fail
                go_ret
                exact ⟨_, rfl, by simp, HE.out⟩
              have e1 : decide (t.n ≤ 6) = true := decide_eq_true h
              go_wp2_with fail
              refine (few10_any none 0 0 t.ss.A t.ss.c t.ss.l t.cs.A t.cs.c t.cs.l _ HT.out.1.slc HT.out.1.len HT.out.2.1.slc HT.out.2.1.len).mono ?_
              rintro e w2 ⟨r, rfl, hP, B⟩
              have HP := Lib.hid hP
              have HE2 := Lib.hid (ext_trans HE.out B)
              have c3 := (HB.out.ext B).c 3 _ rfl
              have c4 := (HB.out.ext B).c 4 _ rfl
              have c5 := (HB.out.ext B).c 5 _ rfl
              have cl := (HB.out.ext B).lt
              clear hP B b0 b1 b2 b3 b4 b5
              cases r
              · go_wp2_with fail
                go_ret
                exact ⟨_, rfl, by simp, HE2.out⟩
              · go_wp2_with fail
                all_goals go_ret
                all_goals exact ⟨_, rfl, fun _ => by first | exact ⟨h, HP.out (by simp)⟩ | exact HP.out (by simp), HE2.out⟩
end Go.Proofs.YtilocjliplmmpaaGreat
