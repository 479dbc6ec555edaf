/- The reference's Check. -/
import Derived.Test.YthchcimialclkaaA
set_option linter.unusedSimpArgs false
set_option linter.unusedVariables false
namespace Go.Proofs.Ythchcimialclkaa
open Go.RowKit
/-- Links and packets in memory. -/
structure NOk (w : World) (n : Nt) : Prop where
  q : Slc w Pk.cells 3 n.q.A n.q.l
  ap : Slc w Lk.cells 2 n.ap.A n.ap.l
  d : ∀ p ∈ n.q.l, Slc w bc 1 p.d.A p.d.l
  ql : n.q.l.length ≤ maxLen
  al : n.ap.l.length ≤ maxLen
  dl : ∀ p ∈ n.q.l, p.d.l.length ≤ maxLen
  qc : n.q.l.length ≤ n.q.c
  qm : n.q.c ≤ maxLen
theorem NOk.ext {w w' : World} {n : Nt} (h : NOk w n) (hb : Below w.heap.size w w') : NOk w' n := ⟨h.q.ext hb, h.ap.ext hb, fun p hp => (h.d p hp).ext hb, h.ql, h.al, h.dl, h.qc, h.qm⟩
theorem NOk.alloc {w : World} {n : Nt} (h : NOk w n) (o : Obj) : NOk (w.alloc o) n := h.ext (ext_alloc (ext_refl w) o)
/-- Links in a block of their own. -/
structure BoxN (w : World) (b : Nat) (n : Nt) : Prop where
  lt : b < w.heap.size
  q : w.cell? ⟨b, 0, none⟩ = some (.slice n.q.A n.q.l.length n.q.c)
  ap : w.cell? ⟨b, 1, none⟩ = some (.slice n.ap.A n.ap.l.length n.ap.c)
theorem BoxN.new (w : World) (n : Nt) : BoxN (w.alloc (.cells #[.slice n.q.A n.q.l.length n.q.c, .slice n.ap.A n.ap.l.length n.ap.c] 25)) w.heap.size n := ⟨by simp, by simp, by simp⟩
theorem BoxN.ext {w w' : World} {b : Nat} {n : Nt} (h : BoxN w b n) (hb : Below w.heap.size w w') : BoxN w' b n :=
  ⟨Nat.lt_of_lt_of_le h.lt hb.size, (hb.cell (p := ⟨b, 0, none⟩) h.lt).trans h.q, (hb.cell (p := ⟨b, 1, none⟩) h.lt).trans h.ap⟩
def prevL (l : List Lk) (k : Nat) : Option Lk := if k = 0 then none else l[k - 1]?
theorem okGo_snoc (x : Lk) : ∀ (p : Option Lk) (l : List Lk), okGo p (l ++ [x]) = (okGo p l && step (match l.getLast? with | some y => some y | none => p) x)
  | p, [] => by simp [okGo]
  | p, y :: r => by
    rw [List.cons_append, okGo, okGo_snoc x (some y) r, okGo]
    have : (match r.getLast? with | some z => some z | none => some y) = (match (y :: r).getLast? with | some z => some z | none => p) := by
      rw [List.getLast?_cons]; cases r.getLast? <;> rfl
    rw [this, Bool.and_assoc]
theorem okGo_take {l : List Lk} {k : Nat} {x : Lk} (hx : l[k]? = some x) : okGo none (l.take (k + 1)) = (okGo none (l.take k) && step (prevL l k) x) := by
  rw [List.take_add_one, hx, Option.toList_some, okGo_snoc]
  congr 2
  unfold prevL
  by_cases h : k = 0
  · subst h; simp
  · rw [if_neg h]
    have hk : k < l.length := (List.getElem?_eq_some_iff.1 hx).1
    have h1 : (l.take k).getLast? = l[k - 1]? := by
      rw [List.getLast?_eq_getElem?, List.length_take, Nat.min_eq_left (by omega), List.getElem?_take, if_pos (by omega)]
    rw [h1]
    cases l[k - 1]? <;> rfl
theorem okGo_no {l : List Lk} {k : Nat} {x : Lk} (hx : l[k]? = some x) (h : step (prevL l k) x = false) : okA l = false := by
  rw [okA_go]
  have h1 := okGo_take hx
  rw [h, Bool.and_false] at h1
  -- a prefix that fails: the whole fails
  have key : ∀ (a : List Lk) (p : Option Lk) (b : List Lk), okGo p a = false → okGo p (a ++ b) = false := by
    intro a
    induction a with
    | nil => intro p b h; cases h
    | cons y a ih =>
      intro p b h
      rw [okGo, Bool.and_eq_false_iff] at h
      rw [List.cons_append, okGo, Bool.and_eq_false_iff]
      rcases h with h | h
      · exact .inl h
      · exact .inr (ih _ _ h)
  rw [← List.take_append_drop (k + 1) l]
  exact key _ _ _ h1
theorem chk_no {n : Nt} (h : ¬ n.q.l.length ≤ 4096 ∨ n.q.l.all okP = false ∨ okA n.ap.l = false) : chkE n = 460 := by
  unfold chkE chkN
  rcases h with h | h | h <;> simp [h]
theorem chk_yes {n : Nt} (h1 : n.q.l.length ≤ 4096) (h2 : n.q.l.all okP = true) (h3 : okA n.ap.l = true) : chkE n = 0 := by simp [chkE, chkN, h1, h2, h3]
theorem all_take {α : Type} {p : α → Bool} {l : List α} {k : Nat} {x : α} (hx : l[k]? = some x) : (l.take (k + 1)).all p = ((l.take k).all p && p x) := by
  rw [List.take_add_one, hx]; simp
theorem all_no {α : Type} {p : α → Bool} {l : List α} {k : Nat} {x : α} (hx : l[k]? = some x) (h : p x = false) : l.all p = false := by
  rw [Bool.eq_false_iff]; intro ha
  rw [List.all_eq_true] at ha
  rw [ha x (List.mem_of_getElem? hx)] at h; cases h
theorem all_end {α : Type} {p : α → Bool} {l : List α} {k : Nat} (hk : l.length ≤ k) : (l.take k).all p = l.all p := by rw [List.take_of_length_le hk]
theorem step_no {x : Lk} {p : Option Lk} (h : okL x = false) : step p x = false := by
  unfold step; split <;> simp [h]
set_option maxHeartbeats 3200000 in
set_option maxRecDepth 100000 in
theorem rcheck_any (n : Nt) (w : World) (hn : NOk w n) : Calls Try.prog 13 #[n.v] w (RetE w (chkE n)) := by
  have hql := hn.ql
  have hal := hn.al
  unfold maxLen at hql hal
  obtain ⟨r, hr⟩ : ∃ r, chkE n = r := ⟨_, rfl⟩
  have HR := Lib.hid hr
  rw [hr]
  have HW : Hid (Below w.heap.size w (w.alloc (.cells #[.slice n.q.A n.q.l.length n.q.c, .slice n.ap.A n.ap.l.length n.ap.c] 25))) := ext_alloc (ext_refl w) _
  have HBX := BoxN.new w n
  clear hr
  by_cases hq : n.q.l.length ≤ 4096
  rotate_left
  · have HZ : Hid (460 = r) := by rw [← HR.out, chk_no (.inl hq)]; rfl
    have g1 : (4096 : Int) < n.q.l.length := by omega
    go_enter Try.func13, Try.ntmps13
    go_wp2_with fail
    go_ret
    exact ⟨ret_int HZ.out, HW.out⟩
  have g1 : ¬ (4096 : Int) < n.q.l.length := by omega
  go_enter Try.func13, Try.ntmps13
  go_wp2_with fail
  go_loopw [3] (fun i wr => ∃ k : Nat, k ≤ n.q.l.length ∧ i = .int .i64 k ∧ Hid ((n.q.l.take k).all okP = true) ∧ Below w.heap.size w wr ∧ BoxN wr w.heap.size n) (fun i _ => n.q.l.length - (intOf i).toNat)
  case atStart => exact ⟨0, Nat.zero_le _, rfl, by simp [Hid], HW.out, HBX⟩
  case round =>
    clear HBX
    obtain ⟨k, hk, rfl, HT, hB, hbx⟩ := hrel
    have HBX := Lib.hid hbx
    obtain ⟨n0, n1, n2⟩ := hbx
    by_cases hlt : k < n.q.l.length
    · obtain ⟨p, b1, o1, hp, hA, hb1, hc⟩ := (hn.ext hB).q.at_ hlt
      have c0 := hc 0 _ rfl
      have c1 := hc 1 _ rfl
      have c2 := hc 2 _ rfl
      simp only [Nat.add_zero] at c0
      have HP := Lib.hid hp
      have hlt' : (k : Int) < n.q.l.length := by omega
      have hpl := hn.dl p (List.mem_of_getElem? hp)
      rw [hA] at n1
      have HAE := Lib.hid hA
      clear hp hc hA
      obtain ⟨b, hb⟩ : ∃ b, okP p = b := ⟨_, rfl⟩
      have HO := Lib.hid hb
      clear hb
      cases b
      · have HZ : Hid (460 = r) := by rw [← HR.out, chk_no (.inr (.inl (all_no HP.out HO.out)))]; rfl
        go_wp2_with fail
        refine (rpacket_at (p := p) false HO.out hpl).mono ?_
        rintro e w1 ⟨rfl, B1⟩
        go_wp2_with fail
        go_ret
        exact ⟨ret_int HZ.out, ext_trans hB B1⟩
      · go_wp2_with fail
        refine (rpacket_at (p := p) true HO.out hpl).mono ?_
        rintro e w1 ⟨rfl, B1⟩
        go_wp2_with fail
        go_roundw
        case rel => exact ⟨k + 1, hlt, by go_num, by unfold Hid; rw [all_take HP.out, HT.out, HO.out]; rfl, ext_trans hB B1, HBX.out.ext B1⟩
        case measure => simp [intOf]; omega
    · have hlt' : ¬ (k : Int) < n.q.l.length := by omega
      have HQ : Hid (n.q.l.all okP = true) := by rw [Hid, ← all_end (k := k) (by omega)]; exact HT.out
      obtain ⟨wo, rfl⟩ : ∃ wo, wo = wr := ⟨_, rfl⟩
      go_wp2_with fail
      go_loopw [4] (fun i wr => ∃ k : Nat, k ≤ n.ap.l.length ∧ i = .int .i64 k ∧ Hid (okGo none (n.ap.l.take k) = true) ∧ Below w.heap.size w wr ∧ BoxN wr w.heap.size n) (fun i _ => n.ap.l.length - (intOf i).toNat)
      case atStart => exact ⟨0, Nat.zero_le _, rfl, by simp [Hid, okGo], hB, HBX.out⟩
      case round =>
        clear n0 n1 n2 hB
        obtain ⟨k, hk, rfl, HT2, hB, hbx⟩ := hrel
        have HBX2 := Lib.hid hbx
        obtain ⟨n0, n1, n2⟩ := hbx
        by_cases hlk : k < n.ap.l.length
        rotate_left
        · have hlk' : ¬ (k : Int) < n.ap.l.length := by omega
          have HZ : Hid (0 = r) := by
            rw [← HR.out, chk_yes hq HQ.out (by rw [okA_go, ← List.take_of_length_le (show n.ap.l.length ≤ k by omega)]; exact HT2.out)]; rfl
          go_wp2_with fail
          go_ret
          exact ⟨ret_int HZ.out, hB⟩
        obtain ⟨x, b1, o1, hx, hA, hb1, hc⟩ := (hn.ext hB).ap.at_ hlk
        have c0 := hc 0 _ rfl
        have c1 := hc 1 _ rfl
        simp only [Nat.add_zero] at c0
        have HX := Lib.hid hx
        have hlk' : (k : Int) < n.ap.l.length := by omega
        rw [hA] at n2
        have HAE := Lib.hid hA
        clear hx hc hA
        obtain ⟨wo2, rfl⟩ : ∃ wo2, wo2 = wr := ⟨_, rfl⟩
        have hbl := ext_alloc (ext_refl wo2) (.cells #[.int .i64 x.a, .int .i64 x.b] 53)
        have hB2 := ext_trans hB hbl
        have HB2 := Lib.hid hB2
        have HBL := Lib.hid hbl
        obtain ⟨m0, m1, m2⟩ := HBX2.out.ext hbl
        rw [HAE.out] at m2
        clear hbl hB2
        obtain ⟨r1, hr1⟩ : ∃ r, (decide (0 ≤ x.a) && decide (x.a < 4)) = r := ⟨_, rfl⟩
        obtain ⟨r2, hr2⟩ : ∃ r, (decide (0 ≤ x.b) && decide (x.b < 4)) = r := ⟨_, rfl⟩
        have H1 := Lib.hid hr1
        have H2 := Lib.hid hr2
        have hbad : okL x = false → Hid (460 = r) := fun h => by
          rw [Hid, ← HR.out, chk_no (.inr (.inr (okGo_no HX.out (step_no h))))]
        have hokl : okL x = (r1 && r2 && decide (x.a < x.b)) := by
          rw [← hr1, ← hr2]; unfold okL; rw [Bool.eq_iff_iff]; simp only [Bool.and_eq_true, decide_eq_true_eq]; omega
        clear hr1 hr2
        cases r1
        · have HZ := hbad (by rw [hokl]; rfl)
          clear hbad hokl
          go_wp2_with fail
          refine (site_at false H1.out).mono ?_
          rintro e w1 ⟨rfl, rfl⟩
          go_wp2_with fail
          go_ret
          exact ⟨ret_int HZ.out, HB2.out⟩
        cases r2
        · have HZ := hbad (by rw [hokl]; rfl)
          clear hbad hokl
          go_wp2_with fail
          refine (site_at true H1.out).mono ?_
          rintro e w1 ⟨rfl, rfl⟩
          go_wp2_with fail
          refine (site_at false H2.out).mono ?_
          rintro e w1 ⟨rfl, rfl⟩
          go_wp2_with fail
          go_ret
          exact ⟨ret_int HZ.out, HB2.out⟩
        by_cases hab : x.a < x.b
        rotate_left
        · have HZ := hbad (by rw [hokl]; simp [hab])
          have g2 : x.b ≤ x.a := by omega
          clear hbad hokl
          go_wp2_with fail
          refine (site_at true H1.out).mono ?_
          rintro e w1 ⟨rfl, rfl⟩
          go_wp2_with fail
          refine (site_at true H2.out).mono ?_
          rintro e w1 ⟨rfl, rfl⟩
          go_wp2_with fail
          go_ret
          exact ⟨ret_int HZ.out, HB2.out⟩
        have hx1 : okL x = true := by rw [hokl]; simp [hab]
        have g2 : ¬ x.b ≤ x.a := by omega
        clear hbad hokl
        have hst := okGo_take HX.out
        rw [HT2.out, Bool.true_and] at hst
        go_wp2_with fail
        refine (site_at true H1.out).mono ?_
        rintro e w1 ⟨rfl, rfl⟩
        go_wp2_with fail
        refine (site_at true H2.out).mono ?_
        rintro e w1 ⟨rfl, rfl⟩
        rcases Nat.eq_zero_or_pos k with h0 | h0
        · have hstep : step (prevL n.ap.l k) x = true := by simp [prevL, h0, step, hx1]
          rw [hstep] at hst
          have HST := Lib.hid hst
          have e0 : decide ((0 : Int) < (k : Int)) = false := by simp [h0]
          have e0n : decide (0 < k) = false := by simp [h0]
          clear hst hstep h0 hx1
          go_wp2_with fail
          go_quiet (fail)
          clear e0 e0n
          go_wp2_with fail
          go_roundw
          case rel => exact ⟨k + 1, hlk, by go_num, HST.out, ext_drewN HB2.out _, (HBX2.out.ext HBL.out).ext (ext_drewN (ext_refl _) _)⟩
          case measure => simp [intOf]; omega
        · obtain ⟨j, rfl⟩ : ∃ j, k = j + 1 := ⟨k - 1, by omega⟩
          obtain ⟨y, b2, o2, hy, hA2, hb2, hcy⟩ := ((hn.ext hB).ext HBL.out).ap.at_ (show j < n.ap.l.length by omega)
          rw [HAE.out] at hA2
          cases hA2
          have y0 := hcy 0 _ rfl
          have y1 := hcy 1 _ rfl
          simp only [Nat.add_zero] at y0
          have hprev : prevL n.ap.l (j + 1) = some y := by unfold prevL; rw [if_neg (by omega)]; exact hy
          have hstep : step (prevL n.ap.l (j + 1)) x = decide (cmpL y x < 0) := by rw [hprev]; simp [step, hx1]
          have HCM := Lib.hid (cmpL_neg y x)
          rw [hstep] at hst
          have hbad2 : decide (cmpL y x < 0) = false → Hid (460 = r) := fun h => by
            rw [Hid, ← HR.out, chk_no (.inr (.inr (okGo_no HX.out (by rw [hstep]; exact h))))]
          have HST := Lib.hid hst
          have HBAD := Lib.hid hbad2
          have hj1 : (j : Int) < n.ap.l.length := by omega
          clear hst hstep hprev hy hcy hx1 hbad2
          have hw1 : IntKind.i64.wrap ((j : Int) + 1 - 1) = j := by rw [show (j : Int) + 1 - 1 = j by omega]; exact IntWalk.i64_in _ (by omega)
          clear hw1
          by_cases q1 : x.a < y.a
          · have z1 : decide (x.a < y.a) = true := by simpa using q1
            have HZ := HBAD.out (decide_eq_false (fun h => by have := HCM.out.1 h; omega))
            have hw1 : IntKind.i64.wrap ((j : Int) + 1 - 1) = j := by rw [show (j : Int) + 1 - 1 = j by omega]; exact IntWalk.i64_in _ (by omega)
            go_wp2_with fail
            go_quiet (fail)
            clear hw1
            go_wp2_with fail
            go_ret
            exact ⟨ret_int HZ.out, ext_drewN HB2.out _⟩
          have z1 : decide (x.a < y.a) = false := by simpa using q1
          by_cases q2 : x.a = y.a
          · have z2 : (x.a == y.a) = true := by simpa using q2
            by_cases q3 : x.b ≤ y.b
            · have z3 : decide (x.b ≤ y.b) = true := by simpa using q3
              have HZ := HBAD.out (decide_eq_false (fun h => by have := HCM.out.1 h; omega))
              have hw1 : IntKind.i64.wrap ((j : Int) + 1 - 1) = j := by rw [show (j : Int) + 1 - 1 = j by omega]; exact IntWalk.i64_in _ (by omega)
              clear q2
              go_wp2_with fail
              go_quiet (fail)
              clear hw1
              go_wp2_with fail
              go_ret
              exact ⟨ret_int HZ.out, ext_drewN HB2.out _⟩
            have z3 : decide (x.b ≤ y.b) = false := by simpa using q3
            have HS1 : Hid (okGo none (n.ap.l.take (j + 1 + 1)) = true) := by rw [Hid, HST.out]; exact decide_eq_true (HCM.out.2 (by omega))
            have hw1 : IntKind.i64.wrap ((j : Int) + 1 - 1) = j := by rw [show (j : Int) + 1 - 1 = j by omega]; exact IntWalk.i64_in _ (by omega)
            clear q2
            go_wp2_with fail
            go_quiet (fail)
            clear hw1
            go_wp2_with fail
            go_roundw
            case rel => exact ⟨j + 1 + 1, hlk, by go_num, HS1.out, ext_drewN HB2.out _, (HBX2.out.ext HBL.out).ext (ext_drewN (ext_refl _) _)⟩
            case measure => simp [intOf]; omega
          · have z2 : (x.a == y.a) = false := by simpa using q2
            have HS1 : Hid (okGo none (n.ap.l.take (j + 1 + 1)) = true) := by rw [Hid, HST.out]; exact decide_eq_true (HCM.out.2 (by omega))
            have hw1 : IntKind.i64.wrap ((j : Int) + 1 - 1) = j := by rw [show (j : Int) + 1 - 1 = j by omega]; exact IntWalk.i64_in _ (by omega)
            clear q2
            go_wp2_with fail
            go_quiet (fail)
            clear hw1
            go_wp2_with fail
            go_roundw
            case rel => exact ⟨j + 1 + 1, hlk, by go_num, HS1.out, ext_drewN HB2.out _, (HBX2.out.ext HBL.out).ext (ext_drewN (ext_refl _) _)⟩
            case measure => simp [intOf]; omega
end Go.Proofs.Ythchcimialclkaa
