/- Contracts of the reference: two rules against each other; what is valid. -/
import Derived.Test.YtmgpbjpohbpgpaaE
import Derived.Test.YtmgpbjpohbpgpaaHI
import Derived.Test.YtmgpbjpohbpgpaaPs
set_option linter.unusedSimpArgs false
set_option linter.unusedVariables false
namespace Go.Proofs.Ytmgpbjpohbpgpaa
open Go.RowKit
set_option maxHeartbeats 6400000 in
theorem pair_any (x y : Ru) (w : World) : Calls Try.prog 62 #[x.v, y.v] w (RetB w (agR x y)) := by
  have HF := Lib.hid (@ag_iff x y)
  go_enter Try.func62, Try.ntmps62
  go_wp2_with fail
  all_goals
    go_ret
    refine ⟨ret_bool ?_, ext_alloc (ext_alloc (ext_refl w) _) _⟩
    rw [Bool.eq_iff_iff, HF.out]
    try (rename ∀ (a : Act) (w : World), _ => hK; clear hK)
    clear HF
    first | (simp_all; done) | (simp_all; omega) | (simp at *; omega)
theorem pair_at {x y : Ru} {w : World} (r : Bool) (hr : agR x y = r) : Calls Try.prog 62 #[.agg #[.int .i64 x.k, .string x.sc, .string x.sa, .int .i64 x.cl, .int .i64 x.ap, .int .i64 x.n, .int .i64 x.f, .int .i64 x.t], .agg #[.int .i64 y.k, .string y.sc, .string y.sa, .int .i64 y.cl, .int .i64 y.ap, .int .i64 y.n, .int .i64 y.f, .int .i64 y.t]] w (RetB w r) := by
  subst hr; exact pair_any x y w
theorem badS_iff {s : Sp} : badS s = false ↔ 0 ≤ s.f ∧ s.f < s.t ∧ s.t ≤ 1440 := by unfold badS; simp; omega
theorem valid_iff (nC nA : Int) (r : Ru) : (!wrong nC nA r) = true ↔ 0 ≤ r.cl ∧ r.cl < nC ∧ ((r.k = 1 ∧ r.n = 0 ∧ 0 ≤ r.ap ∧ r.ap < nA ∧ 0 ≤ r.f ∧ r.f < r.t ∧ r.t ≤ 1440) ∨ (r.k ≠ 1 ∧ r.ap = 0 ∧ r.f = 0 ∧ r.t = 0 ∧ ((r.k = 2 ∧ r.n = 0) ∨ (r.k = 3 ∧ 1 ≤ r.n ∧ r.n ≤ 8) ∨ (r.k = 4 ∧ 0 ≤ r.n ∧ r.n ≤ 60 ∧ r.n.tmod 10 = 0)))) := by
  unfold wrong valK
  by_cases h1 : r.k = 1
  · have hb := @badS_iff r.h
    simp only [Ru.h] at hb
    constructor
    · intro h
      have hv : val1 nA r = true := by
        cases hq : val1 nA r with
        | true => rfl
        | false => rw [if_pos h1, hq] at h; simp at h
      simp only [val1, Bool.and_eq_true, decide_eq_true_eq, Bool.not_eq_true'] at hv
      have := hb.1 hv.2
      simp [h1] at h
      omega
    · rintro ⟨h2, h3, h⟩
      have hv : val1 nA r = true := by
        simp only [val1, Bool.and_eq_true, decide_eq_true_eq, Bool.not_eq_true']
        exact ⟨⟨⟨by omega, by omega⟩, by omega⟩, hb.2 (by omega)⟩
      rw [if_pos h1, hv]
      simp [h1]
      omega
  · by_cases h2 : r.k = 2
    · simp only [h2, val2, plainR, Bool.not_eq_true', Bool.or_eq_false_iff, Bool.and_eq_true, decide_eq_true_eq, decide_eq_false_iff_not, Bool.not_eq_false', Bool.not_not]
      simp
      omega
    · by_cases h3 : r.k = 3
      · simp [h3, val3, plainR]
        omega
      · by_cases h4 : r.k = 4
        · simp [h4, val4, plainR]
          omega
        · simp [h1, h2, h3, h4]
set_option maxHeartbeats 12800000 in
theorem valid40_any (a : As) (r : Ru) (w : World) : Calls Try.prog 40 #[a.v, r.v] w (RetB w (!wrong a.cls.n a.aps.n r)) := by
  have HF := Lib.hid (valid_iff a.cls.n a.aps.n r)
  obtain ⟨v, hv⟩ : ∃ v, (!wrong a.cls.n a.aps.n r) = v := ⟨_, rfl⟩
  rw [hv] at HF ⊢
  clear hv
  go_enter Try.func40, Try.ntmps40
  go_wp2_with fail
  all_goals
    go_ret
    refine ⟨ret_bool ?_, ext_alloc (ext_alloc (ext_refl w) _) _⟩
    rw [Bool.eq_iff_iff, HF.out]
    try (rename ∀ (a : Act) (w : World), _ => hK; clear hK)
    clear HF
    (try simp only [beq_iff_eq, bne_iff_ne, ne_eq, bne_eq_false_iff_eq, beq_eq_false_iff_ne, decide_eq_true_eq, Bool.false_eq_true, Bool.and_eq_true] at *)
    (try rw [Int.tmod_eq_emod_of_nonneg (by assumption)])
    refine ⟨fun h => ?_, fun h => ?_⟩ <;> first | exact h.elim | omega
theorem valid_at {a : As} {r : Ru} {w : World} (b : Bool) (hr : (!wrong a.cls.n a.aps.n r) = b) : Calls Try.prog 40 #[.agg #[.slice a.s0.A a.s0.n a.s0.c, .slice a.s1.A a.s1.n a.s1.c, .slice a.s2.A a.s2.n a.s2.c, .slice a.s3.A a.s3.n a.s3.c, .slice a.s4.A a.s4.n a.s4.c, .slice a.aps.A a.aps.n a.aps.c, .slice a.cls.A a.cls.n a.cls.c, .slice a.rs.A a.rs.l.length a.rs.c], .agg #[.int .i64 r.k, .string r.sc, .string r.sa, .int .i64 r.cl, .int .i64 r.ap, .int .i64 r.n, .int .i64 r.f, .int .i64 r.t]] w (RetB w b) := by
  subst hr; exact valid40_any a r w
theorem nor_full {l : List Sp} : nor l = [⟨0, 1440⟩] ↔ cov l ⟨0, 1440⟩ = true := by
  rw [cov_full]
  constructor
  · intro h m hm
    have := nrm_in (fun m => inL l m) m hm
    rw [show nrm (fun m => inL l m) = nor l from rfl, h] at this
    rw [← this]
    simp [inL, inS]
    omega
  · intro h
    have e : nor l = nrm (fun _ => true) := nrm_congr (fun k hk => h k hk)
    rw [e]
    exact runs_to (f := fun _ => true) (a := 0) (t := 1440) (by simp [runs, endOf]) (by omega) (fun _ _ _ => rfl)
theorem eqlSp (x y : Sp) (w : World) : (binOp .eql 40 x.v y.v).run Try.prog w = .ok (.bool (decide (x = y))) w := by
  rw [run_eql_struct, eq31 x y 9998 w]; rfl
theorem all63_any (A : Option Addr) (c : Nat) (l : List Sp) (w : World) (ha : Slc w Sp.cells 2 A l) (hn : l.length < 1000000) : Calls Try.prog 63 #[.slice A l.length c] w (RetB w (cov l ⟨0, 1440⟩)) := by
  obtain ⟨r, hr⟩ : ∃ r, cov l ⟨0, 1440⟩ = r := ⟨_, rfl⟩
  have HR := Lib.hid (@nor_full l)
  obtain ⟨N, hN⟩ : ∃ N, nor l = N := ⟨_, rfl⟩
  have HC := Lib.hid (rnormal_any A c l w ha hn)
  unfold nor at hN
  rw [show nrm (fun m => inL l m) = nor l from rfl] at hN
  rw [hN] at HC HR
  rw [hr] at HR ⊢
  clear hr hN ha
  go_enter Try.func63, Try.ntmps63
  go_wp2_with fail
  refine HC.out.mono ?_
  rintro e w1 ⟨A1, c1, rfl, hs, hB⟩
  clear HC
  have E := Lib.hid hB
  cases N with
  | nil =>
    have hret := Lib.hid (show false = r by have := HR.out; cases r <;> simp_all)
    clear hB HR
    go_wp2_with fail
    go_ret
    exact ⟨ret_bool hret.out, E.out⟩
  | cons s N =>
    obtain ⟨b1, o1, rfl, hb1, hd⟩ := hs 0 s rfl
    have d0 := hd 0 _ rfl
    have d1 := hd 1 _ rfl
    simp only [Nat.zero_mul, Nat.add_zero] at d0 d1
    have hne := fun w => eqlSp s ⟨0, 1440⟩ w
    cases N with
    | cons t N =>
      have hret := Lib.hid (show false = r by have := HR.out; cases r <;> simp_all)
      have hl : ((((s :: t :: N).length : Nat) : Int) == 1) = false := by simp; omega
      clear hB HR
      obtain ⟨n, hn⟩ : ∃ n, (s :: t :: N).length = n := ⟨_, rfl⟩
      rw [hn] at hl ⊢
      clear hn
      go_wp2_with fail
      go_ret
      exact ⟨ret_bool hret.out, E.out⟩
    | nil =>
      have hret := Lib.hid (show decide (s = ⟨0, 1440⟩) = r by have := HR.out; rw [Bool.eq_iff_iff, ← this]; simp)
      clear hB HR
      go_wp2_with fail
      go_ret
      exact ⟨ret_bool hret.out, E.out⟩
set_option maxRecDepth 100000 in
set_option maxHeartbeats 12800000 in
theorem rcheck_any (a : As) (w : World) (ha : AOk w a) : Calls Try.prog 22 #[.agg #[.slice a.s0.A a.s0.n a.s0.c, .slice a.s1.A a.s1.n a.s1.c, .slice a.s2.A a.s2.n a.s2.c, .slice a.s3.A a.s3.n a.s3.c, .slice a.s4.A a.s4.n a.s4.c, .slice a.aps.A a.aps.n a.aps.c, .slice a.cls.A a.cls.n a.cls.c, .slice a.rs.A a.rs.l.length a.rs.c]] w (RetE w (chkR a.cls.n a.aps.n a.rs.l)) := by
  obtain ⟨v, hv⟩ : ∃ v, chkR a.cls.n a.aps.n a.rs.l = v := ⟨_, rfl⟩
  have HV := Lib.hid hv
  rw [hv]
  clear hv
  have HA := Lib.hid ha
  have hlm := Nat.le_trans ha.rl ha.rc
  clear ha
  have E := Lib.hid (ext_refl w)
  replace E := Lib.hid (ext_alloc E.out (.cells #[.slice a.s0.A a.s0.n a.s0.c, .slice a.s1.A a.s1.n a.s1.c, .slice a.s2.A a.s2.n a.s2.c, .slice a.s3.A a.s3.n a.s3.c, .slice a.s4.A a.s4.n a.s4.c, .slice a.aps.A a.aps.n a.aps.c, .slice a.cls.A a.cls.n a.cls.c, .slice a.rs.A a.rs.l.length a.rs.c] 31))
  replace HA := Lib.hid (HA.out.alloc (.cells #[.slice a.s0.A a.s0.n a.s0.c, .slice a.s1.A a.s1.n a.s1.c, .slice a.s2.A a.s2.n a.s2.c, .slice a.s3.A a.s3.n a.s3.c, .slice a.s4.A a.s4.n a.s4.c, .slice a.aps.A a.aps.n a.aps.c, .slice a.cls.A a.cls.n a.cls.c, .slice a.rs.A a.rs.l.length a.rs.c] 31))
  have X := Lib.hid (Blk.newH w [.slice a.s0.A a.s0.n a.s0.c, .slice a.s1.A a.s1.n a.s1.c, .slice a.s2.A a.s2.n a.s2.c, .slice a.s3.A a.s3.n a.s3.c, .slice a.s4.A a.s4.n a.s4.c, .slice a.aps.A a.aps.n a.aps.c, .slice a.cls.A a.cls.n a.cls.c, .slice a.rs.A a.rs.l.length a.rs.c] 31 (w.heap.size) (by first | rfl | simp))
  go_enter Try.func22, Try.ntmps22
  by_cases hl : a.rs.l.length ≤ 64
  rotate_left
  · have hret := Lib.hid (show (130 : Int) = v by rw [← HV.out, chkR, if_pos (by simp; left; omega)])
    have h64 : (64 : Int) < a.rs.l.length := by omega
    have c0 := X.out.c 7 _ rfl
    go_wp2_with fail
    go_ret
    exact ⟨ret_int hret.out, E.out⟩
  have h64 : ¬ (64 : Int) < a.rs.l.length := by omega
  have c0 := X.out.c 7 _ rfl
  go_wp2_with fail
  clear c0
  obtain ⟨v0, hNv0⟩ : ∃ W0, W0 = (w.alloc (.cells #[.slice a.s0.A a.s0.n a.s0.c, .slice a.s1.A a.s1.n a.s1.c, .slice a.s2.A a.s2.n a.s2.c, .slice a.s3.A a.s3.n a.s3.c, .slice a.s4.A a.s4.n a.s4.c, .slice a.aps.A a.aps.n a.aps.c, .slice a.cls.A a.cls.n a.cls.c, .slice a.rs.A a.rs.l.length a.rs.c] 31)) := ⟨_, rfl⟩
  rw [← hNv0] at E HA X ⊢
  clear hNv0
  go_loopw [3] (fun i W => ∃ m : Nat, m ≤ a.rs.l.length ∧ i = .int .i64 m ∧ Hid (∀ x ∈ a.rs.l.take m, wrong a.cls.n a.aps.n x = false) ∧ Below v0.heap.size v0 W) (fun i _ => a.rs.l.length - (intOf i).toNat)
  case atStart => exact ⟨0, Nat.zero_le _, rfl, fun x hx => by simp at hx, ext_refl _⟩
  case round =>
    obtain ⟨m, hm, rfl, HQ, hB⟩ := hrel
    have F := Lib.hid hB
    have BX0 := Lib.hid (X.out.ext hB)
    have x7 := BX0.out.c 7 _ rfl
    clear hB
    by_cases hmt : m < a.rs.l.length
    rotate_left
    · obtain rfl : m = a.rs.l.length := by omega
      have hret := Lib.hid (show (0 : Int) = v by rw [← HV.out]; have h0 := HQ.out; rw [List.take_length] at h0; exact (chk_of hl h0).symm)
      go_wp2_with fail
      go_ret
      exact ⟨ret_int hret.out, ext_trans E.out F.out⟩
    · obtain ⟨x, b2, o2, hx, hA2, hb2, hd⟩ := (HA.out.rs.ext F.out).at_ hmt
      have HX := Lib.hid hx
      have HA2 := Lib.hid hA2
      clear hA2
      have hmt' : (m : Int) < a.rs.l.length := by omega
      have dd := Lib.hid hd
      clear hx hd
      obtain ⟨q, hq⟩ : ∃ q, (!wrong a.cls.n a.aps.n x) = q := ⟨_, rfl⟩
      have HQ2 := Lib.hid hq
      clear hq
      go_wp2_with fail
      have SS := Lib.hid (show ∀ w', Below wr.heap.size wr w' → (fun w' => Below wr.heap.size wr w' ∧ w'.cell? ⟨w.heap.size, 0, none⟩ = some (.slice a.s0.A a.s0.n a.s0.c) ∧ w'.cell? ⟨w.heap.size, 1, none⟩ = some (.slice a.s1.A a.s1.n a.s1.c) ∧ w'.cell? ⟨w.heap.size, 2, none⟩ = some (.slice a.s2.A a.s2.n a.s2.c) ∧ w'.cell? ⟨w.heap.size, 3, none⟩ = some (.slice a.s3.A a.s3.n a.s3.c) ∧ w'.cell? ⟨w.heap.size, 4, none⟩ = some (.slice a.s4.A a.s4.n a.s4.c) ∧ w'.cell? ⟨w.heap.size, 5, none⟩ = some (.slice a.aps.A a.aps.n a.aps.c) ∧ w'.cell? ⟨w.heap.size, 6, none⟩ = some (.slice a.cls.A a.cls.n a.cls.c) ∧ w'.cell? ⟨w.heap.size, 7, none⟩ = some (.slice (some ⟨b2, o2, none⟩) a.rs.l.length a.rs.c) ∧ w'.cell? ⟨b2, o2 + m * 8, none⟩ = some (.int .i64 x.k) ∧ w'.cell? ⟨b2, o2 + m * 8 + 1, none⟩ = some (.string x.sc) ∧ w'.cell? ⟨b2, o2 + m * 8 + 2, none⟩ = some (.string x.sa) ∧ w'.cell? ⟨b2, o2 + m * 8 + 3, none⟩ = some (.int .i64 x.cl) ∧ w'.cell? ⟨b2, o2 + m * 8 + 4, none⟩ = some (.int .i64 x.ap) ∧ w'.cell? ⟨b2, o2 + m * 8 + 5, none⟩ = some (.int .i64 x.n) ∧ w'.cell? ⟨b2, o2 + m * 8 + 6, none⟩ = some (.int .i64 x.f) ∧ w'.cell? ⟨b2, o2 + m * 8 + 7, none⟩ = some (.int .i64 x.t)) w' from fun w' h => ⟨h, (BX0.out.ext h).c 0 _ rfl, (BX0.out.ext h).c 1 _ rfl, (BX0.out.ext h).c 2 _ rfl, (BX0.out.ext h).c 3 _ rfl, (BX0.out.ext h).c 4 _ rfl, (BX0.out.ext h).c 5 _ rfl, (BX0.out.ext h).c 6 _ rfl, ((BX0.out.ext h).c 7 _ rfl).trans (by rw [HA2.out]), ((h : Below _ _ _).cell (p := ⟨b2, o2 + m * 8, none⟩) hb2).trans (dd.out 0 _ rfl), ((h : Below _ _ _).cell (p := ⟨b2, o2 + m * 8 + 1, none⟩) hb2).trans (dd.out 1 _ rfl), ((h : Below _ _ _).cell (p := ⟨b2, o2 + m * 8 + 2, none⟩) hb2).trans (dd.out 2 _ rfl), ((h : Below _ _ _).cell (p := ⟨b2, o2 + m * 8 + 3, none⟩) hb2).trans (dd.out 3 _ rfl), ((h : Below _ _ _).cell (p := ⟨b2, o2 + m * 8 + 4, none⟩) hb2).trans (dd.out 4 _ rfl), ((h : Below _ _ _).cell (p := ⟨b2, o2 + m * 8 + 5, none⟩) hb2).trans (dd.out 5 _ rfl), ((h : Below _ _ _).cell (p := ⟨b2, o2 + m * 8 + 6, none⟩) hb2).trans (dd.out 6 _ rfl), ((h : Below _ _ _).cell (p := ⟨b2, o2 + m * 8 + 7, none⟩) hb2).trans (dd.out 7 _ rfl)⟩)
      refine rg_begin (S := (fun w' => Below wr.heap.size wr w' ∧ w'.cell? ⟨w.heap.size, 0, none⟩ = some (.slice a.s0.A a.s0.n a.s0.c) ∧ w'.cell? ⟨w.heap.size, 1, none⟩ = some (.slice a.s1.A a.s1.n a.s1.c) ∧ w'.cell? ⟨w.heap.size, 2, none⟩ = some (.slice a.s2.A a.s2.n a.s2.c) ∧ w'.cell? ⟨w.heap.size, 3, none⟩ = some (.slice a.s3.A a.s3.n a.s3.c) ∧ w'.cell? ⟨w.heap.size, 4, none⟩ = some (.slice a.s4.A a.s4.n a.s4.c) ∧ w'.cell? ⟨w.heap.size, 5, none⟩ = some (.slice a.aps.A a.aps.n a.aps.c) ∧ w'.cell? ⟨w.heap.size, 6, none⟩ = some (.slice a.cls.A a.cls.n a.cls.c) ∧ w'.cell? ⟨w.heap.size, 7, none⟩ = some (.slice (some ⟨b2, o2, none⟩) a.rs.l.length a.rs.c) ∧ w'.cell? ⟨b2, o2 + m * 8, none⟩ = some (.int .i64 x.k) ∧ w'.cell? ⟨b2, o2 + m * 8 + 1, none⟩ = some (.string x.sc) ∧ w'.cell? ⟨b2, o2 + m * 8 + 2, none⟩ = some (.string x.sa) ∧ w'.cell? ⟨b2, o2 + m * 8 + 3, none⟩ = some (.int .i64 x.cl) ∧ w'.cell? ⟨b2, o2 + m * 8 + 4, none⟩ = some (.int .i64 x.ap) ∧ w'.cell? ⟨b2, o2 + m * 8 + 5, none⟩ = some (.int .i64 x.n) ∧ w'.cell? ⟨b2, o2 + m * 8 + 6, none⟩ = some (.int .i64 x.f) ∧ w'.cell? ⟨b2, o2 + m * 8 + 7, none⟩ = some (.int .i64 x.t))) 8 (by kernel_rfl) (by intro d; cases d <;> intro _ _ _ _ h <;> exact h) ?_ (fun Q7 hQ7 hN7 hHeld => ?_)
      · exact SS.out _ (ext_drew (ext_refl _))
      refine rg_take (i := 0) (some 15) (v := ?_) rfl rfl (by kernel_rfl) (by rfl) hQ7 hHeld ?_ ?_
      rotate_left
      · intro w7 hSw; (try dsimp only at hSw); go_simp; all_goals with_reducible rfl
      try simp only [Act.put, List.setIfInBounds_toArray, List.set_cons_zero, List.set_cons_succ]
      refine rg_take (i := 1) (some 16) (v := ?_) rfl rfl (by kernel_rfl) (by rfl) hQ7 hHeld ?_ ?_
      rotate_left
      · intro w7 hSw; (try dsimp only at hSw); go_simp; all_goals with_reducible rfl
      try simp only [Act.put, List.setIfInBounds_toArray, List.set_cons_zero, List.set_cons_succ]
      refine rg_take (i := 2) (some 17) (v := ?_) rfl rfl (by kernel_rfl) (by rfl) hQ7 hHeld ?_ ?_
      rotate_left
      · intro w7 hSw; (try dsimp only at hSw); go_simp; all_goals with_reducible rfl
      try simp only [Act.put, List.setIfInBounds_toArray, List.set_cons_zero, List.set_cons_succ]
      refine rg_take (i := 3) (some 18) (v := ?_) rfl rfl (by kernel_rfl) (by rfl) hQ7 hHeld ?_ ?_
      rotate_left
      · intro w7 hSw; (try dsimp only at hSw); go_simp; all_goals with_reducible rfl
      try simp only [Act.put, List.setIfInBounds_toArray, List.set_cons_zero, List.set_cons_succ]
      refine rg_take (i := 4) (some 19) (v := ?_) rfl rfl (by kernel_rfl) (by rfl) hQ7 hHeld ?_ ?_
      rotate_left
      · intro w7 hSw; (try dsimp only at hSw); go_simp; all_goals with_reducible rfl
      try simp only [Act.put, List.setIfInBounds_toArray, List.set_cons_zero, List.set_cons_succ]
      refine rg_take (i := 5) (some 20) (v := ?_) rfl rfl (by kernel_rfl) (by rfl) hQ7 hHeld ?_ ?_
      rotate_left
      · intro w7 hSw; (try dsimp only at hSw); go_simp; all_goals with_reducible rfl
      try simp only [Act.put, List.setIfInBounds_toArray, List.set_cons_zero, List.set_cons_succ]
      refine rg_one (i := 6) (by kernel_rfl) (rg_step rfl (by rfl) (fun K hK => ?_))
      go_simp
      refine (valid_at (a := { a with rs := ⟨some ⟨b2, o2, none⟩, a.rs.c, a.rs.l⟩ }) q HQ2.out).mono ?_
      rintro e u1 ⟨rfl, B⟩
      go_wp2_with fail
      refine hK.out _ _ ?_ (fun hHeld2 => ?_)
      · exact SS.out _ (ext_trans hHeld.1 B)
      clear hHeld
      have hHeld := hHeld2
      clear hHeld2
      clear hK K
      try simp only [Act.put, List.setIfInBounds_toArray, List.set_cons_zero, List.set_cons_succ]
      refine rg_take (i := 7) (some 22) (v := ?_) rfl rfl (by kernel_rfl) (by rfl) hQ7 hHeld ?_ ?_
      rotate_left
      · intro w7 hSw; (try dsimp only at hSw); go_simp; all_goals with_reducible rfl
      try simp only [Act.put, List.setIfInBounds_toArray, List.set_cons_zero, List.set_cons_succ]
      refine rg_end (by kernel_rfl) (hN7 _ _ ?_) _
      clear hQ7 hN7 Q7
      have BX := hHeld.1
      clear SS
      cases q
      · have HP := Lib.hid (show (130 : Int) = v by
          rw [← HV.out, chkR, if_pos]
          rw [Bool.or_eq_true]; right
          exact List.any_eq_true.2 ⟨x, List.mem_of_getElem? HX.out, by have := HQ2.out; simpa using this⟩)
        go_wp2_with fail
        go_ret
        exact ⟨ret_int HP.out, ext_trans (ext_trans E.out F.out) BX⟩
      · have hN := Lib.hid (all_stepR HQ.out HX.out (by have := HQ2.out; simpa using this))
        go_wp2_with fail
        go_roundw
        case rel => exact ⟨m + 1, hmt, by go_num, hN.out, ext_trans F.out BX⟩
        case measure => simp [intOf]; omega
theorem rcheck_at {a : As} {w : World} (v : Int) (hv : chkR a.cls.n a.aps.n a.rs.l = v) (ha : AOk w a) : Calls Try.prog 22 #[.agg #[.slice a.s0.A a.s0.n a.s0.c, .slice a.s1.A a.s1.n a.s1.c, .slice a.s2.A a.s2.n a.s2.c, .slice a.s3.A a.s3.n a.s3.c, .slice a.s4.A a.s4.n a.s4.c, .slice a.aps.A a.aps.n a.aps.c, .slice a.cls.A a.cls.n a.cls.c, .slice a.rs.A a.rs.l.length a.rs.c]] w (RetE w v) := by
  subst hv; exact rcheck_any a w ha
def fewR (nC nA : Int) (l : List Ru) : Bool := (decide ((l.length : Int) ≤ 9) && decide (nC ≤ 20) && decide (nA ≤ 20)) || (decide (chkR nC nA l ≠ 0) && decide ((l.length : Int) ≤ 80))
set_option maxHeartbeats 6400000 in
theorem few9_any (a : As) (w : World) (ha : AOk w a) : Calls Try.prog 9 #[.agg #[.slice a.s0.A a.s0.n a.s0.c, .slice a.s1.A a.s1.n a.s1.c, .slice a.s2.A a.s2.n a.s2.c, .slice a.s3.A a.s3.n a.s3.c, .slice a.s4.A a.s4.n a.s4.c, .slice a.aps.A a.aps.n a.aps.c, .slice a.cls.A a.cls.n a.cls.c, .slice a.rs.A a.rs.l.length a.rs.c]] w (RetB w (fewR a.cls.n a.aps.n a.rs.l)) := by
  obtain ⟨v, hv⟩ : ∃ v, chkR a.cls.n a.aps.n a.rs.l = v := ⟨_, rfl⟩
  obtain ⟨p1, h1⟩ : ∃ p, decide ((a.rs.l.length : Int) ≤ 9) = p := ⟨_, rfl⟩
  obtain ⟨p2, h2⟩ : ∃ p, decide ((a.cls.n : Int) ≤ 20) = p := ⟨_, rfl⟩
  obtain ⟨p3, h3⟩ : ∃ p, decide ((a.aps.n : Int) ≤ 20) = p := ⟨_, rfl⟩
  obtain ⟨p4, h4⟩ : ∃ p, decide ((a.rs.l.length : Int) ≤ 80) = p := ⟨_, rfl⟩
  obtain ⟨p5, h5⟩ : ∃ p, (v != 0) = p := ⟨_, rfl⟩
  have HF := Lib.hid (show fewR a.cls.n a.aps.n a.rs.l = ((p1 && p2 && p3) || (p5 && p4)) by unfold fewR; rw [hv, h1, h2, h3, h4, ← h5]; congr 2; cases hq : (v != 0) <;> simp_all)
  rw [HF.out]
  clear HF
  have HV := Lib.hid hv
  clear hv
  have HA := Lib.hid ha
  clear ha
  have E := Lib.hid (ext_refl w)
  replace E := Lib.hid (ext_alloc E.out (.cells #[.slice a.s0.A a.s0.n a.s0.c, .slice a.s1.A a.s1.n a.s1.c, .slice a.s2.A a.s2.n a.s2.c, .slice a.s3.A a.s3.n a.s3.c, .slice a.s4.A a.s4.n a.s4.c, .slice a.aps.A a.aps.n a.aps.c, .slice a.cls.A a.cls.n a.cls.c, .slice a.rs.A a.rs.l.length a.rs.c] 31))
  replace HA := Lib.hid (HA.out.alloc (.cells #[.slice a.s0.A a.s0.n a.s0.c, .slice a.s1.A a.s1.n a.s1.c, .slice a.s2.A a.s2.n a.s2.c, .slice a.s3.A a.s3.n a.s3.c, .slice a.s4.A a.s4.n a.s4.c, .slice a.aps.A a.aps.n a.aps.c, .slice a.cls.A a.cls.n a.cls.c, .slice a.rs.A a.rs.l.length a.rs.c] 31))
  have X := Lib.hid (Blk.newH w [.slice a.s0.A a.s0.n a.s0.c, .slice a.s1.A a.s1.n a.s1.c, .slice a.s2.A a.s2.n a.s2.c, .slice a.s3.A a.s3.n a.s3.c, .slice a.s4.A a.s4.n a.s4.c, .slice a.aps.A a.aps.n a.aps.c, .slice a.cls.A a.cls.n a.cls.c, .slice a.rs.A a.rs.l.length a.rs.c] 31 (w.heap.size) (by first | rfl | simp))
  go_enter Try.func9, Try.ntmps9
  have RC := Lib.hid (rcheck_at (w := w.alloc (.cells #[.slice a.s0.A a.s0.n a.s0.c, .slice a.s1.A a.s1.n a.s1.c, .slice a.s2.A a.s2.n a.s2.c, .slice a.s3.A a.s3.n a.s3.c, .slice a.s4.A a.s4.n a.s4.c, .slice a.aps.A a.aps.n a.aps.c, .slice a.cls.A a.cls.n a.cls.c, .slice a.rs.A a.rs.l.length a.rs.c] 31)) v HV.out HA.out)
  have c0 := X.out.c 0 _ rfl
  have c1 := X.out.c 1 _ rfl
  have c2 := X.out.c 2 _ rfl
  have c3 := X.out.c 3 _ rfl
  have c4 := X.out.c 4 _ rfl
  have c5 := X.out.c 5 _ rfl
  have c6 := X.out.c 6 _ rfl
  have c7 := X.out.c 7 _ rfl
  have REST := Lib.hid (show Below w.heap.size w (w.alloc (.cells #[.slice a.s0.A a.s0.n a.s0.c, .slice a.s1.A a.s1.n a.s1.c, .slice a.s2.A a.s2.n a.s2.c, .slice a.s3.A a.s3.n a.s3.c, .slice a.s4.A a.s4.n a.s4.c, .slice a.aps.A a.aps.n a.aps.c, .slice a.cls.A a.cls.n a.cls.c, .slice a.rs.A a.rs.l.length a.rs.c] 31)) from E.out)
  cases p1 <;> cases p2 <;> cases p3
  all_goals
    go_wp2_with fail
    first
      | (go_ret; exact ⟨ret_bool rfl, REST.out⟩)
      | (refine RC.out.mono ?_
         rintro e w1 ⟨rfl, B⟩
         have d7 := (X.out.ext B).c 7 _ rfl
         have R2 := Lib.hid (ext_trans REST.out B)
         clear c0 c1 c2 c3 c4 c5 c6 c7 B
         go_wp2_with fail
         all_goals
           go_ret
           exact ⟨ret_bool (by first | rfl | (simp_all; done)), R2.out⟩)
end Go.Proofs.Ytmgpbjpohbpgpaa
