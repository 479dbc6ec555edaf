/- The law of the minutes. -/
import Derived.Test.YtkannbmmgkohjaaQ9
import Derived.Test.YtkannbmmgkohjaaRd
namespace Go.Proofs.Ytkannbmmgkohjaa
open Go.RowKit Go.Shelf
theorem LS_at {L : List (SliceOf Sp)} {W0 : World} {P : SliceOf Sp → Prop} (hP : ∀ s ∈ L, P s) {k : Nat} {s : SliceOf Sp} (h : L[k]? = some s) : P s := hP s (List.mem_of_getElem? h)
set_option maxHeartbeats 8000000 in
set_option maxRecDepth 100000 in
theorem law6 (Aa : Option Addr) (ca : Nat) (a : List Sp) (Ab : Option Addr) (cb : Nat) (b : List Sp) (m : Int) (w : World) (ha : Slc w Sp.cells 2 Aa a) (la : a.length ≤ maxLen) (hb : Slc w Sp.cells 2 Ab b) (lb : b.length ≤ maxLen) :
    Calls Try.prog 6 #[.slice Aa a.length ca, .slice Ab b.length cb, .int .i64 m] w (Tru w) := by
  by_cases fa : a.length ≤ 40
  rotate_left
  · go_enter Try.func6, Try.ntmps6
    go_wp2_with fail
    refine (sane_any _).mono ?_
    rintro e w1 ⟨rfl, B⟩
    have X : Below w.heap.size w w1 := by first | exact B | exact ext_trans (ext_alloc (ext_refl _) _) B | exact ext_trans (ext_alloc (ext_alloc (ext_refl _) _) _) B | exact ext_trans (ext_alloc (ext_alloc (ext_alloc (ext_refl _) _) _) _) B | exact ext_trans (ext_alloc (ext_alloc (ext_alloc (ext_alloc (ext_refl _) _) _) _) _) B
    have Ew1 := ext_trans (ext_refl w) X
    clear X B
    go_wp2_with fail
    refine (few_at (a := a) false (by simpa using fa) rfl la).mono ?_
    rintro e w2 ⟨rfl, B⟩
    have X : Below w1.heap.size w1 w2 := by first | exact B | exact ext_trans (ext_alloc (ext_refl _) _) B | exact ext_trans (ext_alloc (ext_alloc (ext_refl _) _) _) B | exact ext_trans (ext_alloc (ext_alloc (ext_alloc (ext_refl _) _) _) _) B | exact ext_trans (ext_alloc (ext_alloc (ext_alloc (ext_alloc (ext_refl _) _) _) _) _) B
    have Ew2 := ext_trans Ew1 X
    clear X B Ew1
    go_wp2_with fail
    go_ret
    exact ⟨rfl, Ew2⟩
  by_cases fb : b.length ≤ 40
  rotate_left
  · go_enter Try.func6, Try.ntmps6
    go_wp2_with fail
    refine (sane_any _).mono ?_
    rintro e w1 ⟨rfl, B⟩
    have X : Below w.heap.size w w1 := by first | exact B | exact ext_trans (ext_alloc (ext_refl _) _) B | exact ext_trans (ext_alloc (ext_alloc (ext_refl _) _) _) B | exact ext_trans (ext_alloc (ext_alloc (ext_alloc (ext_refl _) _) _) _) B | exact ext_trans (ext_alloc (ext_alloc (ext_alloc (ext_alloc (ext_refl _) _) _) _) _) B
    have Ew1 := ext_trans (ext_refl w) X
    clear X B
    go_wp2_with fail
    refine (few_at (a := a) true (by simpa using fa) rfl la).mono ?_
    rintro e w2 ⟨rfl, B⟩
    have X : Below w1.heap.size w1 w2 := by first | exact B | exact ext_trans (ext_alloc (ext_refl _) _) B | exact ext_trans (ext_alloc (ext_alloc (ext_refl _) _) _) B | exact ext_trans (ext_alloc (ext_alloc (ext_alloc (ext_refl _) _) _) _) B | exact ext_trans (ext_alloc (ext_alloc (ext_alloc (ext_alloc (ext_refl _) _) _) _) _) B
    have Ew2 := ext_trans Ew1 X
    clear X B Ew1
    go_wp2_with fail
    refine (few_at (a := b) false (by simpa using fb) rfl lb).mono ?_
    rintro e w3 ⟨rfl, B⟩
    have X : Below w2.heap.size w2 w3 := by first | exact B | exact ext_trans (ext_alloc (ext_refl _) _) B | exact ext_trans (ext_alloc (ext_alloc (ext_refl _) _) _) B | exact ext_trans (ext_alloc (ext_alloc (ext_alloc (ext_refl _) _) _) _) B | exact ext_trans (ext_alloc (ext_alloc (ext_alloc (ext_alloc (ext_refl _) _) _) _) _) B
    have Ew3 := ext_trans Ew2 X
    clear X B Ew2
    go_wp2_with fail
    go_ret
    exact ⟨rfl, Ew3⟩
  have na : a.length < 1000000 := by omega
  have nb : b.length < 1000000 := by omega
  go_enter Try.func6, Try.ntmps6
  go_wp2_with fail
  refine (sane_any _).mono ?_
  rintro e w1 ⟨rfl, B⟩
  have X : Below w.heap.size w w1 := by first | exact B | exact ext_trans (ext_alloc (ext_refl _) _) B | exact ext_trans (ext_alloc (ext_alloc (ext_refl _) _) _) B | exact ext_trans (ext_alloc (ext_alloc (ext_alloc (ext_refl _) _) _) _) B | exact ext_trans (ext_alloc (ext_alloc (ext_alloc (ext_alloc (ext_refl _) _) _) _) _) B
  have Ew1 := ext_trans (ext_refl w) X
  clear X B
  go_wp2_with fail
  refine (few_at (a := a) true (by simpa using fa) rfl la).mono ?_
  rintro e w2 ⟨rfl, B⟩
  have X : Below w1.heap.size w1 w2 := by first | exact B | exact ext_trans (ext_alloc (ext_refl _) _) B | exact ext_trans (ext_alloc (ext_alloc (ext_refl _) _) _) B | exact ext_trans (ext_alloc (ext_alloc (ext_alloc (ext_refl _) _) _) _) B | exact ext_trans (ext_alloc (ext_alloc (ext_alloc (ext_alloc (ext_refl _) _) _) _) _) B
  have Ew2 := ext_trans Ew1 X
  clear X B Ew1
  go_wp2_with fail
  refine (few_at (a := b) true (by simpa using fb) rfl lb).mono ?_
  rintro e w3 ⟨rfl, B⟩
  have X : Below w2.heap.size w2 w3 := by first | exact B | exact ext_trans (ext_alloc (ext_refl _) _) B | exact ext_trans (ext_alloc (ext_alloc (ext_refl _) _) _) B | exact ext_trans (ext_alloc (ext_alloc (ext_alloc (ext_refl _) _) _) _) B | exact ext_trans (ext_alloc (ext_alloc (ext_alloc (ext_alloc (ext_refl _) _) _) _) _) B
  have Ew3 := ext_trans Ew2 X
  clear X B Ew2
  clear fa la fb lb
  replace ha := ha.ext Ew3
  replace hb := hb.ext Ew3
  go_wp2_with fail
  refine (union_at (k := (nrm (un a b)).length) (a := a) (b := b) (nrm (un a b)) rfl rfl rfl (by first | exact ha | exact (ha).alloc _ | exact ((ha).alloc _).alloc _ | exact (((ha).alloc _).alloc _).alloc _) (by first | exact hb | exact (hb).alloc _ | exact ((hb).alloc _).alloc _ | exact (((hb).alloc _).alloc _).alloc _) na nb rfl).mono ?_
  rintro e w4 ⟨A1, c1, rfl, S1, B⟩
  have X : Below w3.heap.size w3 w4 := by first | exact B | exact ext_trans (ext_alloc (ext_refl _) _) B | exact ext_trans (ext_alloc (ext_alloc (ext_refl _) _) _) B | exact ext_trans (ext_alloc (ext_alloc (ext_alloc (ext_refl _) _) _) _) B | exact ext_trans (ext_alloc (ext_alloc (ext_alloc (ext_alloc (ext_refl _) _) _) _) _) B
  have Ew4 := ext_trans Ew3 X
  replace ha := ha.ext X
  replace hb := hb.ext X
  clear X B Ew3
  go_wp2_with fail
  refine (meet_at (k := (nrm (me a b)).length) (a := a) (b := b) (nrm (me a b)) rfl rfl rfl (by first | exact ha | exact (ha).alloc _ | exact ((ha).alloc _).alloc _ | exact (((ha).alloc _).alloc _).alloc _) (by first | exact hb | exact (hb).alloc _ | exact ((hb).alloc _).alloc _ | exact (((hb).alloc _).alloc _).alloc _) na nb rfl).mono ?_
  rintro e w5 ⟨A2, c2, rfl, S2, B⟩
  have X : Below w4.heap.size w4 w5 := by first | exact B | exact ext_trans (ext_alloc (ext_refl _) _) B | exact ext_trans (ext_alloc (ext_alloc (ext_refl _) _) _) B | exact ext_trans (ext_alloc (ext_alloc (ext_alloc (ext_refl _) _) _) _) B | exact ext_trans (ext_alloc (ext_alloc (ext_alloc (ext_alloc (ext_refl _) _) _) _) _) B
  have Ew5 := ext_trans Ew4 X
  replace ha := ha.ext X
  replace hb := hb.ext X
  replace S1 := S1.ext X
  clear X B Ew4
  go_wp2_with fail
  refine (minus_at (k := (nrm (mi a b)).length) (a := a) (b := b) (nrm (mi a b)) rfl rfl rfl (by first | exact ha | exact (ha).alloc _ | exact ((ha).alloc _).alloc _ | exact (((ha).alloc _).alloc _).alloc _) (by first | exact hb | exact (hb).alloc _ | exact ((hb).alloc _).alloc _ | exact (((hb).alloc _).alloc _).alloc _) na nb rfl).mono ?_
  rintro e w6 ⟨A3, c3, rfl, S3, B⟩
  have X : Below w5.heap.size w5 w6 := by first | exact B | exact ext_trans (ext_alloc (ext_refl _) _) B | exact ext_trans (ext_alloc (ext_alloc (ext_refl _) _) _) B | exact ext_trans (ext_alloc (ext_alloc (ext_alloc (ext_refl _) _) _) _) B | exact ext_trans (ext_alloc (ext_alloc (ext_alloc (ext_alloc (ext_refl _) _) _) _) _) B
  have Ew6 := ext_trans Ew5 X
  replace ha := ha.ext X
  replace hb := hb.ext X
  replace S1 := S1.ext X
  replace S2 := S2.ext X
  clear X B Ew5
  go_wp2_with fail
  refine (normal_at (k := (nor a).length) (a := a) (nor a) rfl rfl (by first | exact ha | exact (ha).alloc _ | exact ((ha).alloc _).alloc _ | exact (((ha).alloc _).alloc _).alloc _) na rfl).mono ?_
  rintro e w7 ⟨A4, c4, rfl, S4, B⟩
  have X : Below w6.heap.size w6 w7 := by first | exact B | exact ext_trans (ext_alloc (ext_refl _) _) B | exact ext_trans (ext_alloc (ext_alloc (ext_refl _) _) _) B | exact ext_trans (ext_alloc (ext_alloc (ext_alloc (ext_refl _) _) _) _) B | exact ext_trans (ext_alloc (ext_alloc (ext_alloc (ext_alloc (ext_refl _) _) _) _) _) B
  have Ew7 := ext_trans Ew6 X
  replace ha := ha.ext X
  replace hb := hb.ext X
  replace S1 := S1.ext X
  replace S2 := S2.ext X
  replace S3 := S3.ext X
  clear X B Ew6
  have HL := slc_litH w7 [(⟨A1, c1, nrm (un a b)⟩ : SliceOf Sp), ⟨A2, c2, nrm (me a b)⟩, ⟨A3, c3, nrm (mi a b)⟩, ⟨A4, c4, nor a⟩] #[.slice A1 (nrm (un a b)).length c1, .slice A2 (nrm (me a b)).length c2, .slice A3 (nrm (mi a b)).length c3, .slice A4 (nor a).length c4] 22 (enc := SliceOf.enc) (sz := 1) (fun _ => rfl) rfl w7.heap.size rfl
  have EL := ext_alloc (ext_refl w7) (.cells #[.slice A1 (nrm (un a b)).length c1, .slice A2 (nrm (me a b)).length c2, .slice A3 (nrm (mi a b)).length c3, .slice A4 (nor a).length c4] 22)
  have H4 : Hid (∀ s ∈ [(⟨A1, c1, nrm (un a b)⟩ : SliceOf Sp), ⟨A2, c2, nrm (me a b)⟩, ⟨A3, c3, nrm (mi a b)⟩, ⟨A4, c4, nor a⟩], Slc w7 Sp.cells 2 s.A s.l ∧ Norm 0 s.l ∧ s.l.length ≤ 1440) := by
    intro s hs
    simp only [List.mem_cons, List.not_mem_nil, or_false] at hs
    rcases hs with rfl | rfl | rfl | rfl
    · exact ⟨S1, nrm_norm _, nrm_len _⟩
    · exact ⟨S2, nrm_norm _, nrm_len _⟩
    · exact ⟨S3, nrm_norm _, nrm_len _⟩
    · exact ⟨S4, (nrm_norm _ : Norm 0 (nor a)), (nrm_len _ : (nor a).length ≤ 1440)⟩
  obtain ⟨LS, hLS⟩ : ∃ LS, [(⟨A1, c1, nrm (un a b)⟩ : SliceOf Sp), ⟨A2, c2, nrm (me a b)⟩, ⟨A3, c3, nrm (mi a b)⟩, ⟨A4, c4, nor a⟩] = LS := ⟨_, rfl⟩
  have hlen : LS.length = 4 := by rw [← hLS]; rfl
  rw [hLS] at HL H4
  have HLEN := Lib.hid hlen
  clear hLS hlen
  go_wp2_with fail
  replace EL := ext_trans Ew7 EL
  go_loopw [44] (fun i wr => ∃ k : Nat, k ≤ 4 ∧ i = .int .i64 k ∧ Below w7.heap.size w7 wr ∧ Slc wr SliceOf.enc 1 (some ⟨w7.heap.size, 0, none⟩) LS) (fun i _ => 4 - (intOf i).toNat)
  case atStart => exact ⟨0, by decide, rfl, ext_alloc (ext_refl _) _, HL⟩
  case round =>
    obtain ⟨k, hk, rfl, hB, hLw⟩ := hrel
    by_cases hlt : k < 4
    · obtain ⟨s, b1, o1, hs, e1, hb1, hc⟩ := hLw.at_ (k := k) (by rw [HLEN.out]; exact hlt)
      cases e1
      have c0 := hc 0 _ rfl
      simp only [Nat.mul_one, Nat.add_zero, Nat.zero_add] at c0
      obtain ⟨hS, hN, hNl⟩ := H4.out s (List.mem_of_getElem? hs)
      have HN := Lib.hid hN
      have HS := Lib.hid (hS.ext hB)
      have HLW := Lib.hid hLw
      have hi1 : (k : Int) < 4 := by omega
      clear hs hc hS hN hLw
      obtain ⟨wo, rfl⟩ : ∃ wo, wo = wr := ⟨_, rfl⟩
      go_wp2_with fail
      go_loopw [50] (fun i wr => ∃ q : Nat, q ≤ s.l.length ∧ i = .int .i64 q ∧ Below wo.heap.size wo wr) (fun i _ => s.l.length - (intOf i).toNat)
      case atStart => exact ⟨0, Nat.zero_le _, rfl, ext_refl _⟩
      case round =>
        obtain ⟨q, hq, rfl, hBo⟩ := hrel
        by_cases hlq : q < s.l.length
        · obtain ⟨x, b2, o2, hx, hA, hb2, hcx⟩ := (HS.out.ext hBo).at_ hlq
          obtain ⟨x1, x2, x3, x4⟩ := norm_get s.l 0 q x HN.out hx
          have d0 := hcx 0 _ rfl
          have d1 := hcx 1 _ rfl
          simp only [Nat.add_zero] at d0 d1
          have hi2 : (q : Int) < s.l.length := by omega
          have y1 : decide (x.f < 0) = false := by simpa using x1
          have y2 : decide (x.t ≤ x.f) = false := by simpa using x2
          have y3 : decide (1440 < x.t) = false := by simpa using x3
          have HA := Lib.hid hA
          have hEb := ext_alloc hBo (.cells #[.int .i64 x.f, .int .i64 x.t] 31)
          have HEb := Lib.hid hEb
          clear hEb
          rcases Nat.eq_zero_or_pos q with rfl | hq0
          · have y4 : decide ((0 : Int) < ((0 : Nat) : Int)) = false := by decide
            simp only [Nat.zero_mul, Nat.add_zero] at d0 d1
            clear hx hcx x4
            obtain ⟨sA, sc, sl⟩ := s
            simp only at hA
            subst hA
            simp only at *
            go_wp2_with fail
            go_quiet (fail)
            go_wp2_with fail
            go_roundw
            case rel => exact ⟨1, by omega, rfl, ext_drewN HEb.out _⟩
            case measure => simp [intOf]; omega
          · obtain ⟨p, rfl⟩ : ∃ p, q = p + 1 := ⟨q - 1, by omega⟩
            obtain ⟨y, b3, o3, hy, hA3, hb3, hcy⟩ := (HS.out.ext hBo).at_ (k := p) (by omega)
            have hxy := x4 p y (by omega) hy
            have z1 := hcy 1 _ rfl
            have y5 : decide (x.f ≤ y.t) = false := by simpa using hxy
            have hw1 : IntKind.i64.wrap ((p : Int) + 1 - 1) = p := by rw [show (p : Int) + 1 - 1 = p by omega]; exact IntWalk.i64_in _ (by omega)
            have hi3 : (p : Int) < s.l.length := by omega
            clear hx hcx x4 hy hcy
            obtain ⟨sA, sc, sl⟩ := s
            simp only at hA hA3
            subst hA
            cases hA3
            simp only at *
            have y4 : decide ((0 : Int) < (p : Int) + 1) = true := by simp
            go_wp2_with fail
            go_quiet (fail)
            go_wp2_with fail
            exact ⟨⟨p + 1 + 1, by omega, by go_num, ext_drewN HEb.out _⟩, by simp [intOf]; omega⟩
        · obtain ⟨sA, sc, sl⟩ := s
          have hS2 := HS.out.ext hBo
          simp only at *
          go_wp2_with fail
          refine (check_at (a := sl) 0 (norm_chk HN.out) rfl hS2 (by omega)).mono ?_
          rintro e w9 ⟨rfl, B9⟩
          have hB9 := ext_trans hB (ext_trans hBo B9)
          have hL9 := (HLW.out.ext hBo).ext B9
          clear B9 hBo hB hS2
          go_wp2_with fail
          go_roundw
          case rel => exact ⟨k + 1, by omega, by go_num, hB9, hL9⟩
          case measure => simp [intOf]; omega
    · have hi1 : ¬ (k : Int) < 4 := by omega
      replace ha := ha.ext hB
      replace hb := hb.ext hB
      replace S1 := S1.ext hB
      replace S2 := S2.ext hB
      replace S3 := S3.ext hB
      have EW := ext_trans Ew7 hB
      clear hLw EL S4
      obtain ⟨wo, rfl⟩ : ∃ wo, wo = wr := ⟨_, rfl⟩
      have HX := slc_litH wo [m, bits BinOp.and IntKind.i64 m 1023, 0, 1439] #[.int .i64 m, .int .i64 (bits BinOp.and IntKind.i64 m 1023), .int .i64 0, .int .i64 1439] 3 (enc := ic) (sz := 1) (fun _ => rfl) rfl wo.heap.size rfl
      obtain ⟨XS, hXS⟩ : ∃ XS, [m, bits BinOp.and IntKind.i64 m 1023, 0, 1439] = XS := ⟨_, rfl⟩
      have hlen : XS.length = 4 := by rw [← hXS]; rfl
      rw [hXS] at HX
      have HXL := Lib.hid hlen
      clear hXS hlen
      go_wp2_with fail
      go_loopw [95] (fun i wr => ∃ k : Nat, k ≤ 4 ∧ i = .int .i64 k ∧ Below wo.heap.size wo wr ∧ Slc wr ic 1 (some ⟨wo.heap.size, 0, none⟩) XS) (fun i _ => 4 - (intOf i).toNat)
      case atStart => exact ⟨0, by decide, rfl, ext_alloc (ext_refl _) _, HX⟩
      case round =>
        obtain ⟨q, hq, rfl, hBo, hXw⟩ := hrel
        by_cases hlq : q < 4
        · obtain ⟨x, b1, o1, hx, e1, hb1, hc⟩ := hXw.at_ (k := q) (by rw [HXL.out]; exact hlq)
          cases e1
          have d0 := hc 0 _ rfl
          simp only [Nat.mul_one, Nat.add_zero, Nat.zero_add] at d0
          have hi2 : (q : Int) < 4 := by omega
          obtain ⟨ra, hra⟩ : ∃ r, has a x = r := ⟨_, rfl⟩
          obtain ⟨rb, hrb⟩ : ∃ r, has b x = r := ⟨_, rfl⟩
          have h1 := has_un a b x
          have h2 := has_me a b x
          have h3 := has_mi a b x
          have h4 := has_nor a x
          rw [hra] at h1 h2 h3 h4
          rw [hrb] at h1 h2 h3
          have HRA := Lib.hid hra
          have HRB := Lib.hid hrb
          clear hra hrb hc hx
          have ga := ha.ext hBo
          have gb := hb.ext hBo
          have g1 := S1.ext hBo
          have g2 := S2.ext hBo
          have g3 := S3.ext hBo
          have HBO := Lib.hid hBo
          clear hi1 HL H4 hBo
          cases ra <;> cases rb
  
          · simp only [Bool.or_false, Bool.or_true, Bool.and_false, Bool.and_true, Bool.not_false, Bool.not_true] at h1 h2 h3
            have H1 := Lib.hid h1
            have H2 := Lib.hid h2
            have H3 := Lib.hid h3
            have H4 := Lib.hid h4
            clear h1 h2 h3 h4
            replace ga := ga
            go_wp2_with fail
            refine (has_at (a := a) false HRA.out rfl (by first | exact ga | exact (ga).alloc _ | exact ((ga).alloc _).alloc _ | exact (((ga).alloc _).alloc _).alloc _) na).mono ?_
            rintro e v1 ⟨rfl, B⟩
            have X : Below wr.heap.size wr v1 := by first | exact B | exact ext_trans (ext_alloc (ext_refl _) _) B | exact ext_trans (ext_alloc (ext_alloc (ext_refl _) _) _) B | exact ext_trans (ext_alloc (ext_alloc (ext_alloc (ext_refl _) _) _) _) B | exact ext_trans (ext_alloc (ext_alloc (ext_alloc (ext_alloc (ext_refl _) _) _) _) _) B
            have Ev1 := ext_trans (ext_refl wr) X
            replace ga := ga.ext X
            replace gb := gb.ext X
            replace g1 := g1.ext X
            replace g2 := g2.ext X
            replace g3 := g3.ext X
            replace hXw := hXw.ext X
            clear X B
            go_wp2_with fail
            refine (has_at (a := b) false HRB.out rfl (by first | exact gb | exact (gb).alloc _ | exact ((gb).alloc _).alloc _ | exact (((gb).alloc _).alloc _).alloc _) nb).mono ?_
            rintro e v2 ⟨rfl, B⟩
            have X : Below v1.heap.size v1 v2 := by first | exact B | exact ext_trans (ext_alloc (ext_refl _) _) B | exact ext_trans (ext_alloc (ext_alloc (ext_refl _) _) _) B | exact ext_trans (ext_alloc (ext_alloc (ext_alloc (ext_refl _) _) _) _) B | exact ext_trans (ext_alloc (ext_alloc (ext_alloc (ext_alloc (ext_refl _) _) _) _) _) B
            have Ev2 := ext_trans Ev1 X
            replace ga := ga.ext X
            replace g1 := g1.ext X
            replace g2 := g2.ext X
            replace g3 := g3.ext X
            replace hXw := hXw.ext X
            clear X B Ev1 gb
            go_wp2_with fail
            refine (has_at (a := nrm (un a b)) false H1.out rfl (by first | exact g1 | exact (g1).alloc _ | exact ((g1).alloc _).alloc _ | exact (((g1).alloc _).alloc _).alloc _) (nrm_lt _)).mono ?_
            rintro e v3 ⟨rfl, B⟩
            have X : Below v2.heap.size v2 v3 := by first | exact B | exact ext_trans (ext_alloc (ext_refl _) _) B | exact ext_trans (ext_alloc (ext_alloc (ext_refl _) _) _) B | exact ext_trans (ext_alloc (ext_alloc (ext_alloc (ext_refl _) _) _) _) B | exact ext_trans (ext_alloc (ext_alloc (ext_alloc (ext_alloc (ext_refl _) _) _) _) _) B
            have Ev3 := ext_trans Ev2 X
            replace ga := ga.ext X
            replace g2 := g2.ext X
            replace g3 := g3.ext X
            replace hXw := hXw.ext X
            clear X B Ev2 g1
            go_wp2_with fail
            refine (has_at (a := nrm (me a b)) false H2.out rfl (by first | exact g2 | exact (g2).alloc _ | exact ((g2).alloc _).alloc _ | exact (((g2).alloc _).alloc _).alloc _) (nrm_lt _)).mono ?_
            rintro e v4 ⟨rfl, B⟩
            have X : Below v3.heap.size v3 v4 := by first | exact B | exact ext_trans (ext_alloc (ext_refl _) _) B | exact ext_trans (ext_alloc (ext_alloc (ext_refl _) _) _) B | exact ext_trans (ext_alloc (ext_alloc (ext_alloc (ext_refl _) _) _) _) B | exact ext_trans (ext_alloc (ext_alloc (ext_alloc (ext_alloc (ext_refl _) _) _) _) _) B
            have Ev4 := ext_trans Ev3 X
            replace ga := ga.ext X
            replace g3 := g3.ext X
            replace hXw := hXw.ext X
            clear X B Ev3 g2
            go_wp2_with fail
            refine (has_at (a := nrm (mi a b)) false H3.out rfl (by first | exact g3 | exact (g3).alloc _ | exact ((g3).alloc _).alloc _ | exact (((g3).alloc _).alloc _).alloc _) (nrm_lt _)).mono ?_
            rintro e v5 ⟨rfl, B⟩
            have X : Below v4.heap.size v4 v5 := by first | exact B | exact ext_trans (ext_alloc (ext_refl _) _) B | exact ext_trans (ext_alloc (ext_alloc (ext_refl _) _) _) B | exact ext_trans (ext_alloc (ext_alloc (ext_alloc (ext_refl _) _) _) _) B | exact ext_trans (ext_alloc (ext_alloc (ext_alloc (ext_alloc (ext_refl _) _) _) _) _) B
            have Ev5 := ext_trans Ev4 X
            replace ga := ga.ext X
            replace hXw := hXw.ext X
            clear X B Ev4 g3
            go_wp2_with fail
            refine (normal_at (k := (nor a).length) (a := a) (nor a) rfl rfl (by first | exact ga | exact (ga).alloc _ | exact ((ga).alloc _).alloc _ | exact (((ga).alloc _).alloc _).alloc _) na rfl).mono ?_
            rintro e v6 ⟨A9, c9, rfl, S9, B⟩
            have X : Below v5.heap.size v5 v6 := by first | exact B | exact ext_trans (ext_alloc (ext_refl _) _) B | exact ext_trans (ext_alloc (ext_alloc (ext_refl _) _) _) B | exact ext_trans (ext_alloc (ext_alloc (ext_alloc (ext_refl _) _) _) _) B | exact ext_trans (ext_alloc (ext_alloc (ext_alloc (ext_alloc (ext_refl _) _) _) _) _) B
            have Ev6 := ext_trans Ev5 X
            replace hXw := hXw.ext X
            clear X B Ev5 ga
            go_wp2_with fail
            refine (has_at (a := nor a) false H4.out rfl (by first | exact S9 | exact (S9).alloc _ | exact ((S9).alloc _).alloc _ | exact (((S9).alloc _).alloc _).alloc _) (nrm_lt _)).mono ?_
            rintro e v7 ⟨rfl, B⟩
            have X : Below v6.heap.size v6 v7 := by first | exact B | exact ext_trans (ext_alloc (ext_refl _) _) B | exact ext_trans (ext_alloc (ext_alloc (ext_refl _) _) _) B | exact ext_trans (ext_alloc (ext_alloc (ext_alloc (ext_refl _) _) _) _) B | exact ext_trans (ext_alloc (ext_alloc (ext_alloc (ext_alloc (ext_refl _) _) _) _) _) B
            have Ev7 := ext_trans Ev6 X
            replace hXw := hXw.ext X
            clear X B Ev6 S9
            go_wp2_with fail
            go_roundw
            case rel => exact ⟨q + 1, by omega, by go_num, ext_trans HBO.out Ev7, hXw⟩
            case measure => simp [intOf]; omega
          · simp only [Bool.or_false, Bool.or_true, Bool.and_false, Bool.and_true, Bool.not_false, Bool.not_true] at h1 h2 h3
            have H1 := Lib.hid h1
            have H2 := Lib.hid h2
            have H3 := Lib.hid h3
            have H4 := Lib.hid h4
            clear h1 h2 h3 h4
            replace ga := ga
            go_wp2_with fail
            refine (has_at (a := a) false HRA.out rfl (by first | exact ga | exact (ga).alloc _ | exact ((ga).alloc _).alloc _ | exact (((ga).alloc _).alloc _).alloc _) na).mono ?_
            rintro e v1 ⟨rfl, B⟩
            have X : Below wr.heap.size wr v1 := by first | exact B | exact ext_trans (ext_alloc (ext_refl _) _) B | exact ext_trans (ext_alloc (ext_alloc (ext_refl _) _) _) B | exact ext_trans (ext_alloc (ext_alloc (ext_alloc (ext_refl _) _) _) _) B | exact ext_trans (ext_alloc (ext_alloc (ext_alloc (ext_alloc (ext_refl _) _) _) _) _) B
            have Ev1 := ext_trans (ext_refl wr) X
            replace ga := ga.ext X
            replace gb := gb.ext X
            replace g1 := g1.ext X
            replace g2 := g2.ext X
            replace g3 := g3.ext X
            replace hXw := hXw.ext X
            clear X B
            go_wp2_with fail
            refine (has_at (a := b) true HRB.out rfl (by first | exact gb | exact (gb).alloc _ | exact ((gb).alloc _).alloc _ | exact (((gb).alloc _).alloc _).alloc _) nb).mono ?_
            rintro e v2 ⟨rfl, B⟩
            have X : Below v1.heap.size v1 v2 := by first | exact B | exact ext_trans (ext_alloc (ext_refl _) _) B | exact ext_trans (ext_alloc (ext_alloc (ext_refl _) _) _) B | exact ext_trans (ext_alloc (ext_alloc (ext_alloc (ext_refl _) _) _) _) B | exact ext_trans (ext_alloc (ext_alloc (ext_alloc (ext_alloc (ext_refl _) _) _) _) _) B
            have Ev2 := ext_trans Ev1 X
            replace ga := ga.ext X
            replace g1 := g1.ext X
            replace g2 := g2.ext X
            replace g3 := g3.ext X
            replace hXw := hXw.ext X
            clear X B Ev1 gb
            go_wp2_with fail
            refine (has_at (a := nrm (un a b)) true H1.out rfl (by first | exact g1 | exact (g1).alloc _ | exact ((g1).alloc _).alloc _ | exact (((g1).alloc _).alloc _).alloc _) (nrm_lt _)).mono ?_
            rintro e v3 ⟨rfl, B⟩
            have X : Below v2.heap.size v2 v3 := by first | exact B | exact ext_trans (ext_alloc (ext_refl _) _) B | exact ext_trans (ext_alloc (ext_alloc (ext_refl _) _) _) B | exact ext_trans (ext_alloc (ext_alloc (ext_alloc (ext_refl _) _) _) _) B | exact ext_trans (ext_alloc (ext_alloc (ext_alloc (ext_alloc (ext_refl _) _) _) _) _) B
            have Ev3 := ext_trans Ev2 X
            replace ga := ga.ext X
            replace g2 := g2.ext X
            replace g3 := g3.ext X
            replace hXw := hXw.ext X
            clear X B Ev2 g1
            go_wp2_with fail
            refine (has_at (a := nrm (me a b)) false H2.out rfl (by first | exact g2 | exact (g2).alloc _ | exact ((g2).alloc _).alloc _ | exact (((g2).alloc _).alloc _).alloc _) (nrm_lt _)).mono ?_
            rintro e v4 ⟨rfl, B⟩
            have X : Below v3.heap.size v3 v4 := by first | exact B | exact ext_trans (ext_alloc (ext_refl _) _) B | exact ext_trans (ext_alloc (ext_alloc (ext_refl _) _) _) B | exact ext_trans (ext_alloc (ext_alloc (ext_alloc (ext_refl _) _) _) _) B | exact ext_trans (ext_alloc (ext_alloc (ext_alloc (ext_alloc (ext_refl _) _) _) _) _) B
            have Ev4 := ext_trans Ev3 X
            replace ga := ga.ext X
            replace g3 := g3.ext X
            replace hXw := hXw.ext X
            clear X B Ev3 g2
            go_wp2_with fail
            refine (has_at (a := nrm (mi a b)) false H3.out rfl (by first | exact g3 | exact (g3).alloc _ | exact ((g3).alloc _).alloc _ | exact (((g3).alloc _).alloc _).alloc _) (nrm_lt _)).mono ?_
            rintro e v5 ⟨rfl, B⟩
            have X : Below v4.heap.size v4 v5 := by first | exact B | exact ext_trans (ext_alloc (ext_refl _) _) B | exact ext_trans (ext_alloc (ext_alloc (ext_refl _) _) _) B | exact ext_trans (ext_alloc (ext_alloc (ext_alloc (ext_refl _) _) _) _) B | exact ext_trans (ext_alloc (ext_alloc (ext_alloc (ext_alloc (ext_refl _) _) _) _) _) B
            have Ev5 := ext_trans Ev4 X
            replace ga := ga.ext X
            replace hXw := hXw.ext X
            clear X B Ev4 g3
            go_wp2_with fail
            refine (normal_at (k := (nor a).length) (a := a) (nor a) rfl rfl (by first | exact ga | exact (ga).alloc _ | exact ((ga).alloc _).alloc _ | exact (((ga).alloc _).alloc _).alloc _) na rfl).mono ?_
            rintro e v6 ⟨A9, c9, rfl, S9, B⟩
            have X : Below v5.heap.size v5 v6 := by first | exact B | exact ext_trans (ext_alloc (ext_refl _) _) B | exact ext_trans (ext_alloc (ext_alloc (ext_refl _) _) _) B | exact ext_trans (ext_alloc (ext_alloc (ext_alloc (ext_refl _) _) _) _) B | exact ext_trans (ext_alloc (ext_alloc (ext_alloc (ext_alloc (ext_refl _) _) _) _) _) B
            have Ev6 := ext_trans Ev5 X
            replace hXw := hXw.ext X
            clear X B Ev5 ga
            go_wp2_with fail
            refine (has_at (a := nor a) false H4.out rfl (by first | exact S9 | exact (S9).alloc _ | exact ((S9).alloc _).alloc _ | exact (((S9).alloc _).alloc _).alloc _) (nrm_lt _)).mono ?_
            rintro e v7 ⟨rfl, B⟩
            have X : Below v6.heap.size v6 v7 := by first | exact B | exact ext_trans (ext_alloc (ext_refl _) _) B | exact ext_trans (ext_alloc (ext_alloc (ext_refl _) _) _) B | exact ext_trans (ext_alloc (ext_alloc (ext_alloc (ext_refl _) _) _) _) B | exact ext_trans (ext_alloc (ext_alloc (ext_alloc (ext_alloc (ext_refl _) _) _) _) _) B
            have Ev7 := ext_trans Ev6 X
            replace hXw := hXw.ext X
            clear X B Ev6 S9
            go_wp2_with fail
            go_roundw
            case rel => exact ⟨q + 1, by omega, by go_num, ext_trans HBO.out Ev7, hXw⟩
            case measure => simp [intOf]; omega
          · simp only [Bool.or_false, Bool.or_true, Bool.and_false, Bool.and_true, Bool.not_false, Bool.not_true] at h1 h2 h3
            have H1 := Lib.hid h1
            have H2 := Lib.hid h2
            have H3 := Lib.hid h3
            have H4 := Lib.hid h4
            clear h1 h2 h3 h4
            replace ga := ga
            go_wp2_with fail
            refine (has_at (a := a) true HRA.out rfl (by first | exact ga | exact (ga).alloc _ | exact ((ga).alloc _).alloc _ | exact (((ga).alloc _).alloc _).alloc _) na).mono ?_
            rintro e v1 ⟨rfl, B⟩
            have X : Below wr.heap.size wr v1 := by first | exact B | exact ext_trans (ext_alloc (ext_refl _) _) B | exact ext_trans (ext_alloc (ext_alloc (ext_refl _) _) _) B | exact ext_trans (ext_alloc (ext_alloc (ext_alloc (ext_refl _) _) _) _) B | exact ext_trans (ext_alloc (ext_alloc (ext_alloc (ext_alloc (ext_refl _) _) _) _) _) B
            have Ev1 := ext_trans (ext_refl wr) X
            replace ga := ga.ext X
            replace gb := gb.ext X
            replace g1 := g1.ext X
            replace g2 := g2.ext X
            replace g3 := g3.ext X
            replace hXw := hXw.ext X
            clear X B
            go_wp2_with fail
            refine (has_at (a := b) false HRB.out rfl (by first | exact gb | exact (gb).alloc _ | exact ((gb).alloc _).alloc _ | exact (((gb).alloc _).alloc _).alloc _) nb).mono ?_
            rintro e v2 ⟨rfl, B⟩
            have X : Below v1.heap.size v1 v2 := by first | exact B | exact ext_trans (ext_alloc (ext_refl _) _) B | exact ext_trans (ext_alloc (ext_alloc (ext_refl _) _) _) B | exact ext_trans (ext_alloc (ext_alloc (ext_alloc (ext_refl _) _) _) _) B | exact ext_trans (ext_alloc (ext_alloc (ext_alloc (ext_alloc (ext_refl _) _) _) _) _) B
            have Ev2 := ext_trans Ev1 X
            replace ga := ga.ext X
            replace g1 := g1.ext X
            replace g2 := g2.ext X
            replace g3 := g3.ext X
            replace hXw := hXw.ext X
            clear X B Ev1 gb
            go_wp2_with fail
            refine (has_at (a := nrm (un a b)) true H1.out rfl (by first | exact g1 | exact (g1).alloc _ | exact ((g1).alloc _).alloc _ | exact (((g1).alloc _).alloc _).alloc _) (nrm_lt _)).mono ?_
            rintro e v3 ⟨rfl, B⟩
            have X : Below v2.heap.size v2 v3 := by first | exact B | exact ext_trans (ext_alloc (ext_refl _) _) B | exact ext_trans (ext_alloc (ext_alloc (ext_refl _) _) _) B | exact ext_trans (ext_alloc (ext_alloc (ext_alloc (ext_refl _) _) _) _) B | exact ext_trans (ext_alloc (ext_alloc (ext_alloc (ext_alloc (ext_refl _) _) _) _) _) B
            have Ev3 := ext_trans Ev2 X
            replace ga := ga.ext X
            replace g2 := g2.ext X
            replace g3 := g3.ext X
            replace hXw := hXw.ext X
            clear X B Ev2 g1
            go_wp2_with fail
            refine (has_at (a := nrm (me a b)) false H2.out rfl (by first | exact g2 | exact (g2).alloc _ | exact ((g2).alloc _).alloc _ | exact (((g2).alloc _).alloc _).alloc _) (nrm_lt _)).mono ?_
            rintro e v4 ⟨rfl, B⟩
            have X : Below v3.heap.size v3 v4 := by first | exact B | exact ext_trans (ext_alloc (ext_refl _) _) B | exact ext_trans (ext_alloc (ext_alloc (ext_refl _) _) _) B | exact ext_trans (ext_alloc (ext_alloc (ext_alloc (ext_refl _) _) _) _) B | exact ext_trans (ext_alloc (ext_alloc (ext_alloc (ext_alloc (ext_refl _) _) _) _) _) B
            have Ev4 := ext_trans Ev3 X
            replace ga := ga.ext X
            replace g3 := g3.ext X
            replace hXw := hXw.ext X
            clear X B Ev3 g2
            go_wp2_with fail
            refine (has_at (a := nrm (mi a b)) true H3.out rfl (by first | exact g3 | exact (g3).alloc _ | exact ((g3).alloc _).alloc _ | exact (((g3).alloc _).alloc _).alloc _) (nrm_lt _)).mono ?_
            rintro e v5 ⟨rfl, B⟩
            have X : Below v4.heap.size v4 v5 := by first | exact B | exact ext_trans (ext_alloc (ext_refl _) _) B | exact ext_trans (ext_alloc (ext_alloc (ext_refl _) _) _) B | exact ext_trans (ext_alloc (ext_alloc (ext_alloc (ext_refl _) _) _) _) B | exact ext_trans (ext_alloc (ext_alloc (ext_alloc (ext_alloc (ext_refl _) _) _) _) _) B
            have Ev5 := ext_trans Ev4 X
            replace ga := ga.ext X
            replace hXw := hXw.ext X
            clear X B Ev4 g3
            go_wp2_with fail
            refine (normal_at (k := (nor a).length) (a := a) (nor a) rfl rfl (by first | exact ga | exact (ga).alloc _ | exact ((ga).alloc _).alloc _ | exact (((ga).alloc _).alloc _).alloc _) na rfl).mono ?_
            rintro e v6 ⟨A9, c9, rfl, S9, B⟩
            have X : Below v5.heap.size v5 v6 := by first | exact B | exact ext_trans (ext_alloc (ext_refl _) _) B | exact ext_trans (ext_alloc (ext_alloc (ext_refl _) _) _) B | exact ext_trans (ext_alloc (ext_alloc (ext_alloc (ext_refl _) _) _) _) B | exact ext_trans (ext_alloc (ext_alloc (ext_alloc (ext_alloc (ext_refl _) _) _) _) _) B
            have Ev6 := ext_trans Ev5 X
            replace hXw := hXw.ext X
            clear X B Ev5 ga
            go_wp2_with fail
            refine (has_at (a := nor a) true H4.out rfl (by first | exact S9 | exact (S9).alloc _ | exact ((S9).alloc _).alloc _ | exact (((S9).alloc _).alloc _).alloc _) (nrm_lt _)).mono ?_
            rintro e v7 ⟨rfl, B⟩
            have X : Below v6.heap.size v6 v7 := by first | exact B | exact ext_trans (ext_alloc (ext_refl _) _) B | exact ext_trans (ext_alloc (ext_alloc (ext_refl _) _) _) B | exact ext_trans (ext_alloc (ext_alloc (ext_alloc (ext_refl _) _) _) _) B | exact ext_trans (ext_alloc (ext_alloc (ext_alloc (ext_alloc (ext_refl _) _) _) _) _) B
            have Ev7 := ext_trans Ev6 X
            replace hXw := hXw.ext X
            clear X B Ev6 S9
            go_wp2_with fail
            go_roundw
            case rel => exact ⟨q + 1, by omega, by go_num, ext_trans HBO.out Ev7, hXw⟩
            case measure => simp [intOf]; omega
          · simp only [Bool.or_false, Bool.or_true, Bool.and_false, Bool.and_true, Bool.not_false, Bool.not_true] at h1 h2 h3
            have H1 := Lib.hid h1
            have H2 := Lib.hid h2
            have H3 := Lib.hid h3
            have H4 := Lib.hid h4
            clear h1 h2 h3 h4
            replace ga := ga
            go_wp2_with fail
            refine (has_at (a := a) true HRA.out rfl (by first | exact ga | exact (ga).alloc _ | exact ((ga).alloc _).alloc _ | exact (((ga).alloc _).alloc _).alloc _) na).mono ?_
            rintro e v1 ⟨rfl, B⟩
            have X : Below wr.heap.size wr v1 := by first | exact B | exact ext_trans (ext_alloc (ext_refl _) _) B | exact ext_trans (ext_alloc (ext_alloc (ext_refl _) _) _) B | exact ext_trans (ext_alloc (ext_alloc (ext_alloc (ext_refl _) _) _) _) B | exact ext_trans (ext_alloc (ext_alloc (ext_alloc (ext_alloc (ext_refl _) _) _) _) _) B
            have Ev1 := ext_trans (ext_refl wr) X
            replace ga := ga.ext X
            replace gb := gb.ext X
            replace g1 := g1.ext X
            replace g2 := g2.ext X
            replace g3 := g3.ext X
            replace hXw := hXw.ext X
            clear X B
            go_wp2_with fail
            refine (has_at (a := b) true HRB.out rfl (by first | exact gb | exact (gb).alloc _ | exact ((gb).alloc _).alloc _ | exact (((gb).alloc _).alloc _).alloc _) nb).mono ?_
            rintro e v2 ⟨rfl, B⟩
            have X : Below v1.heap.size v1 v2 := by first | exact B | exact ext_trans (ext_alloc (ext_refl _) _) B | exact ext_trans (ext_alloc (ext_alloc (ext_refl _) _) _) B | exact ext_trans (ext_alloc (ext_alloc (ext_alloc (ext_refl _) _) _) _) B | exact ext_trans (ext_alloc (ext_alloc (ext_alloc (ext_alloc (ext_refl _) _) _) _) _) B
            have Ev2 := ext_trans Ev1 X
            replace ga := ga.ext X
            replace g1 := g1.ext X
            replace g2 := g2.ext X
            replace g3 := g3.ext X
            replace hXw := hXw.ext X
            clear X B Ev1 gb
            go_wp2_with fail
            refine (has_at (a := nrm (un a b)) true H1.out rfl (by first | exact g1 | exact (g1).alloc _ | exact ((g1).alloc _).alloc _ | exact (((g1).alloc _).alloc _).alloc _) (nrm_lt _)).mono ?_
            rintro e v3 ⟨rfl, B⟩
            have X : Below v2.heap.size v2 v3 := by first | exact B | exact ext_trans (ext_alloc (ext_refl _) _) B | exact ext_trans (ext_alloc (ext_alloc (ext_refl _) _) _) B | exact ext_trans (ext_alloc (ext_alloc (ext_alloc (ext_refl _) _) _) _) B | exact ext_trans (ext_alloc (ext_alloc (ext_alloc (ext_alloc (ext_refl _) _) _) _) _) B
            have Ev3 := ext_trans Ev2 X
            replace ga := ga.ext X
            replace g2 := g2.ext X
            replace g3 := g3.ext X
            replace hXw := hXw.ext X
            clear X B Ev2 g1
            go_wp2_with fail
            refine (has_at (a := nrm (me a b)) true H2.out rfl (by first | exact g2 | exact (g2).alloc _ | exact ((g2).alloc _).alloc _ | exact (((g2).alloc _).alloc _).alloc _) (nrm_lt _)).mono ?_
            rintro e v4 ⟨rfl, B⟩
            have X : Below v3.heap.size v3 v4 := by first | exact B | exact ext_trans (ext_alloc (ext_refl _) _) B | exact ext_trans (ext_alloc (ext_alloc (ext_refl _) _) _) B | exact ext_trans (ext_alloc (ext_alloc (ext_alloc (ext_refl _) _) _) _) B | exact ext_trans (ext_alloc (ext_alloc (ext_alloc (ext_alloc (ext_refl _) _) _) _) _) B
            have Ev4 := ext_trans Ev3 X
            replace ga := ga.ext X
            replace g3 := g3.ext X
            replace hXw := hXw.ext X
            clear X B Ev3 g2
            go_wp2_with fail
            refine (has_at (a := nrm (mi a b)) false H3.out rfl (by first | exact g3 | exact (g3).alloc _ | exact ((g3).alloc _).alloc _ | exact (((g3).alloc _).alloc _).alloc _) (nrm_lt _)).mono ?_
            rintro e v5 ⟨rfl, B⟩
            have X : Below v4.heap.size v4 v5 := by first | exact B | exact ext_trans (ext_alloc (ext_refl _) _) B | exact ext_trans (ext_alloc (ext_alloc (ext_refl _) _) _) B | exact ext_trans (ext_alloc (ext_alloc (ext_alloc (ext_refl _) _) _) _) B | exact ext_trans (ext_alloc (ext_alloc (ext_alloc (ext_alloc (ext_refl _) _) _) _) _) B
            have Ev5 := ext_trans Ev4 X
            replace ga := ga.ext X
            replace hXw := hXw.ext X
            clear X B Ev4 g3
            go_wp2_with fail
            refine (normal_at (k := (nor a).length) (a := a) (nor a) rfl rfl (by first | exact ga | exact (ga).alloc _ | exact ((ga).alloc _).alloc _ | exact (((ga).alloc _).alloc _).alloc _) na rfl).mono ?_
            rintro e v6 ⟨A9, c9, rfl, S9, B⟩
            have X : Below v5.heap.size v5 v6 := by first | exact B | exact ext_trans (ext_alloc (ext_refl _) _) B | exact ext_trans (ext_alloc (ext_alloc (ext_refl _) _) _) B | exact ext_trans (ext_alloc (ext_alloc (ext_alloc (ext_refl _) _) _) _) B | exact ext_trans (ext_alloc (ext_alloc (ext_alloc (ext_alloc (ext_refl _) _) _) _) _) B
            have Ev6 := ext_trans Ev5 X
            replace hXw := hXw.ext X
            clear X B Ev5 ga
            go_wp2_with fail
            refine (has_at (a := nor a) true H4.out rfl (by first | exact S9 | exact (S9).alloc _ | exact ((S9).alloc _).alloc _ | exact (((S9).alloc _).alloc _).alloc _) (nrm_lt _)).mono ?_
            rintro e v7 ⟨rfl, B⟩
            have X : Below v6.heap.size v6 v7 := by first | exact B | exact ext_trans (ext_alloc (ext_refl _) _) B | exact ext_trans (ext_alloc (ext_alloc (ext_refl _) _) _) B | exact ext_trans (ext_alloc (ext_alloc (ext_alloc (ext_refl _) _) _) _) B | exact ext_trans (ext_alloc (ext_alloc (ext_alloc (ext_alloc (ext_refl _) _) _) _) _) B
            have Ev7 := ext_trans Ev6 X
            replace hXw := hXw.ext X
            clear X B Ev6 S9
            go_wp2_with fail
            go_roundw
            case rel => exact ⟨q + 1, by omega, by go_num, ext_trans HBO.out Ev7, hXw⟩
            case measure => simp [intOf]; omega
        · have hi2 : ¬ (q : Int) < 4 := by omega
          go_wp2_with fail
          go_ret
          exact ⟨rfl, ext_trans EW hBo⟩
end Go.Proofs.Ytkannbmmgkohjaa
