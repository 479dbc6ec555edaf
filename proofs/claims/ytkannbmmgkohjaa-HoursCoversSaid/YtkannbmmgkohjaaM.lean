/- The chapter's examples. -/
import Derived.Test.YtkannbmmgkohjaaL
namespace Go.Proofs.Ytkannbmmgkohjaa
open Go.RowKit Go.Shelf
set_option maxHeartbeats 8000000 in
set_option maxRecDepth 100000 in
theorem sane_any (w : World) : Calls Try.prog 10 #[] w (Tru w) := by
  go_enter Try.func10, Try.ntmps10
  go_wp2_with fail
  refine (spans_at (k := 1) [⟨0, 1440⟩] (by first | exact slc_litH _ [⟨0, 1440⟩] _ 3 (enc := Sp.cells) (sz := 2) (fun _ => rfl) rfl _ (by first | rfl | simp) | exact (slc_litH _ [⟨0, 1440⟩] _ 3 (enc := Sp.cells) (sz := 2) (fun _ => rfl) rfl _ (by first | rfl | simp)).alloc _ | exact ((slc_litH _ [⟨0, 1440⟩] _ 3 (enc := Sp.cells) (sz := 2) (fun _ => rfl) rfl _ (by first | rfl | simp)).alloc _).alloc _ | exact (((slc_litH _ [⟨0, 1440⟩] _ 3 (enc := Sp.cells) (sz := 2) (fun _ => rfl) rfl _ (by first | rfl | simp)).alloc _).alloc _).alloc _) (by decide) (by rfl) rfl).mono ?_
  rintro e w1 ⟨A1, c1, rfl, S1, B⟩
  have X : Below w.heap.size w w1 := by first | exact B | exact ext_trans (ext_alloc (ext_refl _) _) B | exact ext_trans (ext_alloc (ext_alloc (ext_refl _) _) _) B | exact ext_trans (ext_alloc (ext_alloc (ext_alloc (ext_refl _) _) _) _) B | exact ext_trans (ext_alloc (ext_alloc (ext_alloc (ext_alloc (ext_refl _) _) _) _) _) B
  have Ew1 := ext_trans (ext_refl w) X
  clear X B
  go_wp2_with fail
  refine (spans_at (k := 2) [⟨10, 20⟩, ⟨15, 30⟩] (by first | exact slc_litH _ [⟨10, 20⟩, ⟨15, 30⟩] _ 3 (enc := Sp.cells) (sz := 2) (fun _ => rfl) rfl _ (by first | rfl | simp) | exact (slc_litH _ [⟨10, 20⟩, ⟨15, 30⟩] _ 3 (enc := Sp.cells) (sz := 2) (fun _ => rfl) rfl _ (by first | rfl | simp)).alloc _ | exact ((slc_litH _ [⟨10, 20⟩, ⟨15, 30⟩] _ 3 (enc := Sp.cells) (sz := 2) (fun _ => rfl) rfl _ (by first | rfl | simp)).alloc _).alloc _ | exact (((slc_litH _ [⟨10, 20⟩, ⟨15, 30⟩] _ 3 (enc := Sp.cells) (sz := 2) (fun _ => rfl) rfl _ (by first | rfl | simp)).alloc _).alloc _).alloc _) (by decide) (by rfl) rfl).mono ?_
  rintro e w2 ⟨A2, c2, rfl, S2, B⟩
  have X : Below w1.heap.size w1 w2 := by first | exact B | exact ext_trans (ext_alloc (ext_refl _) _) B | exact ext_trans (ext_alloc (ext_alloc (ext_refl _) _) _) B | exact ext_trans (ext_alloc (ext_alloc (ext_alloc (ext_refl _) _) _) _) B | exact ext_trans (ext_alloc (ext_alloc (ext_alloc (ext_alloc (ext_refl _) _) _) _) _) B
  have Ew2 := ext_trans Ew1 X
  replace S1 := S1.ext X
  clear X B Ew1
  go_wp2_with fail
  refine (normal_at (k := 1) (a := [⟨10, 20⟩, ⟨15, 30⟩]) [⟨10, 30⟩] (by decide +kernel) rfl (by first | exact S2 | exact (S2).alloc _ | exact ((S2).alloc _).alloc _ | exact (((S2).alloc _).alloc _).alloc _) (by decide) rfl).mono ?_
  rintro e w3 ⟨A3, c3, rfl, S3, B⟩
  have X : Below w2.heap.size w2 w3 := by first | exact B | exact ext_trans (ext_alloc (ext_refl _) _) B | exact ext_trans (ext_alloc (ext_alloc (ext_refl _) _) _) B | exact ext_trans (ext_alloc (ext_alloc (ext_alloc (ext_refl _) _) _) _) B | exact ext_trans (ext_alloc (ext_alloc (ext_alloc (ext_alloc (ext_refl _) _) _) _) _) B
  have Ew3 := ext_trans Ew2 X
  replace S1 := S1.ext X
  clear X B Ew2 S2
  go_wp2_with fail
  refine (spans_at (k := 1) [⟨10, 30⟩] (by first | exact slc_litH _ [⟨10, 30⟩] _ 3 (enc := Sp.cells) (sz := 2) (fun _ => rfl) rfl _ (by first | rfl | simp) | exact (slc_litH _ [⟨10, 30⟩] _ 3 (enc := Sp.cells) (sz := 2) (fun _ => rfl) rfl _ (by first | rfl | simp)).alloc _ | exact ((slc_litH _ [⟨10, 30⟩] _ 3 (enc := Sp.cells) (sz := 2) (fun _ => rfl) rfl _ (by first | rfl | simp)).alloc _).alloc _ | exact (((slc_litH _ [⟨10, 30⟩] _ 3 (enc := Sp.cells) (sz := 2) (fun _ => rfl) rfl _ (by first | rfl | simp)).alloc _).alloc _).alloc _) (by decide) (by rfl) rfl).mono ?_
  rintro e w4 ⟨A4, c4, rfl, S4, B⟩
  have X : Below w3.heap.size w3 w4 := by first | exact B | exact ext_trans (ext_alloc (ext_refl _) _) B | exact ext_trans (ext_alloc (ext_alloc (ext_refl _) _) _) B | exact ext_trans (ext_alloc (ext_alloc (ext_alloc (ext_refl _) _) _) _) B | exact ext_trans (ext_alloc (ext_alloc (ext_alloc (ext_alloc (ext_refl _) _) _) _) _) B
  have Ew4 := ext_trans Ew3 X
  replace S1 := S1.ext X
  replace S3 := S3.ext X
  clear X B Ew3
  go_wp2_with fail
  refine (sameSp (a := [⟨10, 30⟩]) (b := [⟨10, 30⟩]) true (by decide +kernel) rfl rfl (by first | exact S3 | exact (S3).alloc _ | exact ((S3).alloc _).alloc _ | exact (((S3).alloc _).alloc _).alloc _) (by first | exact S4 | exact (S4).alloc _ | exact ((S4).alloc _).alloc _ | exact (((S4).alloc _).alloc _).alloc _) (by decide)).mono ?_
  rintro e w5 ⟨rfl, B⟩
  have X : Below w4.heap.size w4 w5 := by first | exact B | exact ext_trans (ext_alloc (ext_refl _) _) B | exact ext_trans (ext_alloc (ext_alloc (ext_refl _) _) _) B | exact ext_trans (ext_alloc (ext_alloc (ext_alloc (ext_refl _) _) _) _) B | exact ext_trans (ext_alloc (ext_alloc (ext_alloc (ext_alloc (ext_refl _) _) _) _) _) B
  have Ew5 := ext_trans Ew4 X
  replace S1 := S1.ext X
  clear X B Ew4 S3 S4
  go_wp2_with fail
  refine (spans_at (k := 1) [⟨-5, 2000⟩] (by first | exact slc_litH _ [⟨-5, 2000⟩] _ 3 (enc := Sp.cells) (sz := 2) (fun _ => rfl) rfl _ (by first | rfl | simp) | exact (slc_litH _ [⟨-5, 2000⟩] _ 3 (enc := Sp.cells) (sz := 2) (fun _ => rfl) rfl _ (by first | rfl | simp)).alloc _ | exact ((slc_litH _ [⟨-5, 2000⟩] _ 3 (enc := Sp.cells) (sz := 2) (fun _ => rfl) rfl _ (by first | rfl | simp)).alloc _).alloc _ | exact (((slc_litH _ [⟨-5, 2000⟩] _ 3 (enc := Sp.cells) (sz := 2) (fun _ => rfl) rfl _ (by first | rfl | simp)).alloc _).alloc _).alloc _) (by decide) (by rfl) rfl).mono ?_
  rintro e w6 ⟨A5, c5, rfl, S5, B⟩
  have X : Below w5.heap.size w5 w6 := by first | exact B | exact ext_trans (ext_alloc (ext_refl _) _) B | exact ext_trans (ext_alloc (ext_alloc (ext_refl _) _) _) B | exact ext_trans (ext_alloc (ext_alloc (ext_alloc (ext_refl _) _) _) _) B | exact ext_trans (ext_alloc (ext_alloc (ext_alloc (ext_alloc (ext_refl _) _) _) _) _) B
  have Ew6 := ext_trans Ew5 X
  replace S1 := S1.ext X
  clear X B Ew5
  go_wp2_with fail
  refine (normal_at (k := 1) (a := [⟨-5, 2000⟩]) [⟨0, 1440⟩] (by decide +kernel) rfl (by first | exact S5 | exact (S5).alloc _ | exact ((S5).alloc _).alloc _ | exact (((S5).alloc _).alloc _).alloc _) (by decide) rfl).mono ?_
  rintro e w7 ⟨A6, c6, rfl, S6, B⟩
  have X : Below w6.heap.size w6 w7 := by first | exact B | exact ext_trans (ext_alloc (ext_refl _) _) B | exact ext_trans (ext_alloc (ext_alloc (ext_refl _) _) _) B | exact ext_trans (ext_alloc (ext_alloc (ext_alloc (ext_refl _) _) _) _) B | exact ext_trans (ext_alloc (ext_alloc (ext_alloc (ext_alloc (ext_refl _) _) _) _) _) B
  have Ew7 := ext_trans Ew6 X
  replace S1 := S1.ext X
  clear X B Ew6 S5
  go_wp2_with fail
  refine (sameSp (a := [⟨0, 1440⟩]) (b := [⟨0, 1440⟩]) true (by decide +kernel) rfl rfl (by first | exact S6 | exact (S6).alloc _ | exact ((S6).alloc _).alloc _ | exact (((S6).alloc _).alloc _).alloc _) (by first | exact S1 | exact (S1).alloc _ | exact ((S1).alloc _).alloc _ | exact (((S1).alloc _).alloc _).alloc _) (by decide)).mono ?_
  rintro e w8 ⟨rfl, B⟩
  have X : Below w7.heap.size w7 w8 := by first | exact B | exact ext_trans (ext_alloc (ext_refl _) _) B | exact ext_trans (ext_alloc (ext_alloc (ext_refl _) _) _) B | exact ext_trans (ext_alloc (ext_alloc (ext_alloc (ext_refl _) _) _) _) B | exact ext_trans (ext_alloc (ext_alloc (ext_alloc (ext_alloc (ext_refl _) _) _) _) _) B
  have Ew8 := ext_trans Ew7 X
  replace S1 := S1.ext X
  clear X B Ew7 S6
  go_wp2_with fail
  refine (spans_at (k := 1) [⟨5, 5⟩] (by first | exact slc_litH _ [⟨5, 5⟩] _ 3 (enc := Sp.cells) (sz := 2) (fun _ => rfl) rfl _ (by first | rfl | simp) | exact (slc_litH _ [⟨5, 5⟩] _ 3 (enc := Sp.cells) (sz := 2) (fun _ => rfl) rfl _ (by first | rfl | simp)).alloc _ | exact ((slc_litH _ [⟨5, 5⟩] _ 3 (enc := Sp.cells) (sz := 2) (fun _ => rfl) rfl _ (by first | rfl | simp)).alloc _).alloc _ | exact (((slc_litH _ [⟨5, 5⟩] _ 3 (enc := Sp.cells) (sz := 2) (fun _ => rfl) rfl _ (by first | rfl | simp)).alloc _).alloc _).alloc _) (by decide) (by rfl) rfl).mono ?_
  rintro e w9 ⟨A7, c7, rfl, S7, B⟩
  have X : Below w8.heap.size w8 w9 := by first | exact B | exact ext_trans (ext_alloc (ext_refl _) _) B | exact ext_trans (ext_alloc (ext_alloc (ext_refl _) _) _) B | exact ext_trans (ext_alloc (ext_alloc (ext_alloc (ext_refl _) _) _) _) B | exact ext_trans (ext_alloc (ext_alloc (ext_alloc (ext_alloc (ext_refl _) _) _) _) _) B
  have Ew9 := ext_trans Ew8 X
  replace S1 := S1.ext X
  clear X B Ew8
  go_wp2_with fail
  refine (normal_at (k := 0) (a := [⟨5, 5⟩]) [] (by decide +kernel) rfl (by first | exact S7 | exact (S7).alloc _ | exact ((S7).alloc _).alloc _ | exact (((S7).alloc _).alloc _).alloc _) (by decide) rfl).mono ?_
  rintro e w10 ⟨A8, c8, rfl, S8, B⟩
  have X : Below w9.heap.size w9 w10 := by first | exact B | exact ext_trans (ext_alloc (ext_refl _) _) B | exact ext_trans (ext_alloc (ext_alloc (ext_refl _) _) _) B | exact ext_trans (ext_alloc (ext_alloc (ext_alloc (ext_refl _) _) _) _) B | exact ext_trans (ext_alloc (ext_alloc (ext_alloc (ext_alloc (ext_refl _) _) _) _) _) B
  have Ew10 := ext_trans Ew9 X
  replace S1 := S1.ext X
  clear X B Ew9 S7
  clear S8
  go_wp2_with fail
  refine (spans_at (k := 1) [⟨0, 10⟩] (by first | exact slc_litH _ [⟨0, 10⟩] _ 3 (enc := Sp.cells) (sz := 2) (fun _ => rfl) rfl _ (by first | rfl | simp) | exact (slc_litH _ [⟨0, 10⟩] _ 3 (enc := Sp.cells) (sz := 2) (fun _ => rfl) rfl _ (by first | rfl | simp)).alloc _ | exact ((slc_litH _ [⟨0, 10⟩] _ 3 (enc := Sp.cells) (sz := 2) (fun _ => rfl) rfl _ (by first | rfl | simp)).alloc _).alloc _ | exact (((slc_litH _ [⟨0, 10⟩] _ 3 (enc := Sp.cells) (sz := 2) (fun _ => rfl) rfl _ (by first | rfl | simp)).alloc _).alloc _).alloc _) (by decide) (by rfl) rfl).mono ?_
  rintro e w11 ⟨A9, c9, rfl, S9, B⟩
  have X : Below w10.heap.size w10 w11 := by first | exact B | exact ext_trans (ext_alloc (ext_refl _) _) B | exact ext_trans (ext_alloc (ext_alloc (ext_refl _) _) _) B | exact ext_trans (ext_alloc (ext_alloc (ext_alloc (ext_refl _) _) _) _) B | exact ext_trans (ext_alloc (ext_alloc (ext_alloc (ext_alloc (ext_refl _) _) _) _) _) B
  have Ew11 := ext_trans Ew10 X
  replace S1 := S1.ext X
  clear X B Ew10
  go_wp2_with fail
  refine (minus_at (k := 1) (a := [⟨0, 1440⟩]) (b := [⟨0, 10⟩]) [⟨10, 1440⟩] (by decide +kernel) rfl rfl (by first | exact S1 | exact (S1).alloc _ | exact ((S1).alloc _).alloc _ | exact (((S1).alloc _).alloc _).alloc _) (by first | exact S9 | exact (S9).alloc _ | exact ((S9).alloc _).alloc _ | exact (((S9).alloc _).alloc _).alloc _) (by decide) (by decide) rfl).mono ?_
  rintro e w12 ⟨A10, c10, rfl, S10, B⟩
  have X : Below w11.heap.size w11 w12 := by first | exact B | exact ext_trans (ext_alloc (ext_refl _) _) B | exact ext_trans (ext_alloc (ext_alloc (ext_refl _) _) _) B | exact ext_trans (ext_alloc (ext_alloc (ext_alloc (ext_refl _) _) _) _) B | exact ext_trans (ext_alloc (ext_alloc (ext_alloc (ext_alloc (ext_refl _) _) _) _) _) B
  have Ew12 := ext_trans Ew11 X
  replace S1 := S1.ext X
  clear X B Ew11 S9
  go_wp2_with fail
  refine (spans_at (k := 1) [⟨10, 1440⟩] (by first | exact slc_litH _ [⟨10, 1440⟩] _ 3 (enc := Sp.cells) (sz := 2) (fun _ => rfl) rfl _ (by first | rfl | simp) | exact (slc_litH _ [⟨10, 1440⟩] _ 3 (enc := Sp.cells) (sz := 2) (fun _ => rfl) rfl _ (by first | rfl | simp)).alloc _ | exact ((slc_litH _ [⟨10, 1440⟩] _ 3 (enc := Sp.cells) (sz := 2) (fun _ => rfl) rfl _ (by first | rfl | simp)).alloc _).alloc _ | exact (((slc_litH _ [⟨10, 1440⟩] _ 3 (enc := Sp.cells) (sz := 2) (fun _ => rfl) rfl _ (by first | rfl | simp)).alloc _).alloc _).alloc _) (by decide) (by rfl) rfl).mono ?_
  rintro e w13 ⟨A11, c11, rfl, S11, B⟩
  have X : Below w12.heap.size w12 w13 := by first | exact B | exact ext_trans (ext_alloc (ext_refl _) _) B | exact ext_trans (ext_alloc (ext_alloc (ext_refl _) _) _) B | exact ext_trans (ext_alloc (ext_alloc (ext_alloc (ext_refl _) _) _) _) B | exact ext_trans (ext_alloc (ext_alloc (ext_alloc (ext_alloc (ext_refl _) _) _) _) _) B
  have Ew13 := ext_trans Ew12 X
  replace S1 := S1.ext X
  replace S10 := S10.ext X
  clear X B Ew12
  go_wp2_with fail
  refine (sameSp (a := [⟨10, 1440⟩]) (b := [⟨10, 1440⟩]) true (by decide +kernel) rfl rfl (by first | exact S10 | exact (S10).alloc _ | exact ((S10).alloc _).alloc _ | exact (((S10).alloc _).alloc _).alloc _) (by first | exact S11 | exact (S11).alloc _ | exact ((S11).alloc _).alloc _ | exact (((S11).alloc _).alloc _).alloc _) (by decide)).mono ?_
  rintro e w14 ⟨rfl, B⟩
  have X : Below w13.heap.size w13 w14 := by first | exact B | exact ext_trans (ext_alloc (ext_refl _) _) B | exact ext_trans (ext_alloc (ext_alloc (ext_refl _) _) _) B | exact ext_trans (ext_alloc (ext_alloc (ext_alloc (ext_refl _) _) _) _) B | exact ext_trans (ext_alloc (ext_alloc (ext_alloc (ext_alloc (ext_refl _) _) _) _) _) B
  have Ew14 := ext_trans Ew13 X
  replace S1 := S1.ext X
  clear X B Ew13 S10 S11
  go_wp2_with fail
  refine (spans_at (k := 1) [⟨3, 4⟩] (by first | exact slc_litH _ [⟨3, 4⟩] _ 3 (enc := Sp.cells) (sz := 2) (fun _ => rfl) rfl _ (by first | rfl | simp) | exact (slc_litH _ [⟨3, 4⟩] _ 3 (enc := Sp.cells) (sz := 2) (fun _ => rfl) rfl _ (by first | rfl | simp)).alloc _ | exact ((slc_litH _ [⟨3, 4⟩] _ 3 (enc := Sp.cells) (sz := 2) (fun _ => rfl) rfl _ (by first | rfl | simp)).alloc _).alloc _ | exact (((slc_litH _ [⟨3, 4⟩] _ 3 (enc := Sp.cells) (sz := 2) (fun _ => rfl) rfl _ (by first | rfl | simp)).alloc _).alloc _).alloc _) (by decide) (by rfl) rfl).mono ?_
  rintro e w15 ⟨A12, c12, rfl, S12, B⟩
  have X : Below w14.heap.size w14 w15 := by first | exact B | exact ext_trans (ext_alloc (ext_refl _) _) B | exact ext_trans (ext_alloc (ext_alloc (ext_refl _) _) _) B | exact ext_trans (ext_alloc (ext_alloc (ext_alloc (ext_refl _) _) _) _) B | exact ext_trans (ext_alloc (ext_alloc (ext_alloc (ext_alloc (ext_refl _) _) _) _) _) B
  have Ew15 := ext_trans Ew14 X
  replace S1 := S1.ext X
  clear X B Ew14
  go_wp2_with fail
  refine (spans_at (k := 1) [⟨4, 5⟩] (by first | exact slc_litH _ [⟨4, 5⟩] _ 3 (enc := Sp.cells) (sz := 2) (fun _ => rfl) rfl _ (by first | rfl | simp) | exact (slc_litH _ [⟨4, 5⟩] _ 3 (enc := Sp.cells) (sz := 2) (fun _ => rfl) rfl _ (by first | rfl | simp)).alloc _ | exact ((slc_litH _ [⟨4, 5⟩] _ 3 (enc := Sp.cells) (sz := 2) (fun _ => rfl) rfl _ (by first | rfl | simp)).alloc _).alloc _ | exact (((slc_litH _ [⟨4, 5⟩] _ 3 (enc := Sp.cells) (sz := 2) (fun _ => rfl) rfl _ (by first | rfl | simp)).alloc _).alloc _).alloc _) (by decide) (by rfl) rfl).mono ?_
  rintro e w16 ⟨A13, c13, rfl, S13, B⟩
  have X : Below w15.heap.size w15 w16 := by first | exact B | exact ext_trans (ext_alloc (ext_refl _) _) B | exact ext_trans (ext_alloc (ext_alloc (ext_refl _) _) _) B | exact ext_trans (ext_alloc (ext_alloc (ext_alloc (ext_refl _) _) _) _) B | exact ext_trans (ext_alloc (ext_alloc (ext_alloc (ext_alloc (ext_refl _) _) _) _) _) B
  have Ew16 := ext_trans Ew15 X
  replace S1 := S1.ext X
  replace S12 := S12.ext X
  clear X B Ew15
  go_wp2_with fail
  refine (union_at (k := 1) (a := [⟨3, 4⟩]) (b := [⟨4, 5⟩]) [⟨3, 5⟩] (by decide +kernel) rfl rfl (by first | exact S12 | exact (S12).alloc _ | exact ((S12).alloc _).alloc _ | exact (((S12).alloc _).alloc _).alloc _) (by first | exact S13 | exact (S13).alloc _ | exact ((S13).alloc _).alloc _ | exact (((S13).alloc _).alloc _).alloc _) (by decide) (by decide) rfl).mono ?_
  rintro e w17 ⟨A14, c14, rfl, S14, B⟩
  have X : Below w16.heap.size w16 w17 := by first | exact B | exact ext_trans (ext_alloc (ext_refl _) _) B | exact ext_trans (ext_alloc (ext_alloc (ext_refl _) _) _) B | exact ext_trans (ext_alloc (ext_alloc (ext_alloc (ext_refl _) _) _) _) B | exact ext_trans (ext_alloc (ext_alloc (ext_alloc (ext_alloc (ext_refl _) _) _) _) _) B
  have Ew17 := ext_trans Ew16 X
  replace S1 := S1.ext X
  clear X B Ew16 S12 S13
  go_wp2_with fail
  refine (spans_at (k := 1) [⟨3, 5⟩] (by first | exact slc_litH _ [⟨3, 5⟩] _ 3 (enc := Sp.cells) (sz := 2) (fun _ => rfl) rfl _ (by first | rfl | simp) | exact (slc_litH _ [⟨3, 5⟩] _ 3 (enc := Sp.cells) (sz := 2) (fun _ => rfl) rfl _ (by first | rfl | simp)).alloc _ | exact ((slc_litH _ [⟨3, 5⟩] _ 3 (enc := Sp.cells) (sz := 2) (fun _ => rfl) rfl _ (by first | rfl | simp)).alloc _).alloc _ | exact (((slc_litH _ [⟨3, 5⟩] _ 3 (enc := Sp.cells) (sz := 2) (fun _ => rfl) rfl _ (by first | rfl | simp)).alloc _).alloc _).alloc _) (by decide) (by rfl) rfl).mono ?_
  rintro e w18 ⟨A15, c15, rfl, S15, B⟩
  have X : Below w17.heap.size w17 w18 := by first | exact B | exact ext_trans (ext_alloc (ext_refl _) _) B | exact ext_trans (ext_alloc (ext_alloc (ext_refl _) _) _) B | exact ext_trans (ext_alloc (ext_alloc (ext_alloc (ext_refl _) _) _) _) B | exact ext_trans (ext_alloc (ext_alloc (ext_alloc (ext_alloc (ext_refl _) _) _) _) _) B
  have Ew18 := ext_trans Ew17 X
  replace S1 := S1.ext X
  replace S14 := S14.ext X
  clear X B Ew17
  go_wp2_with fail
  refine (sameSp (a := [⟨3, 5⟩]) (b := [⟨3, 5⟩]) true (by decide +kernel) rfl rfl (by first | exact S14 | exact (S14).alloc _ | exact ((S14).alloc _).alloc _ | exact (((S14).alloc _).alloc _).alloc _) (by first | exact S15 | exact (S15).alloc _ | exact ((S15).alloc _).alloc _ | exact (((S15).alloc _).alloc _).alloc _) (by decide)).mono ?_
  rintro e w19 ⟨rfl, B⟩
  have X : Below w18.heap.size w18 w19 := by first | exact B | exact ext_trans (ext_alloc (ext_refl _) _) B | exact ext_trans (ext_alloc (ext_alloc (ext_refl _) _) _) B | exact ext_trans (ext_alloc (ext_alloc (ext_alloc (ext_refl _) _) _) _) B | exact ext_trans (ext_alloc (ext_alloc (ext_alloc (ext_alloc (ext_refl _) _) _) _) _) B
  have Ew19 := ext_trans Ew18 X
  replace S1 := S1.ext X
  clear X B Ew18 S14 S15
  go_wp2_with fail
  refine (spans_at (k := 1) [⟨3, 9⟩] (by first | exact slc_litH _ [⟨3, 9⟩] _ 3 (enc := Sp.cells) (sz := 2) (fun _ => rfl) rfl _ (by first | rfl | simp) | exact (slc_litH _ [⟨3, 9⟩] _ 3 (enc := Sp.cells) (sz := 2) (fun _ => rfl) rfl _ (by first | rfl | simp)).alloc _ | exact ((slc_litH _ [⟨3, 9⟩] _ 3 (enc := Sp.cells) (sz := 2) (fun _ => rfl) rfl _ (by first | rfl | simp)).alloc _).alloc _ | exact (((slc_litH _ [⟨3, 9⟩] _ 3 (enc := Sp.cells) (sz := 2) (fun _ => rfl) rfl _ (by first | rfl | simp)).alloc _).alloc _).alloc _) (by decide) (by rfl) rfl).mono ?_
  rintro e w20 ⟨A16, c16, rfl, S16, B⟩
  have X : Below w19.heap.size w19 w20 := by first | exact B | exact ext_trans (ext_alloc (ext_refl _) _) B | exact ext_trans (ext_alloc (ext_alloc (ext_refl _) _) _) B | exact ext_trans (ext_alloc (ext_alloc (ext_alloc (ext_refl _) _) _) _) B | exact ext_trans (ext_alloc (ext_alloc (ext_alloc (ext_alloc (ext_refl _) _) _) _) _) B
  have Ew20 := ext_trans Ew19 X
  replace S1 := S1.ext X
  clear X B Ew19
  go_wp2_with fail
  refine (spans_at (k := 1) [⟨5, 12⟩] (by first | exact slc_litH _ [⟨5, 12⟩] _ 3 (enc := Sp.cells) (sz := 2) (fun _ => rfl) rfl _ (by first | rfl | simp) | exact (slc_litH _ [⟨5, 12⟩] _ 3 (enc := Sp.cells) (sz := 2) (fun _ => rfl) rfl _ (by first | rfl | simp)).alloc _ | exact ((slc_litH _ [⟨5, 12⟩] _ 3 (enc := Sp.cells) (sz := 2) (fun _ => rfl) rfl _ (by first | rfl | simp)).alloc _).alloc _ | exact (((slc_litH _ [⟨5, 12⟩] _ 3 (enc := Sp.cells) (sz := 2) (fun _ => rfl) rfl _ (by first | rfl | simp)).alloc _).alloc _).alloc _) (by decide) (by rfl) rfl).mono ?_
  rintro e w21 ⟨A17, c17, rfl, S17, B⟩
  have X : Below w20.heap.size w20 w21 := by first | exact B | exact ext_trans (ext_alloc (ext_refl _) _) B | exact ext_trans (ext_alloc (ext_alloc (ext_refl _) _) _) B | exact ext_trans (ext_alloc (ext_alloc (ext_alloc (ext_refl _) _) _) _) B | exact ext_trans (ext_alloc (ext_alloc (ext_alloc (ext_alloc (ext_refl _) _) _) _) _) B
  have Ew21 := ext_trans Ew20 X
  replace S1 := S1.ext X
  replace S16 := S16.ext X
  clear X B Ew20
  go_wp2_with fail
  refine (meet_at (k := 1) (a := [⟨3, 9⟩]) (b := [⟨5, 12⟩]) [⟨5, 9⟩] (by decide +kernel) rfl rfl (by first | exact S16 | exact (S16).alloc _ | exact ((S16).alloc _).alloc _ | exact (((S16).alloc _).alloc _).alloc _) (by first | exact S17 | exact (S17).alloc _ | exact ((S17).alloc _).alloc _ | exact (((S17).alloc _).alloc _).alloc _) (by decide) (by decide) rfl).mono ?_
  rintro e w22 ⟨A18, c18, rfl, S18, B⟩
  have X : Below w21.heap.size w21 w22 := by first | exact B | exact ext_trans (ext_alloc (ext_refl _) _) B | exact ext_trans (ext_alloc (ext_alloc (ext_refl _) _) _) B | exact ext_trans (ext_alloc (ext_alloc (ext_alloc (ext_refl _) _) _) _) B | exact ext_trans (ext_alloc (ext_alloc (ext_alloc (ext_alloc (ext_refl _) _) _) _) _) B
  have Ew22 := ext_trans Ew21 X
  replace S1 := S1.ext X
  clear X B Ew21 S16 S17
  go_wp2_with fail
  refine (spans_at (k := 1) [⟨5, 9⟩] (by first | exact slc_litH _ [⟨5, 9⟩] _ 3 (enc := Sp.cells) (sz := 2) (fun _ => rfl) rfl _ (by first | rfl | simp) | exact (slc_litH _ [⟨5, 9⟩] _ 3 (enc := Sp.cells) (sz := 2) (fun _ => rfl) rfl _ (by first | rfl | simp)).alloc _ | exact ((slc_litH _ [⟨5, 9⟩] _ 3 (enc := Sp.cells) (sz := 2) (fun _ => rfl) rfl _ (by first | rfl | simp)).alloc _).alloc _ | exact (((slc_litH _ [⟨5, 9⟩] _ 3 (enc := Sp.cells) (sz := 2) (fun _ => rfl) rfl _ (by first | rfl | simp)).alloc _).alloc _).alloc _) (by decide) (by rfl) rfl).mono ?_
  rintro e w23 ⟨A19, c19, rfl, S19, B⟩
  have X : Below w22.heap.size w22 w23 := by first | exact B | exact ext_trans (ext_alloc (ext_refl _) _) B | exact ext_trans (ext_alloc (ext_alloc (ext_refl _) _) _) B | exact ext_trans (ext_alloc (ext_alloc (ext_alloc (ext_refl _) _) _) _) B | exact ext_trans (ext_alloc (ext_alloc (ext_alloc (ext_alloc (ext_refl _) _) _) _) _) B
  have Ew23 := ext_trans Ew22 X
  replace S1 := S1.ext X
  replace S18 := S18.ext X
  clear X B Ew22
  go_wp2_with fail
  refine (sameSp (a := [⟨5, 9⟩]) (b := [⟨5, 9⟩]) true (by decide +kernel) rfl rfl (by first | exact S18 | exact (S18).alloc _ | exact ((S18).alloc _).alloc _ | exact (((S18).alloc _).alloc _).alloc _) (by first | exact S19 | exact (S19).alloc _ | exact ((S19).alloc _).alloc _ | exact (((S19).alloc _).alloc _).alloc _) (by decide)).mono ?_
  rintro e w24 ⟨rfl, B⟩
  have X : Below w23.heap.size w23 w24 := by first | exact B | exact ext_trans (ext_alloc (ext_refl _) _) B | exact ext_trans (ext_alloc (ext_alloc (ext_refl _) _) _) B | exact ext_trans (ext_alloc (ext_alloc (ext_alloc (ext_refl _) _) _) _) B | exact ext_trans (ext_alloc (ext_alloc (ext_alloc (ext_alloc (ext_refl _) _) _) _) _) B
  have Ew24 := ext_trans Ew23 X
  replace S1 := S1.ext X
  clear X B Ew23 S18 S19
  go_wp2_with fail
  refine (spans_at (k := 2) [⟨0, 10⟩, ⟨10, 20⟩] (by first | exact slc_litH _ [⟨0, 10⟩, ⟨10, 20⟩] _ 3 (enc := Sp.cells) (sz := 2) (fun _ => rfl) rfl _ (by first | rfl | simp) | exact (slc_litH _ [⟨0, 10⟩, ⟨10, 20⟩] _ 3 (enc := Sp.cells) (sz := 2) (fun _ => rfl) rfl _ (by first | rfl | simp)).alloc _ | exact ((slc_litH _ [⟨0, 10⟩, ⟨10, 20⟩] _ 3 (enc := Sp.cells) (sz := 2) (fun _ => rfl) rfl _ (by first | rfl | simp)).alloc _).alloc _ | exact (((slc_litH _ [⟨0, 10⟩, ⟨10, 20⟩] _ 3 (enc := Sp.cells) (sz := 2) (fun _ => rfl) rfl _ (by first | rfl | simp)).alloc _).alloc _).alloc _) (by decide) (by rfl) rfl).mono ?_
  rintro e w25 ⟨A20, c20, rfl, S20, B⟩
  have X : Below w24.heap.size w24 w25 := by first | exact B | exact ext_trans (ext_alloc (ext_refl _) _) B | exact ext_trans (ext_alloc (ext_alloc (ext_refl _) _) _) B | exact ext_trans (ext_alloc (ext_alloc (ext_alloc (ext_refl _) _) _) _) B | exact ext_trans (ext_alloc (ext_alloc (ext_alloc (ext_alloc (ext_refl _) _) _) _) _) B
  have Ew25 := ext_trans Ew24 X
  replace S1 := S1.ext X
  clear X B Ew24
  go_wp2_with fail
  refine (covers_at (a := [⟨0, 10⟩, ⟨10, 20⟩]) (s := ⟨5, 15⟩) true (by decide +kernel) rfl (by first | exact S20 | exact (S20).alloc _ | exact ((S20).alloc _).alloc _ | exact (((S20).alloc _).alloc _).alloc _) (by decide)).mono ?_
  rintro e w26 ⟨rfl, B⟩
  have X : Below w25.heap.size w25 w26 := by first | exact B | exact ext_trans (ext_alloc (ext_refl _) _) B | exact ext_trans (ext_alloc (ext_alloc (ext_refl _) _) _) B | exact ext_trans (ext_alloc (ext_alloc (ext_alloc (ext_refl _) _) _) _) B | exact ext_trans (ext_alloc (ext_alloc (ext_alloc (ext_alloc (ext_refl _) _) _) _) _) B
  have Ew26 := ext_trans Ew25 X
  replace S1 := S1.ext X
  clear X B Ew25 S20
  go_wp2_with fail
  refine (covers_at (a := []) (s := ⟨7, 7⟩) true (by decide +kernel) rfl Slc.nil (by decide)).mono ?_
  rintro e w27 ⟨rfl, B⟩
  have X : Below w26.heap.size w26 w27 := by first | exact B | exact ext_trans (ext_alloc (ext_refl _) _) B | exact ext_trans (ext_alloc (ext_alloc (ext_refl _) _) _) B | exact ext_trans (ext_alloc (ext_alloc (ext_alloc (ext_refl _) _) _) _) B | exact ext_trans (ext_alloc (ext_alloc (ext_alloc (ext_alloc (ext_refl _) _) _) _) _) B
  have Ew27 := ext_trans Ew26 X
  replace S1 := S1.ext X
  clear X B Ew26
  go_wp2_with fail
  refine (covers_at (a := [⟨0, 1440⟩]) (s := ⟨1439, 1441⟩) false (by decide +kernel) rfl (by first | exact S1 | exact (S1).alloc _ | exact ((S1).alloc _).alloc _ | exact (((S1).alloc _).alloc _).alloc _) (by decide)).mono ?_
  rintro e w28 ⟨rfl, B⟩
  have X : Below w27.heap.size w27 w28 := by first | exact B | exact ext_trans (ext_alloc (ext_refl _) _) B | exact ext_trans (ext_alloc (ext_alloc (ext_refl _) _) _) B | exact ext_trans (ext_alloc (ext_alloc (ext_alloc (ext_refl _) _) _) _) B | exact ext_trans (ext_alloc (ext_alloc (ext_alloc (ext_alloc (ext_refl _) _) _) _) _) B
  have Ew28 := ext_trans Ew27 X
  replace S1 := S1.ext X
  clear X B Ew27
  go_wp2_with fail
  refine (has_at (a := [⟨0, 1440⟩]) (x := 1439) true (by decide +kernel) rfl (by first | exact S1 | exact (S1).alloc _ | exact ((S1).alloc _).alloc _ | exact (((S1).alloc _).alloc _).alloc _) (by decide)).mono ?_
  rintro e w29 ⟨rfl, B⟩
  have X : Below w28.heap.size w28 w29 := by first | exact B | exact ext_trans (ext_alloc (ext_refl _) _) B | exact ext_trans (ext_alloc (ext_alloc (ext_refl _) _) _) B | exact ext_trans (ext_alloc (ext_alloc (ext_alloc (ext_refl _) _) _) _) B | exact ext_trans (ext_alloc (ext_alloc (ext_alloc (ext_alloc (ext_refl _) _) _) _) _) B
  have Ew29 := ext_trans Ew28 X
  replace S1 := S1.ext X
  clear X B Ew28
  go_wp2_with fail
  refine (has_at (a := [⟨0, 1440⟩]) (x := 1440) false (by decide +kernel) rfl (by first | exact S1 | exact (S1).alloc _ | exact ((S1).alloc _).alloc _ | exact (((S1).alloc _).alloc _).alloc _) (by decide)).mono ?_
  rintro e w30 ⟨rfl, B⟩
  have X : Below w29.heap.size w29 w30 := by first | exact B | exact ext_trans (ext_alloc (ext_refl _) _) B | exact ext_trans (ext_alloc (ext_alloc (ext_refl _) _) _) B | exact ext_trans (ext_alloc (ext_alloc (ext_alloc (ext_refl _) _) _) _) B | exact ext_trans (ext_alloc (ext_alloc (ext_alloc (ext_alloc (ext_refl _) _) _) _) _) B
  have Ew30 := ext_trans Ew29 X
  replace S1 := S1.ext X
  clear X B Ew29
  go_wp2_with fail
  refine (spans_at (k := 1) [⟨0, 0⟩] (by first | exact slc_litH _ [⟨0, 0⟩] _ 3 (enc := Sp.cells) (sz := 2) (fun _ => rfl) rfl _ (by first | rfl | simp) | exact (slc_litH _ [⟨0, 0⟩] _ 3 (enc := Sp.cells) (sz := 2) (fun _ => rfl) rfl _ (by first | rfl | simp)).alloc _ | exact ((slc_litH _ [⟨0, 0⟩] _ 3 (enc := Sp.cells) (sz := 2) (fun _ => rfl) rfl _ (by first | rfl | simp)).alloc _).alloc _ | exact (((slc_litH _ [⟨0, 0⟩] _ 3 (enc := Sp.cells) (sz := 2) (fun _ => rfl) rfl _ (by first | rfl | simp)).alloc _).alloc _).alloc _) (by decide) (by rfl) rfl).mono ?_
  rintro e w31 ⟨A21, c21, rfl, S21, B⟩
  have X : Below w30.heap.size w30 w31 := by first | exact B | exact ext_trans (ext_alloc (ext_refl _) _) B | exact ext_trans (ext_alloc (ext_alloc (ext_refl _) _) _) B | exact ext_trans (ext_alloc (ext_alloc (ext_alloc (ext_refl _) _) _) _) B | exact ext_trans (ext_alloc (ext_alloc (ext_alloc (ext_alloc (ext_refl _) _) _) _) _) B
  have Ew31 := ext_trans Ew30 X
  replace S1 := S1.ext X
  clear X B Ew30
  go_wp2_with fail
  refine (check_at (a := [⟨0, 0⟩])  50 (by decide +kernel) rfl (by first | exact S21 | exact (S21).alloc _ | exact ((S21).alloc _).alloc _ | exact (((S21).alloc _).alloc _).alloc _) (by decide)).mono ?_
  rintro e w32 ⟨rfl, B⟩
  have X : Below w31.heap.size w31 w32 := by first | exact B | exact ext_trans (ext_alloc (ext_refl _) _) B | exact ext_trans (ext_alloc (ext_alloc (ext_refl _) _) _) B | exact ext_trans (ext_alloc (ext_alloc (ext_alloc (ext_refl _) _) _) _) B | exact ext_trans (ext_alloc (ext_alloc (ext_alloc (ext_alloc (ext_refl _) _) _) _) _) B
  have Ew32 := ext_trans Ew31 X
  replace S1 := S1.ext X
  clear X B Ew31 S21
  go_wp2_with fail
  refine (check_at (a := [⟨0, 1440⟩])  0 (by decide +kernel) rfl (by first | exact S1 | exact (S1).alloc _ | exact ((S1).alloc _).alloc _ | exact (((S1).alloc _).alloc _).alloc _) (by decide)).mono ?_
  rintro e w33 ⟨rfl, B⟩
  have X : Below w32.heap.size w32 w33 := by first | exact B | exact ext_trans (ext_alloc (ext_refl _) _) B | exact ext_trans (ext_alloc (ext_alloc (ext_refl _) _) _) B | exact ext_trans (ext_alloc (ext_alloc (ext_alloc (ext_refl _) _) _) _) B | exact ext_trans (ext_alloc (ext_alloc (ext_alloc (ext_alloc (ext_refl _) _) _) _) _) B
  have Ew33 := ext_trans Ew32 X
  clear X B Ew32 S1
  go_wp2_with fail
  go_ret
  exact ⟨rfl, Ew33⟩
end Go.Proofs.Ytkannbmmgkohjaa
