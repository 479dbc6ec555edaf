/- The chapter's examples. -/
import Derived.Test.YtemdebheinbolaaN
namespace Go.Proofs.Ytemdebheinbolaa
open Go.RowKit
set_option maxHeartbeats 8000000 in
set_option maxRecDepth 100000 in
theorem sane_any (w : World) : Calls Try.prog 11 #[] w (Tru w) := by
  go_enter Try.func11, Try.ntmps11
  go_wp2_with fail
  refine (example_any _).mono ?_
  rintro e w1 ⟨A0, bx, rfl, L, B⟩
  have X : Below w.heap.size w w1 := by first | exact B | exact ext_trans (ext_alloc (ext_refl _) _) B | exact ext_trans (ext_alloc (ext_alloc (ext_refl _) _) _) B | exact ext_trans (ext_alloc (ext_alloc (ext_alloc (ext_refl _) _) _) _) B | exact ext_trans (ext_alloc (ext_alloc (ext_alloc (ext_alloc (ext_refl _) _) _) _) _) B
  have Ew1 := ext_trans (ext_refl w) X
  clear X B
  go_wp2_with fail
  refine (leaves_at (k := 2) (l := exL bx) _ (ex1 bx) rfl (by first | exact L | exact (L).alloc _ | exact ((L).alloc _).alloc _ | exact (((L).alloc _).alloc _).alloc _) rfl).mono ?_
  rintro e w2 ⟨A1, c1, rfl, S1, B⟩
  have X : Below w1.heap.size w1 w2 := by first | exact B | exact ext_trans (ext_alloc (ext_refl _) _) B | exact ext_trans (ext_alloc (ext_alloc (ext_refl _) _) _) B | exact ext_trans (ext_alloc (ext_alloc (ext_alloc (ext_refl _) _) _) _) B | exact ext_trans (ext_alloc (ext_alloc (ext_alloc (ext_alloc (ext_refl _) _) _) _) _) B
  have Ew2 := ext_trans Ew1 X
  replace L := L.ext X
  clear X B Ew1
  go_wp2_with fail
  refine (at_at (l := exL bx) _ (ex2 bx) rfl (by first | exact L | exact (L).alloc _ | exact ((L).alloc _).alloc _ | exact (((L).alloc _).alloc _).alloc _)).mono ?_
  rintro e w3 ⟨rfl, B⟩
  have X : Below w2.heap.size w2 w3 := by first | exact B | exact ext_trans (ext_alloc (ext_refl _) _) B | exact ext_trans (ext_alloc (ext_alloc (ext_refl _) _) _) B | exact ext_trans (ext_alloc (ext_alloc (ext_alloc (ext_refl _) _) _) _) B | exact ext_trans (ext_alloc (ext_alloc (ext_alloc (ext_alloc (ext_refl _) _) _) _) _) B
  have Ew3 := ext_trans Ew2 X
  replace L := L.ext X
  replace S1 := S1.ext X
  clear X B Ew2
  go_wp2_with fail
  refine (at_at (l := exL bx) _ (ex3 bx) rfl (by first | exact L | exact (L).alloc _ | exact ((L).alloc _).alloc _ | exact (((L).alloc _).alloc _).alloc _)).mono ?_
  rintro e w4 ⟨rfl, B⟩
  have X : Below w3.heap.size w3 w4 := by first | exact B | exact ext_trans (ext_alloc (ext_refl _) _) B | exact ext_trans (ext_alloc (ext_alloc (ext_refl _) _) _) B | exact ext_trans (ext_alloc (ext_alloc (ext_alloc (ext_refl _) _) _) _) B | exact ext_trans (ext_alloc (ext_alloc (ext_alloc (ext_alloc (ext_refl _) _) _) _) _) B
  have Ew4 := ext_trans Ew3 X
  replace L := L.ext X
  replace S1 := S1.ext X
  clear X B Ew3
  go_wp2_with fail
  refine (alive_at (k := 2) (l := exL bx) (seen := []) _ (ex4 bx) rfl rfl (by first | exact L | exact (L).alloc _ | exact ((L).alloc _).alloc _ | exact (((L).alloc _).alloc _).alloc _) Slc.nil (by decide) rfl).mono ?_
  rintro e w5 ⟨A2, c2, rfl, S2, B⟩
  have X : Below w4.heap.size w4 w5 := by first | exact B | exact ext_trans (ext_alloc (ext_refl _) _) B | exact ext_trans (ext_alloc (ext_alloc (ext_refl _) _) _) B | exact ext_trans (ext_alloc (ext_alloc (ext_alloc (ext_refl _) _) _) _) B | exact ext_trans (ext_alloc (ext_alloc (ext_alloc (ext_alloc (ext_refl _) _) _) _) _) B
  have Ew5 := ext_trans Ew4 X
  replace L := L.ext X
  replace S1 := S1.ext X
  clear X B Ew4
  go_wp2_with fail
  refine (alive_at (k := 1) (l := exL bx) (seen := [0, 2]) _ (ex5 bx) rfl rfl (by first | exact L | exact (L).alloc _ | exact ((L).alloc _).alloc _ | exact (((L).alloc _).alloc _).alloc _) (by first | exact slc_litH _ [0, 2] _ 3 (enc := ic) (sz := 1) (fun _ => rfl) rfl _ (by first | rfl | simp) | exact (slc_litH _ [0, 2] _ 3 (enc := ic) (sz := 1) (fun _ => rfl) rfl _ (by first | rfl | simp)).alloc _ | exact ((slc_litH _ [0, 2] _ 3 (enc := ic) (sz := 1) (fun _ => rfl) rfl _ (by first | rfl | simp)).alloc _).alloc _ | exact (((slc_litH _ [0, 2] _ 3 (enc := ic) (sz := 1) (fun _ => rfl) rfl _ (by first | rfl | simp)).alloc _).alloc _).alloc _) (by decide) rfl).mono ?_
  rintro e w6 ⟨A3, c3, rfl, S3, B⟩
  have X : Below w5.heap.size w5 w6 := by first | exact B | exact ext_trans (ext_alloc (ext_refl _) _) B | exact ext_trans (ext_alloc (ext_alloc (ext_refl _) _) _) B | exact ext_trans (ext_alloc (ext_alloc (ext_alloc (ext_refl _) _) _) _) B | exact ext_trans (ext_alloc (ext_alloc (ext_alloc (ext_alloc (ext_refl _) _) _) _) _) B
  have Ew6 := ext_trans Ew5 X
  replace L := L.ext X
  replace S1 := S1.ext X
  replace S2 := S2.ext X
  clear X B Ew5
  go_wp2_with fail
  refine (alive_at (k := 0) (l := exL bx) (seen := [1, 2]) _ (ex6 bx) rfl rfl (by first | exact L | exact (L).alloc _ | exact ((L).alloc _).alloc _ | exact (((L).alloc _).alloc _).alloc _) (by first | exact slc_litH _ [1, 2] _ 3 (enc := ic) (sz := 1) (fun _ => rfl) rfl _ (by first | rfl | simp) | exact (slc_litH _ [1, 2] _ 3 (enc := ic) (sz := 1) (fun _ => rfl) rfl _ (by first | rfl | simp)).alloc _ | exact ((slc_litH _ [1, 2] _ 3 (enc := ic) (sz := 1) (fun _ => rfl) rfl _ (by first | rfl | simp)).alloc _).alloc _ | exact (((slc_litH _ [1, 2] _ 3 (enc := ic) (sz := 1) (fun _ => rfl) rfl _ (by first | rfl | simp)).alloc _).alloc _).alloc _) (by decide) rfl).mono ?_
  rintro e w7 ⟨A4, c4, rfl, _, B⟩
  have X : Below w6.heap.size w6 w7 := by first | exact B | exact ext_trans (ext_alloc (ext_refl _) _) B | exact ext_trans (ext_alloc (ext_alloc (ext_refl _) _) _) B | exact ext_trans (ext_alloc (ext_alloc (ext_alloc (ext_refl _) _) _) _) B | exact ext_trans (ext_alloc (ext_alloc (ext_alloc (ext_alloc (ext_refl _) _) _) _) _) B
  have Ew7 := ext_trans Ew6 X
  replace L := L.ext X
  replace S1 := S1.ext X
  replace S2 := S2.ext X
  replace S3 := S3.ext X
  clear X B Ew6
  go_wp2_with fail
  refine (less_at (l := exL bx) _ (ex7 bx) rfl (by first | exact L | exact (L).alloc _ | exact ((L).alloc _).alloc _ | exact (((L).alloc _).alloc _).alloc _)).mono ?_
  rintro e w8 ⟨rfl, B⟩
  have X : Below w7.heap.size w7 w8 := by first | exact B | exact ext_trans (ext_alloc (ext_refl _) _) B | exact ext_trans (ext_alloc (ext_alloc (ext_refl _) _) _) B | exact ext_trans (ext_alloc (ext_alloc (ext_alloc (ext_refl _) _) _) _) B | exact ext_trans (ext_alloc (ext_alloc (ext_alloc (ext_alloc (ext_refl _) _) _) _) _) B
  have Ew8 := ext_trans Ew7 X
  replace L := L.ext X
  replace S1 := S1.ext X
  replace S2 := S2.ext X
  replace S3 := S3.ext X
  clear X B Ew7
  go_wp2_with fail
  refine (less_at (l := exL bx) _ (ex8 bx) rfl (by first | exact L | exact (L).alloc _ | exact ((L).alloc _).alloc _ | exact (((L).alloc _).alloc _).alloc _)).mono ?_
  rintro e w9 ⟨rfl, B⟩
  have X : Below w8.heap.size w8 w9 := by first | exact B | exact ext_trans (ext_alloc (ext_refl _) _) B | exact ext_trans (ext_alloc (ext_alloc (ext_refl _) _) _) B | exact ext_trans (ext_alloc (ext_alloc (ext_alloc (ext_refl _) _) _) _) B | exact ext_trans (ext_alloc (ext_alloc (ext_alloc (ext_alloc (ext_refl _) _) _) _) _) B
  have Ew9 := ext_trans Ew8 X
  replace L := L.ext X
  replace S1 := S1.ext X
  replace S2 := S2.ext X
  replace S3 := S3.ext X
  clear X B Ew8
  go_wp2_with fail
  refine (alive_at (k := 0) (l := (exL bx).take 1) (seen := [1]) _ (ex9 bx) rfl rfl (TOk.take (by first | exact L | exact (L).alloc _ | exact ((L).alloc _).alloc _ | exact (((L).alloc _).alloc _).alloc _) 1) (by first | exact slc_litH _ [1] _ 3 (enc := ic) (sz := 1) (fun _ => rfl) rfl _ (by first | rfl | simp) | exact (slc_litH _ [1] _ 3 (enc := ic) (sz := 1) (fun _ => rfl) rfl _ (by first | rfl | simp)).alloc _ | exact ((slc_litH _ [1] _ 3 (enc := ic) (sz := 1) (fun _ => rfl) rfl _ (by first | rfl | simp)).alloc _).alloc _ | exact (((slc_litH _ [1] _ 3 (enc := ic) (sz := 1) (fun _ => rfl) rfl _ (by first | rfl | simp)).alloc _).alloc _).alloc _) (by decide) rfl).mono ?_
  rintro e w10 ⟨A5, c5, rfl, _, B⟩
  have X : Below w9.heap.size w9 w10 := by first | exact B | exact ext_trans (ext_alloc (ext_refl _) _) B | exact ext_trans (ext_alloc (ext_alloc (ext_refl _) _) _) B | exact ext_trans (ext_alloc (ext_alloc (ext_alloc (ext_refl _) _) _) _) B | exact ext_trans (ext_alloc (ext_alloc (ext_alloc (ext_alloc (ext_refl _) _) _) _) _) B
  have Ew10 := ext_trans Ew9 X
  replace L := L.ext X
  replace S1 := S1.ext X
  replace S2 := S2.ext X
  replace S3 := S3.ext X
  clear X B Ew9
  go_wp2_with fail
  refine (leaves_at (k := 1) (l := (exL bx).take 1) _ (ex10 bx) rfl (TOk.take (by first | exact L | exact (L).alloc _ | exact ((L).alloc _).alloc _ | exact (((L).alloc _).alloc _).alloc _) 1) rfl).mono ?_
  rintro e w11 ⟨A6, c6, rfl, S6, B⟩
  have X : Below w10.heap.size w10 w11 := by first | exact B | exact ext_trans (ext_alloc (ext_refl _) _) B | exact ext_trans (ext_alloc (ext_alloc (ext_refl _) _) _) B | exact ext_trans (ext_alloc (ext_alloc (ext_alloc (ext_refl _) _) _) _) B | exact ext_trans (ext_alloc (ext_alloc (ext_alloc (ext_alloc (ext_refl _) _) _) _) _) B
  have Ew11 := ext_trans Ew10 X
  replace L := L.ext X
  replace S1 := S1.ext X
  replace S2 := S2.ext X
  replace S3 := S3.ext X
  clear X B Ew10
  go_wp2_with fail
  refine (same_at (a := [1, 2]) (b := [1, 2]) true (by decide) rfl rfl (by first | exact S1 | exact (S1).alloc _ | exact ((S1).alloc _).alloc _ | exact (((S1).alloc _).alloc _).alloc _) (by first | exact slc_litH _ [1, 2] _ 3 (enc := ic) (sz := 1) (fun _ => rfl) rfl _ (by first | rfl | simp) | exact (slc_litH _ [1, 2] _ 3 (enc := ic) (sz := 1) (fun _ => rfl) rfl _ (by first | rfl | simp)).alloc _ | exact ((slc_litH _ [1, 2] _ 3 (enc := ic) (sz := 1) (fun _ => rfl) rfl _ (by first | rfl | simp)).alloc _).alloc _ | exact (((slc_litH _ [1, 2] _ 3 (enc := ic) (sz := 1) (fun _ => rfl) rfl _ (by first | rfl | simp)).alloc _).alloc _).alloc _) (by decide)).mono ?_
  rintro e w12 ⟨rfl, B⟩
  have X : Below w11.heap.size w11 w12 := by first | exact B | exact ext_trans (ext_alloc (ext_refl _) _) B | exact ext_trans (ext_alloc (ext_alloc (ext_refl _) _) _) B | exact ext_trans (ext_alloc (ext_alloc (ext_alloc (ext_refl _) _) _) _) B | exact ext_trans (ext_alloc (ext_alloc (ext_alloc (ext_alloc (ext_refl _) _) _) _) _) B
  have Ew12 := ext_trans Ew11 X
  replace L := L.ext X
  replace S1 := S1.ext X
  replace S2 := S2.ext X
  replace S3 := S3.ext X
  replace S6 := S6.ext X
  clear X B Ew11
  go_wp2_with fail
  refine (same_at (a := [1, 2]) (b := [1, 2]) true (by decide) rfl rfl (by first | exact S2 | exact (S2).alloc _ | exact ((S2).alloc _).alloc _ | exact (((S2).alloc _).alloc _).alloc _) (by first | exact S1 | exact (S1).alloc _ | exact ((S1).alloc _).alloc _ | exact (((S1).alloc _).alloc _).alloc _) (by decide)).mono ?_
  rintro e w13 ⟨rfl, B⟩
  have X : Below w12.heap.size w12 w13 := by first | exact B | exact ext_trans (ext_alloc (ext_refl _) _) B | exact ext_trans (ext_alloc (ext_alloc (ext_refl _) _) _) B | exact ext_trans (ext_alloc (ext_alloc (ext_alloc (ext_refl _) _) _) _) B | exact ext_trans (ext_alloc (ext_alloc (ext_alloc (ext_alloc (ext_refl _) _) _) _) _) B
  have Ew13 := ext_trans Ew12 X
  replace L := L.ext X
  replace S3 := S3.ext X
  replace S6 := S6.ext X
  clear X B Ew12 S1 S2
  go_wp2_with fail
  refine (same_at (a := [2]) (b := [2]) true (by decide) rfl rfl (by first | exact S3 | exact (S3).alloc _ | exact ((S3).alloc _).alloc _ | exact (((S3).alloc _).alloc _).alloc _) (by first | exact slc_litH _ [2] _ 3 (enc := ic) (sz := 1) (fun _ => rfl) rfl _ (by first | rfl | simp) | exact (slc_litH _ [2] _ 3 (enc := ic) (sz := 1) (fun _ => rfl) rfl _ (by first | rfl | simp)).alloc _ | exact ((slc_litH _ [2] _ 3 (enc := ic) (sz := 1) (fun _ => rfl) rfl _ (by first | rfl | simp)).alloc _).alloc _ | exact (((slc_litH _ [2] _ 3 (enc := ic) (sz := 1) (fun _ => rfl) rfl _ (by first | rfl | simp)).alloc _).alloc _).alloc _) (by decide)).mono ?_
  rintro e w14 ⟨rfl, B⟩
  have X : Below w13.heap.size w13 w14 := by first | exact B | exact ext_trans (ext_alloc (ext_refl _) _) B | exact ext_trans (ext_alloc (ext_alloc (ext_refl _) _) _) B | exact ext_trans (ext_alloc (ext_alloc (ext_alloc (ext_refl _) _) _) _) B | exact ext_trans (ext_alloc (ext_alloc (ext_alloc (ext_alloc (ext_refl _) _) _) _) _) B
  have Ew14 := ext_trans Ew13 X
  replace L := L.ext X
  replace S6 := S6.ext X
  clear X B Ew13 S3
  go_wp2_with fail
  refine (same_at (a := [0]) (b := [0]) true (by decide) rfl rfl (by first | exact S6 | exact (S6).alloc _ | exact ((S6).alloc _).alloc _ | exact (((S6).alloc _).alloc _).alloc _) (by first | exact slc_litH _ [0] _ 3 (enc := ic) (sz := 1) (fun _ => rfl) rfl _ (by first | rfl | simp) | exact (slc_litH _ [0] _ 3 (enc := ic) (sz := 1) (fun _ => rfl) rfl _ (by first | rfl | simp)).alloc _ | exact ((slc_litH _ [0] _ 3 (enc := ic) (sz := 1) (fun _ => rfl) rfl _ (by first | rfl | simp)).alloc _).alloc _ | exact (((slc_litH _ [0] _ 3 (enc := ic) (sz := 1) (fun _ => rfl) rfl _ (by first | rfl | simp)).alloc _).alloc _).alloc _) (by decide)).mono ?_
  rintro e w15 ⟨rfl, B⟩
  have X : Below w14.heap.size w14 w15 := by first | exact B | exact ext_trans (ext_alloc (ext_refl _) _) B | exact ext_trans (ext_alloc (ext_alloc (ext_refl _) _) _) B | exact ext_trans (ext_alloc (ext_alloc (ext_alloc (ext_refl _) _) _) _) B | exact ext_trans (ext_alloc (ext_alloc (ext_alloc (ext_alloc (ext_refl _) _) _) _) _) B
  have Ew15 := ext_trans Ew14 X
  replace L := L.ext X
  clear X B Ew14 S6
  go_wp2_with fail
  refine (check_at (l := []) 180 ex12 rfl TOk.nil).mono ?_
  rintro e w16 ⟨rfl, B⟩
  have X : Below w15.heap.size w15 w16 := by first | exact B | exact ext_trans (ext_alloc (ext_refl _) _) B | exact ext_trans (ext_alloc (ext_alloc (ext_refl _) _) _) B | exact ext_trans (ext_alloc (ext_alloc (ext_alloc (ext_refl _) _) _) _) B | exact ext_trans (ext_alloc (ext_alloc (ext_alloc (ext_alloc (ext_refl _) _) _) _) _) B
  have Ew16 := ext_trans Ew15 X
  replace L := L.ext X
  clear X B Ew15
  go_wp2_with fail
  refine (check_at (l := exL bx) 0 (ex11 bx) rfl (by first | exact L | exact (L).alloc _ | exact ((L).alloc _).alloc _ | exact (((L).alloc _).alloc _).alloc _)).mono ?_
  rintro e w17 ⟨rfl, B⟩
  have X : Below w16.heap.size w16 w17 := by first | exact B | exact ext_trans (ext_alloc (ext_refl _) _) B | exact ext_trans (ext_alloc (ext_alloc (ext_refl _) _) _) B | exact ext_trans (ext_alloc (ext_alloc (ext_alloc (ext_refl _) _) _) _) B | exact ext_trans (ext_alloc (ext_alloc (ext_alloc (ext_alloc (ext_refl _) _) _) _) _) B
  have Ew17 := ext_trans Ew16 X
  clear X B Ew16 L
  go_wp2_with fail
  go_ret
  exact ⟨rfl, Ew17⟩
end Go.Proofs.Ytemdebheinbolaa
