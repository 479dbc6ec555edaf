/- The chapter's examples. -/
import Derived.Test.YtafglcalimcdcaaM
import Derived.Test.YtafglcalimcdcaaE
import Derived.Test.YtafglcalimcdcaaX
import Derived.Test.YtafglcalimcdcaaH
set_option linter.unusedSimpArgs false
set_option linter.unusedVariables false
namespace Go.Proofs.Ytafglcalimcdcaa
open Go.RowKit
/-- A list and an error, the list read. -/
def LsR (w : World) (L : List Cr) (k : Nat) (err : Int) (e : Ending) (w' : World) : Prop := ∃ A c, e = .returned (.tuple #[.slice A k c, .int .i64 err]) ∧ Slc w' Cr.cells 3 A L ∧ k ≤ c ∧ Below w.heap.size w w'
theorem LeR.slc {w w' : World} {L : List Cr} {err : Int} {e : Ending} {k : Nat} (h : LeR w L err e w') (hk : L.length = k) : LsR w L k err e w' := by
  subst hk
  obtain ⟨A, c, h1, h2, h3⟩ := h
  obtain ⟨_, _, e1, k1, k2, _⟩ := h2.cap
  injection e1 with _ _ e1
  subst e1
  exact ⟨A, c, h1, h2.slc (fun _ => rfl) (by decide), k1, h3⟩
def LlS (w : World) (X G : List Cr) (k m : Nat) (e : Ending) (w' : World) : Prop := ∃ A c B d, e = .returned (.tuple #[.slice A k c, .slice B m d]) ∧ Slc w' Cr.cells 3 A X ∧ Slc w' Cr.cells 3 B G ∧ Below w.heap.size w w'
theorem earn_s {a : Cr} {A : Option Addr} {c n : Nat} {l : List Cr} {w : World} (L : List Cr) (k : Nat) (err : Int) (hL : earnL l a = L) (hE : earnE l a = err) (hk : L.length = k) (hl : n = l.length) (ha : Slc w Cr.cells 3 A l) (hn : l.length ≤ 1000) : Calls Try.prog 8 #[.slice A n c, .agg #[.int .i64 a.a, .int .i64 a.m, .int .i64 a.u]] w (LsR w L k err) :=
  (earn_at L err hL hE hl ha hn).mono fun _ _ h => h.slc hk
theorem rearn_s {a : Cr} {A : Option Addr} {c n : Nat} {l : List Cr} {w : World} (L : List Cr) (k : Nat) (err : Int) (hL : earnL l a = L) (hE : earnE l a = err) (hk : L.length = k) (hl : n = l.length) (ha : Slc w Cr.cells 3 A l) (hn : l.length ≤ 1000) (hc : l.length ≤ c) : Calls Try.prog 9 #[.slice A n c, .agg #[.int .i64 a.a, .int .i64 a.m, .int .i64 a.u]] w (LsR w L k err) :=
  (rearn_at L err hL hE hl ha hn hc).mono fun _ _ h => h.slc hk
theorem spend_s {A : Option Addr} {c n : Nat} {l : List Cr} {al mi now : Int} {w : World} (L : List Cr) (k : Nat) (err : Int) (hL : spendL l al mi now = L) (hE : spendE l al mi now = err) (hk : L.length = k) (hl : n = l.length) (ha : Slc w Cr.cells 3 A l) (hn : l.length ≤ 1000) (hs : SmC l) : Calls Try.prog 16 #[.slice A n c, .int .i64 al, .int .i64 mi, .int .i64 now] w (LsR w L k err) :=
  (spend_at L err hL hE hl ha hn hs).mono fun _ _ h => h.slc hk
theorem expire_s {now : Int} {A : Option Addr} {c n : Nat} {l : List Cr} {w : World} (X G : List Cr) (k m : Nat) (hX : keepC now l = X) (hG : goneC now l = G) (hk : X.length = k) (hm : G.length = m) (hl : n = l.length) (ha : Slc w Cr.cells 3 A l) (hn : l.length ≤ 1000) : Calls Try.prog 13 #[.slice A n c, .int .i64 now] w (LlS w X G k m) := by
  subst hk hm; exact expire_at X G hX hG hl ha hn
theorem rexpire_s {now : Int} {A : Option Addr} {c n : Nat} {l : List Cr} {w : World} (X G : List Cr) (k m : Nat) (hX : keepC now l = X) (hG : goneC now l = G) (hk : X.length = k) (hm : G.length = m) (hl : n = l.length) (ha : Slc w Cr.cells 3 A l) (hn : l.length ≤ 1000) : Calls Try.prog 14 #[.slice A n c, .int .i64 now] w (LlS w X G k m) := by
  subst hk hm; exact rexpire_at X G hX hG hl ha hn
theorem sm_lit {l : List Cr} (h : l.all (fun c => decide (-1099511627776 ≤ c.m) && decide (c.m ≤ 1099511627776)) = true) : SmC l := fun c hc => by
  have := List.all_eq_true.1 h c hc
  simpa using this
set_option maxHeartbeats 8000000 in
set_option maxRecDepth 100000 in
theorem sane_any (w : World) : Calls Try.prog 6 #[] w (Tru w) := by
  go_enter Try.func6, Try.ntmps6
  go_wp2_with fail
  refine (earn_s (a := ⟨2, 10, 600⟩) (l := []) [⟨2, 10, 600⟩] 1 0 (by decide +kernel) (by decide +kernel) rfl rfl Slc.nil (by decide)).mono ?_
  rintro e w1 ⟨A1, c1, rfl, S1, hc1, B⟩
  have X : Below w.heap.size w w1 := by first | exact B | exact ext_trans (ext_alloc (ext_refl _) _) B | exact ext_trans (ext_alloc (ext_alloc (ext_refl _) _) _) B | exact ext_trans (ext_alloc (ext_alloc (ext_alloc (ext_refl _) _) _) _) B | exact ext_trans (ext_alloc (ext_alloc (ext_alloc (ext_alloc (ext_refl _) _) _) _) _) B
  have Ew1 := ext_trans (ext_refl w) X
  clear X B
  go_wp2_with fail
  refine (earn_s (a := ⟨2, 10, 600⟩) (l := [⟨2, 10, 600⟩]) [⟨2, 20, 600⟩] 1 0 (by decide +kernel) (by decide +kernel) rfl rfl (by first | exact S1 | exact (S1).alloc _ | exact ((S1).alloc _).alloc _ | exact (((S1).alloc _).alloc _).alloc _) (by decide)).mono ?_
  rintro e w2 ⟨A2, c2, rfl, S2, hc2, B⟩
  have X : Below w1.heap.size w1 w2 := by first | exact B | exact ext_trans (ext_alloc (ext_refl _) _) B | exact ext_trans (ext_alloc (ext_alloc (ext_refl _) _) _) B | exact ext_trans (ext_alloc (ext_alloc (ext_alloc (ext_refl _) _) _) _) B | exact ext_trans (ext_alloc (ext_alloc (ext_alloc (ext_alloc (ext_refl _) _) _) _) _) B
  have Ew2 := ext_trans Ew1 X
  replace S1 := S1.ext X
  clear X B Ew1
  go_wp2_with fail
  refine (earn_s (a := ⟨2, 10, 700⟩) (l := [⟨2, 10, 600⟩]) [⟨2, 10, 600⟩, ⟨2, 10, 700⟩] 2 0 (by decide +kernel) (by decide +kernel) rfl rfl (by first | exact S1 | exact (S1).alloc _ | exact ((S1).alloc _).alloc _ | exact (((S1).alloc _).alloc _).alloc _) (by decide)).mono ?_
  rintro e w3 ⟨A3, c3, rfl, S3, hc3, B⟩
  have X : Below w2.heap.size w2 w3 := by first | exact B | exact ext_trans (ext_alloc (ext_refl _) _) B | exact ext_trans (ext_alloc (ext_alloc (ext_refl _) _) _) B | exact ext_trans (ext_alloc (ext_alloc (ext_alloc (ext_refl _) _) _) _) B | exact ext_trans (ext_alloc (ext_alloc (ext_alloc (ext_alloc (ext_refl _) _) _) _) _) B
  have Ew3 := ext_trans Ew2 X
  replace S2 := S2.ext X
  clear X B Ew2 S1
  go_wp2_with fail
  refine (spend_s (l := [⟨2, 10, 600⟩, ⟨2, 10, 700⟩]) (al := 2) (mi := 15) (now := 100) [⟨2, 5, 700⟩] 1 0 (by decide +kernel) (by decide +kernel) rfl rfl (by first | exact S3 | exact (S3).alloc _ | exact ((S3).alloc _).alloc _ | exact (((S3).alloc _).alloc _).alloc _) (by decide) (sm_lit (by decide +kernel))).mono ?_
  rintro e w4 ⟨A4, c4, rfl, S4, hc4, B⟩
  have X : Below w3.heap.size w3 w4 := by first | exact B | exact ext_trans (ext_alloc (ext_refl _) _) B | exact ext_trans (ext_alloc (ext_alloc (ext_refl _) _) _) B | exact ext_trans (ext_alloc (ext_alloc (ext_alloc (ext_refl _) _) _) _) B | exact ext_trans (ext_alloc (ext_alloc (ext_alloc (ext_alloc (ext_refl _) _) _) _) _) B
  have Ew4 := ext_trans Ew3 X
  replace S2 := S2.ext X
  replace S3 := S3.ext X
  clear X B Ew3
  go_wp2_with fail
  refine (spend_s (l := []) (al := 0) (mi := 0) (now := 0) [] 0 0 (by decide +kernel) (by decide +kernel) rfl rfl Slc.nil (by decide) (sm_lit (by decide +kernel))).mono ?_
  rintro e w5 ⟨A5, c5, rfl, S5, hc5, B⟩
  have X : Below w4.heap.size w4 w5 := by first | exact B | exact ext_trans (ext_alloc (ext_refl _) _) B | exact ext_trans (ext_alloc (ext_alloc (ext_refl _) _) _) B | exact ext_trans (ext_alloc (ext_alloc (ext_alloc (ext_refl _) _) _) _) B | exact ext_trans (ext_alloc (ext_alloc (ext_alloc (ext_alloc (ext_refl _) _) _) _) _) B
  have Ew5 := ext_trans Ew4 X
  replace S2 := S2.ext X
  replace S3 := S3.ext X
  replace S4 := S4.ext X
  clear X B Ew4
  clear S5
  go_wp2_with fail
  refine (spend_s (l := []) (al := 0) (mi := 1) (now := 0) [] 0 390 (by decide +kernel) (by decide +kernel) rfl rfl Slc.nil (by decide) (sm_lit (by decide +kernel))).mono ?_
  rintro e w6 ⟨A6, c6, rfl, S6, hc6, B⟩
  have X : Below w5.heap.size w5 w6 := by first | exact B | exact ext_trans (ext_alloc (ext_refl _) _) B | exact ext_trans (ext_alloc (ext_alloc (ext_refl _) _) _) B | exact ext_trans (ext_alloc (ext_alloc (ext_alloc (ext_refl _) _) _) _) B | exact ext_trans (ext_alloc (ext_alloc (ext_alloc (ext_alloc (ext_refl _) _) _) _) _) B
  have Ew6 := ext_trans Ew5 X
  replace S2 := S2.ext X
  replace S3 := S3.ext X
  replace S4 := S4.ext X
  clear X B Ew5
  clear S6
  go_wp2_with fail
  refine (expire_s (l := [⟨2, 10, 600⟩, ⟨2, 10, 700⟩]) (now := 600) [⟨2, 10, 700⟩] [⟨2, 10, 600⟩] 1 1 (by decide +kernel) (by decide +kernel) rfl rfl rfl (by first | exact S3 | exact (S3).alloc _ | exact ((S3).alloc _).alloc _ | exact (((S3).alloc _).alloc _).alloc _) (by decide)).mono ?_
  rintro e w7 ⟨A7, c7, A8, c8, rfl, S7, S8, B⟩
  have X : Below w6.heap.size w6 w7 := by first | exact B | exact ext_trans (ext_alloc (ext_refl _) _) B | exact ext_trans (ext_alloc (ext_alloc (ext_refl _) _) _) B | exact ext_trans (ext_alloc (ext_alloc (ext_alloc (ext_refl _) _) _) _) B | exact ext_trans (ext_alloc (ext_alloc (ext_alloc (ext_alloc (ext_refl _) _) _) _) _) B
  have Ew7 := ext_trans Ew6 X
  replace S2 := S2.ext X
  replace S3 := S3.ext X
  replace S4 := S4.ext X
  clear X B Ew6
  go_wp2_with fail
  refine (check_at (l := [⟨0, 0, 0⟩]) 390 (by decide +kernel) rfl (by first | exact slc_litH _ [(⟨0, 0, 0⟩ : Cr)] _ 24 (enc := Cr.cells) (sz := 3) (fun _ => rfl) rfl _ (by first | rfl | simp) | exact (slc_litH _ [(⟨0, 0, 0⟩ : Cr)] _ 24 (enc := Cr.cells) (sz := 3) (fun _ => rfl) rfl _ (by first | rfl | simp)).alloc _ | exact ((slc_litH _ [(⟨0, 0, 0⟩ : Cr)] _ 24 (enc := Cr.cells) (sz := 3) (fun _ => rfl) rfl _ (by first | rfl | simp)).alloc _).alloc _ | exact (((slc_litH _ [(⟨0, 0, 0⟩ : Cr)] _ 24 (enc := Cr.cells) (sz := 3) (fun _ => rfl) rfl _ (by first | rfl | simp)).alloc _).alloc _).alloc _) (by decide)).mono ?_
  rintro e w8 ⟨rfl, B⟩
  have X : Below w7.heap.size w7 w8 := by first | exact B | exact ext_trans (ext_alloc (ext_refl _) _) B | exact ext_trans (ext_alloc (ext_alloc (ext_refl _) _) _) B | exact ext_trans (ext_alloc (ext_alloc (ext_alloc (ext_refl _) _) _) _) B | exact ext_trans (ext_alloc (ext_alloc (ext_alloc (ext_alloc (ext_refl _) _) _) _) _) B
  have Ew8 := ext_trans Ew7 X
  replace S2 := S2.ext X
  replace S3 := S3.ext X
  replace S4 := S4.ext X
  replace S7 := S7.ext X
  replace S8 := S8.ext X
  clear X B Ew7
  go_wp2_with fail
  refine (check_at (l := [⟨2, 10, 600⟩, ⟨2, 10, 700⟩]) 0 (by decide +kernel) rfl (by first | exact S3 | exact (S3).alloc _ | exact ((S3).alloc _).alloc _ | exact (((S3).alloc _).alloc _).alloc _) (by decide)).mono ?_
  rintro e w9 ⟨rfl, B⟩
  have X : Below w8.heap.size w8 w9 := by first | exact B | exact ext_trans (ext_alloc (ext_refl _) _) B | exact ext_trans (ext_alloc (ext_alloc (ext_refl _) _) _) B | exact ext_trans (ext_alloc (ext_alloc (ext_alloc (ext_refl _) _) _) _) B | exact ext_trans (ext_alloc (ext_alloc (ext_alloc (ext_alloc (ext_refl _) _) _) _) _) B
  have Ew9 := ext_trans Ew8 X
  replace S2 := S2.ext X
  replace S3 := S3.ext X
  replace S4 := S4.ext X
  replace S7 := S7.ext X
  replace S8 := S8.ext X
  clear X B Ew8
  obtain ⟨AF, hAF⟩ : ∃ z, fromACr A3 c3 1 = z := ⟨_, rfl⟩
  have hs2 := fun w : World => slice_fromCr A3 2 c3 1 1 rfl (by decide) hc3 w
  rw [hAF] at hs2
  have HAF := Lib.hid hAF
  clear hAF
  have hs1 := fun w : World => slice_headCr A3 2 c3 1 1 rfl (by omega) w
  go_wp2_with fail
  refine (sameCr (a := [⟨2, 20, 600⟩]) (b := [⟨2, 20, 600⟩]) true (by decide +kernel) rfl rfl (by first | exact S2 | exact (S2).alloc _ | exact ((S2).alloc _).alloc _ | exact (((S2).alloc _).alloc _).alloc _) (by first | exact slc_litH _ [(⟨2, 20, 600⟩ : Cr)] _ 24 (enc := Cr.cells) (sz := 3) (fun _ => rfl) rfl _ (by first | rfl | simp) | exact (slc_litH _ [(⟨2, 20, 600⟩ : Cr)] _ 24 (enc := Cr.cells) (sz := 3) (fun _ => rfl) rfl _ (by first | rfl | simp)).alloc _ | exact ((slc_litH _ [(⟨2, 20, 600⟩ : Cr)] _ 24 (enc := Cr.cells) (sz := 3) (fun _ => rfl) rfl _ (by first | rfl | simp)).alloc _).alloc _ | exact (((slc_litH _ [(⟨2, 20, 600⟩ : Cr)] _ 24 (enc := Cr.cells) (sz := 3) (fun _ => rfl) rfl _ (by first | rfl | simp)).alloc _).alloc _).alloc _) (by decide)).mono ?_
  rintro e w10 ⟨rfl, B⟩
  have X : Below w9.heap.size w9 w10 := by first | exact B | exact ext_trans (ext_alloc (ext_refl _) _) B | exact ext_trans (ext_alloc (ext_alloc (ext_refl _) _) _) B | exact ext_trans (ext_alloc (ext_alloc (ext_alloc (ext_refl _) _) _) _) B | exact ext_trans (ext_alloc (ext_alloc (ext_alloc (ext_alloc (ext_refl _) _) _) _) _) B
  have Ew10 := ext_trans Ew9 X
  replace S3 := S3.ext X
  replace S4 := S4.ext X
  replace S7 := S7.ext X
  replace S8 := S8.ext X
  clear X B Ew9 S2
  go_wp2_with fail
  refine (sameCr (a := [⟨2, 5, 700⟩]) (b := [⟨2, 5, 700⟩]) true (by decide +kernel) rfl rfl (by first | exact S4 | exact (S4).alloc _ | exact ((S4).alloc _).alloc _ | exact (((S4).alloc _).alloc _).alloc _) (by first | exact slc_litH _ [(⟨2, 5, 700⟩ : Cr)] _ 24 (enc := Cr.cells) (sz := 3) (fun _ => rfl) rfl _ (by first | rfl | simp) | exact (slc_litH _ [(⟨2, 5, 700⟩ : Cr)] _ 24 (enc := Cr.cells) (sz := 3) (fun _ => rfl) rfl _ (by first | rfl | simp)).alloc _ | exact ((slc_litH _ [(⟨2, 5, 700⟩ : Cr)] _ 24 (enc := Cr.cells) (sz := 3) (fun _ => rfl) rfl _ (by first | rfl | simp)).alloc _).alloc _ | exact (((slc_litH _ [(⟨2, 5, 700⟩ : Cr)] _ 24 (enc := Cr.cells) (sz := 3) (fun _ => rfl) rfl _ (by first | rfl | simp)).alloc _).alloc _).alloc _) (by decide)).mono ?_
  rintro e w11 ⟨rfl, B⟩
  have X : Below w10.heap.size w10 w11 := by first | exact B | exact ext_trans (ext_alloc (ext_refl _) _) B | exact ext_trans (ext_alloc (ext_alloc (ext_refl _) _) _) B | exact ext_trans (ext_alloc (ext_alloc (ext_alloc (ext_refl _) _) _) _) B | exact ext_trans (ext_alloc (ext_alloc (ext_alloc (ext_alloc (ext_refl _) _) _) _) _) B
  have Ew11 := ext_trans Ew10 X
  replace S3 := S3.ext X
  replace S7 := S7.ext X
  replace S8 := S8.ext X
  clear X B Ew10 S4
  go_wp2_with fail
  refine (sameCr (a := [⟨2, 10, 700⟩]) (b := [⟨2, 10, 700⟩]) true (by decide +kernel) rfl rfl (by first | exact S7 | exact (S7).alloc _ | exact ((S7).alloc _).alloc _ | exact (((S7).alloc _).alloc _).alloc _) (by rw [← HAF.out]; exact (show Slc _ Cr.cells 3 A3 [⟨2, 10, 600⟩, ⟨2, 10, 700⟩] from (by first | exact S3 | exact (S3).alloc _ | exact ((S3).alloc _).alloc _ | exact (((S3).alloc _).alloc _).alloc _)).from_ 1 c3 hc3) (by decide)).mono ?_
  rintro e w12 ⟨rfl, B⟩
  have X : Below w11.heap.size w11 w12 := by first | exact B | exact ext_trans (ext_alloc (ext_refl _) _) B | exact ext_trans (ext_alloc (ext_alloc (ext_refl _) _) _) B | exact ext_trans (ext_alloc (ext_alloc (ext_alloc (ext_refl _) _) _) _) B | exact ext_trans (ext_alloc (ext_alloc (ext_alloc (ext_alloc (ext_refl _) _) _) _) _) B
  have Ew12 := ext_trans Ew11 X
  replace S3 := S3.ext X
  replace S8 := S8.ext X
  clear X B Ew11 S7
  go_wp2_with fail
  refine (sameCr (a := [⟨2, 10, 600⟩]) (b := [⟨2, 10, 600⟩]) true (by decide +kernel) rfl rfl (by first | exact S8 | exact (S8).alloc _ | exact ((S8).alloc _).alloc _ | exact (((S8).alloc _).alloc _).alloc _) ((show Slc _ Cr.cells 3 A3 [⟨2, 10, 600⟩, ⟨2, 10, 700⟩] from (by first | exact S3 | exact (S3).alloc _ | exact ((S3).alloc _).alloc _ | exact (((S3).alloc _).alloc _).alloc _)).take 1) (by decide)).mono ?_
  rintro e w13 ⟨rfl, B⟩
  have X : Below w12.heap.size w12 w13 := by first | exact B | exact ext_trans (ext_alloc (ext_refl _) _) B | exact ext_trans (ext_alloc (ext_alloc (ext_refl _) _) _) B | exact ext_trans (ext_alloc (ext_alloc (ext_alloc (ext_refl _) _) _) _) B | exact ext_trans (ext_alloc (ext_alloc (ext_alloc (ext_alloc (ext_refl _) _) _) _) _) B
  have Ew13 := ext_trans Ew12 X
  replace S3 := S3.ext X
  clear X B Ew12 S8
  go_wp2_with fail
  refine (balance_at (l := [⟨2, 10, 600⟩, ⟨2, 10, 700⟩]) (al := 2) (now := 599) 20 (by decide +kernel) rfl (by first | exact S3 | exact (S3).alloc _ | exact ((S3).alloc _).alloc _ | exact (((S3).alloc _).alloc _).alloc _) (by decide) (sm_lit (by decide +kernel))).mono ?_
  rintro e w14 ⟨rfl, B⟩
  have X : Below w13.heap.size w13 w14 := by first | exact B | exact ext_trans (ext_alloc (ext_refl _) _) B | exact ext_trans (ext_alloc (ext_alloc (ext_refl _) _) _) B | exact ext_trans (ext_alloc (ext_alloc (ext_alloc (ext_refl _) _) _) _) B | exact ext_trans (ext_alloc (ext_alloc (ext_alloc (ext_alloc (ext_refl _) _) _) _) _) B
  have Ew14 := ext_trans Ew13 X
  replace S3 := S3.ext X
  clear X B Ew13
  go_wp2_with fail
  refine (balance_at (l := [⟨2, 10, 600⟩, ⟨2, 10, 700⟩]) (al := 2) (now := 600) 10 (by decide +kernel) rfl (by first | exact S3 | exact (S3).alloc _ | exact ((S3).alloc _).alloc _ | exact (((S3).alloc _).alloc _).alloc _) (by decide) (sm_lit (by decide +kernel))).mono ?_
  rintro e w15 ⟨rfl, B⟩
  have X : Below w14.heap.size w14 w15 := by first | exact B | exact ext_trans (ext_alloc (ext_refl _) _) B | exact ext_trans (ext_alloc (ext_alloc (ext_refl _) _) _) B | exact ext_trans (ext_alloc (ext_alloc (ext_alloc (ext_refl _) _) _) _) B | exact ext_trans (ext_alloc (ext_alloc (ext_alloc (ext_alloc (ext_refl _) _) _) _) _) B
  have Ew15 := ext_trans Ew14 X
  clear X B Ew14 S3
  go_wp2_with fail
  refine (balance_at (l := []) (al := 0) (now := 0) 0 (by decide +kernel) rfl Slc.nil (by decide) (sm_lit (by decide +kernel))).mono ?_
  rintro e w16 ⟨rfl, B⟩
  have X : Below w15.heap.size w15 w16 := by first | exact B | exact ext_trans (ext_alloc (ext_refl _) _) B | exact ext_trans (ext_alloc (ext_alloc (ext_refl _) _) _) B | exact ext_trans (ext_alloc (ext_alloc (ext_alloc (ext_refl _) _) _) _) B | exact ext_trans (ext_alloc (ext_alloc (ext_alloc (ext_alloc (ext_refl _) _) _) _) _) B
  have Ew16 := ext_trans Ew15 X
  clear X B Ew15
  go_wp2_with fail
  go_ret
  exact ⟨rfl, Ew16⟩
end Go.Proofs.Ytafglcalimcdcaa
