/- The chapter's examples. -/
import Derived.Test.YtmgpbjpohbpgpaaO
import Derived.Test.YtmgpbjpohbpgpaaRgM
import Derived.Test.YtmgpbjpohbpgpaaApp8
set_option linter.unusedSimpArgs false
set_option linter.unusedVariables false
namespace Go.Proofs.Ytmgpbjpohbpgpaa
open Go.RowKit
def exL : List Ru := [cuf 0 800, cuf 700 1440, cuf 100 200]
theorem nc_far {w : World} {A : Option Addr} {l : List Nat} (h : Slc w nc 1 A l) {p : Addr} {a : Option Addr} {n c : Nat} (hv : w.cell? p = some (.slice a n c)) {v : Value} : Slc (w.setCell p v) nc 1 A l := fun i x hx => by
  obtain ⟨b, o, rfl, hlt, hc⟩ := h i x hx
  refine ⟨b, o, rfl, by simpa [World.setCell] using hlt, fun j u hj => ?_⟩
  have h1 := hc j u hj
  rw [World.cell?_setCell_other _ _ _ _ (by
    intro e
    rw [← e, hv] at h1
    cases h1
    cases j with
    | zero => cases hj
    | succ j => cases hj)]
  exact h1
abbrev exA (b24 b25 b29 : Nat) : As := ⟨⟨none, 0, 0⟩, ⟨none, 0, 0⟩, ⟨none, 0, 0⟩, ⟨none, 0, 0⟩, ⟨none, 0, 0⟩, ⟨some ⟨b25, 0, none⟩, 1, 1⟩, ⟨some ⟨b24, 0, none⟩, 2, 2⟩, ⟨some ⟨b29, 0, none⟩, 3, exL⟩⟩
abbrev exB (b24 b25 b : Nat) (l : List Ru) : As := ⟨⟨none, 0, 0⟩, ⟨none, 0, 0⟩, ⟨none, 0, 0⟩, ⟨none, 0, 0⟩, ⟨none, 0, 0⟩, ⟨some ⟨b25, 0, none⟩, 1, 1⟩, ⟨some ⟨b24, 0, none⟩, 2, 2⟩, ⟨some ⟨b, 0, none⟩, l.length, l⟩⟩
abbrev exN : As := ⟨⟨none, 0, 0⟩, ⟨none, 0, 0⟩, ⟨none, 0, 0⟩, ⟨none, 0, 0⟩, ⟨none, 0, 0⟩, ⟨none, 0, 0⟩, ⟨none, 0, 0⟩, ⟨none, 0, []⟩⟩
theorem aokA {w : World} (b24 b25 : Nat) {b29 : Nat} (h : Slc w Ru.cells 8 (some ⟨b29, 0, none⟩) exL) : AOk w (exA b24 b25 b29) := ⟨by show 1 ≤ maxLen; decide, by show 2 ≤ maxLen; decide, h, by show 3 ≤ 3; decide, by show 3 ≤ maxLen; decide⟩
theorem aokB {w : World} (b24 b25 : Nat) {b : Nat} {l : List Ru} (h : Slc w Ru.cells 8 (some ⟨b, 0, none⟩) l) (hl : l.length ≤ maxLen) : AOk w (exB b24 b25 b l) := ⟨by show 1 ≤ maxLen; decide, by show 2 ≤ maxLen; decide, h, Nat.le_refl _, hl⟩
set_option maxRecDepth 100000
theorem ex1 : reaL 2 1 exL = [0, 1] := by decide +kernel
theorem ex2 : chkR ((2 : Nat) : Int) ((1 : Nat) : Int) exL = 0 := by decide +kernel
theorem ex3 : reaL 0 0 [] = [] := by decide +kernel
theorem ex4 : chkR ((0 : Nat) : Int) ((0 : Nat) : Int) [] = 0 := by decide +kernel
theorem ex5 : reaL 2 1 [⟨1, ⟨#[]⟩, ⟨#[]⟩, 0, 0, 0, 0, 10⟩, ⟨1, ⟨#[]⟩, ⟨#[]⟩, 0, 0, 0, 0, 1440⟩] = [1] := by decide +kernel
theorem ex6 : chkR ((2 : Nat) : Int) ((1 : Nat) : Int) [⟨1, ⟨#[]⟩, ⟨#[]⟩, 0, 0, 0, 0, 10⟩, ⟨1, ⟨#[]⟩, ⟨#[]⟩, 0, 0, 0, 0, 1440⟩] = 0 := by decide +kernel
theorem ex7 : weightN ((2 : Nat) : Int) ((1 : Nat) : Int) exL 1 = 1 := by decide +kernel
theorem ex8 : chkC ((2 : Nat) : Int) ((1 : Nat) : Int) exL 1 = 0 := by decide +kernel
theorem ex9 : longN ((2 : Nat) : Int) ((1 : Nat) : Int) exL 1 = 60 := by decide +kernel
theorem ex10 : weightN ((0 : Nat) : Int) ((0 : Nat) : Int) [] 0 = 0 := by decide +kernel
theorem ex11 : chkC ((0 : Nat) : Int) ((0 : Nat) : Int) [] 0 = 1 := by decide +kernel
theorem ex12 : chkR ((2 : Nat) : Int) ((1 : Nat) : Int) [⟨3, ⟨#[]⟩, ⟨#[]⟩, 0, 0, 9, 0, 0⟩] = 130 := by decide +kernel
theorem ex13 : longN ((2 : Nat) : Int) ((1 : Nat) : Int) [⟨2, ⟨#[]⟩, ⟨#[]⟩, 0, 0, 0, 0, 0⟩, ⟨3, ⟨#[]⟩, ⟨#[]⟩, 1, 0, 5, 0, 0⟩, ⟨4, ⟨#[]⟩, ⟨#[]⟩, 1, 0, 20, 0, 0⟩] 0 = 0 := by decide +kernel
theorem ex14 : chkC ((2 : Nat) : Int) ((1 : Nat) : Int) [⟨2, ⟨#[]⟩, ⟨#[]⟩, 0, 0, 0, 0, 0⟩, ⟨3, ⟨#[]⟩, ⟨#[]⟩, 1, 0, 5, 0, 0⟩, ⟨4, ⟨#[]⟩, ⟨#[]⟩, 1, 0, 20, 0, 0⟩] 0 = 0 := by decide +kernel
theorem ex15 : longN ((2 : Nat) : Int) ((1 : Nat) : Int) [⟨2, ⟨#[]⟩, ⟨#[]⟩, 0, 0, 0, 0, 0⟩, ⟨3, ⟨#[]⟩, ⟨#[]⟩, 1, 0, 5, 0, 0⟩, ⟨4, ⟨#[]⟩, ⟨#[]⟩, 1, 0, 20, 0, 0⟩] 1 = 20 := by decide +kernel
theorem ex16 : chkC ((2 : Nat) : Int) ((1 : Nat) : Int) [⟨2, ⟨#[]⟩, ⟨#[]⟩, 0, 0, 0, 0, 0⟩, ⟨3, ⟨#[]⟩, ⟨#[]⟩, 1, 0, 5, 0, 0⟩, ⟨4, ⟨#[]⟩, ⟨#[]⟩, 1, 0, 20, 0, 0⟩] 1 = 0 := by decide +kernel
theorem ex17 : weightN ((2 : Nat) : Int) ((1 : Nat) : Int) [⟨2, ⟨#[]⟩, ⟨#[]⟩, 0, 0, 0, 0, 0⟩, ⟨3, ⟨#[]⟩, ⟨#[]⟩, 1, 0, 5, 0, 0⟩, ⟨4, ⟨#[]⟩, ⟨#[]⟩, 1, 0, 20, 0, 0⟩] 1 = 5 := by decide +kernel
theorem ex18 : curN ((2 : Nat) : Int) ((1 : Nat) : Int) exL 0 0 = [⟨0, 1440⟩] := by decide +kernel
theorem ex19 : curE ((2 : Nat) : Int) ((1 : Nat) : Int) exL 0 0 = 0 := by decide +kernel
theorem aokN (w : World) : AOk w exN := ⟨by show 0 ≤ maxLen; decide, by show 0 ≤ maxLen; decide, Slc.nil, Nat.le_refl _, by show 0 ≤ maxLen; decide⟩
theorem infoC : (Try.prog.info? 136).map (fun i => (i.zero.isSome, decide (i.bytes * 2 ≤ 281474976710656))) = some (true, true) := by kernel_rfl
theorem infoD : (Try.prog.info? 134).map (fun i => (i.zero.isSome, decide (i.bytes * 2 ≤ 281474976710656))) = some (true, true) := by kernel_rfl
theorem mk28 : ∃ f : World → Obj, ∀ w, (Instr.makeSlice 28 (.int .i64 2) (.int .i64 2)).run Try.prog w = .ok (.slice (some ⟨w.heap.size, 0, none⟩) 2 2) (w.alloc (f w)) := by
  obtain ⟨i, hi, hx⟩ := Option.map_eq_some_iff.1 infoC
  simp only [Prod.mk.injEq, decide_eq_true_eq, Option.isSome_iff_exists] at hx
  obtain ⟨⟨z, hz⟩, hb⟩ := hx
  exact ⟨_, fun w => run_make w 28 136 i z Try.underlying28 hi hz .i64 .i64 2 2 (by decide) (by decide) (by omega) (by decide)⟩
theorem mk27 : ∃ f : World → Obj, ∀ w, (Instr.makeSlice 27 (.int .i64 1) (.int .i64 1)).run Try.prog w = .ok (.slice (some ⟨w.heap.size, 0, none⟩) 1 1) (w.alloc (f w)) := by
  obtain ⟨i, hi, hx⟩ := Option.map_eq_some_iff.1 infoD
  simp only [Prod.mk.injEq, decide_eq_true_eq, Option.isSome_iff_exists] at hx
  obtain ⟨⟨z, hz⟩, hb⟩ := hx
  exact ⟨_, fun w => run_make w 27 134 i z Try.underlying27 hi hz .i64 .i64 1 1 (by decide) (by decide) (by omega) (by decide)⟩
set_option maxRecDepth 100000 in
set_option maxHeartbeats 51200000 in
theorem sane_any (w : World) : Calls Try.prog 8 #[] w (Tru w) := by
  obtain ⟨f28, m28⟩ := mk28
  obtain ⟨f27, m27⟩ := mk27
  go_enter Try.func8, Try.ntmps8
  go_wp2_with fail
  refine rg_begin (S := fun w' => Below w.heap.size w w') 8 (by kernel_rfl) (by intro d; cases d <;> intro _ _ _ _ h <;> exact h) ?_ (fun Q7 hQ7 hN7 hHeld => ?_)
  · exact ext_drew (ext_refl _)
  refine rg_ops (fun OPS hO => ?_)
  have n017_4x : ∀ (b24 b25 b1 b29 : Nat) (W : World), Below w.heap.size w W → Blk W b1 [.slice none 0 0, .slice none 0 0, .slice none 0 0, .slice none 0 0, .slice none 0 0, .slice none 0 0, .slice none 0 0, .slice none 0 0] → w.heap.size ≤ b1 → Slc W Ru.cells 8 (some ⟨b29, 0, none⟩) exL → Go.Proofs.Ytmgpbjpohbpgpaa.rowOff (some ⟨b29, 0, none⟩) exL b1 → WT Try.prog .any OPS Q7 8 (fun w' => Below w.heap.size w w') 1 #[true, true, true, true, true, true, true, true, false] { tmps := #[.bool false, .pointer (some ⟨b1, 0, none⟩), undef, undef, undef, undef, undef, undef, undef, undef, undef, undef, undef, undef, undef, undef, undef, undef, undef, undef, undef, undef, undef, undef, .slice (some ⟨b24, 0, none⟩) 2 2, .slice (some ⟨b25, 0, none⟩) 1 1, .agg #[.int .i64 1, .string ⟨#[]⟩, .string ⟨#[]⟩, .int .i64 0, .int .i64 0, .int .i64 0, .int .i64 0, .int .i64 800], .agg #[.int .i64 1, .string ⟨#[]⟩, .string ⟨#[]⟩, .int .i64 0, .int .i64 0, .int .i64 0, .int .i64 700, .int .i64 1440], .agg #[.int .i64 1, .string ⟨#[]⟩, .string ⟨#[]⟩, .int .i64 0, .int .i64 0, .int .i64 0, .int .i64 100, .int .i64 200], .slice (some ⟨b29, 0, none⟩) 3 3, .agg #[.slice none 0 0, .slice none 0 0, .slice none 0 0, .slice none 0 0, .slice none 0 0, .slice (some ⟨b25, 0, none⟩) 1 1, .slice (some ⟨b24, 0, none⟩) 2 2, .slice (some ⟨b29, 0, none⟩) 3 3], undef, undef, undef, undef, undef, undef, undef, undef, undef, undef, undef, undef, undef, undef, undef, undef, undef, undef, undef, undef, undef, undef, undef, undef, undef, undef, undef, undef, undef, undef, undef, undef, undef, undef, undef, undef, undef, undef, undef, undef, undef, undef, undef, undef, undef, undef, undef, undef, undef, undef, undef, undef, undef, undef, undef, undef, undef, undef, undef, undef, undef, undef, undef, undef, undef, undef, undef, undef, undef, undef, undef, undef, undef, undef, undef, undef, undef, undef, undef, undef, undef, undef, undef, undef, undef, undef, undef, undef, undef, undef, undef, undef, undef, undef, undef, undef, undef, undef, undef, undef, undef, undef, undef, undef, undef, undef, undef, undef, undef, undef, undef, undef, undef, undef, undef, undef, undef, undef, undef, undef, undef, undef, undef, undef, undef, undef, undef, undef, undef, undef, undef, undef, undef, undef, undef, undef, undef, undef, undef, undef, undef, undef, undef, undef, undef, undef, undef, undef, undef, undef, undef], defers := [] } W := by
    intro b24 b25 b1 b29 W hE hX hb hSl ho
    subst hO
    have g0 := hX.c 0 _ rfl
    have g1 := hX.c 1 _ rfl
    have g2 := hX.c 2 _ rfl
    have g3 := hX.c 3 _ rfl
    have g4 := hX.c 4 _ rfl
    have g5 := hX.c 5 _ rfl
    have g6 := hX.c 6 _ rfl
    have g7 := hX.c 7 _ rfl
    have gf := hX.f
    have gl := hX.lt
    refine rg_one (i := 8) (by kernel_rfl) (rg_late rfl (by rfl) (by kernel_rfl) (fun K hK => ?_))
    go_simp
    refine hK.out _ _ ?_
    clear hK K
    try simp only [Act.put, List.setIfInBounds_toArray, List.set_cons_zero, List.set_cons_succ]
    refine rg_end (by kernel_rfl) (hN7 _ _ ?_) _
    clear hQ7 hN7 Q7 hHeld g0 g1 g2 g3 g4 g5 g6 g7 gf gl
    have E := Lib.hid (ext_set8 hE b1 (.slice none 0 0) (.slice none 0 0) (.slice none 0 0) (.slice none 0 0) (.slice none 0 0) (.slice (some ⟨b25, 0, none⟩) 1 1) (.slice (some ⟨b24, 0, none⟩) 2 2) (.slice (some ⟨b29, 0, none⟩) 3 3) hb)
    have X := Lib.hid (hX.put8 (.slice none 0 0) (.slice none 0 0) (.slice none 0 0) (.slice none 0 0) (.slice none 0 0) (.slice (some ⟨b25, 0, none⟩) 1 1) (.slice (some ⟨b24, 0, none⟩) 2 2) (.slice (some ⟨b29, 0, none⟩) 3 3))
    have RS := Lib.hid (hSl.far8 (b := b1) (.slice none 0 0) (.slice none 0 0) (.slice none 0 0) (.slice none 0 0) (.slice none 0 0) (.slice (some ⟨b25, 0, none⟩) 1 1) (.slice (some ⟨b24, 0, none⟩) 2 2) (.slice (some ⟨b29, 0, none⟩) 3 3) ho)
    unfold set8 at E X RS
    clear hE hX hSl ho hb
    obtain ⟨x0, hNx0⟩ : ∃ W0, W0 = ((((((((W.setCell ⟨b1, 0, none⟩ (.slice none 0 0)).setCell ⟨b1, 1, none⟩ (.slice none 0 0)).setCell ⟨b1, 2, none⟩ (.slice none 0 0)).setCell ⟨b1, 3, none⟩ (.slice none 0 0)).setCell ⟨b1, 4, none⟩ (.slice none 0 0)).setCell ⟨b1, 5, none⟩ (.slice (some ⟨b25, 0, none⟩) 1 1)).setCell ⟨b1, 6, none⟩ (.slice (some ⟨b24, 0, none⟩) 2 2)).setCell ⟨b1, 7, none⟩ (.slice (some ⟨b29, 0, none⟩) 3 3)) := ⟨_, rfl⟩
    rw [← hNx0] at E X RS ⊢
    clear hNx0
    have c0 := X.out.c 0 _ rfl
    have c1 := X.out.c 1 _ rfl
    have c2 := X.out.c 2 _ rfl
    have c3 := X.out.c 3 _ rfl
    have c4 := X.out.c 4 _ rfl
    have c5 := X.out.c 5 _ rfl
    have c6 := X.out.c 6 _ rfl
    have c7 := X.out.c 7 _ rfl
    go_wp2_with fail
    refine (reason_at (a := exA b24 b25 b29) [0, 1] 0 ex1 ex2 (aokA b24 b25 RS.out)).mono ?_
    rintro e v1 ⟨A2, q2, rfl, h2, B⟩
    clear c0 c1 c2 c3 c4 c5 c6 c7
    replace E := Lib.hid (ext_trans E.out B)
    replace X := Lib.hid (X.out.ext B)
    replace RS := Lib.hid (RS.out.ext B)
    clear B
    have L := Lib.hid h2
    clear h2
    go_wp2_with fail
    refine (reason_at (a := exN) [] 0 ex3 ex4 (aokN _)).mono ?_
    rintro e v2 ⟨A4, q4, rfl, -, B⟩
    replace E := Lib.hid (ext_trans E.out B)
    replace X := Lib.hid (X.out.ext B)
    replace RS := Lib.hid (RS.out.ext B)
    replace L := Lib.hid (L.out.ext B)
    clear B
    have c0 := X.out.c 0 _ rfl
    have c1 := X.out.c 1 _ rfl
    have c2 := X.out.c 2 _ rfl
    have c3 := X.out.c 3 _ rfl
    have c4 := X.out.c 4 _ rfl
    have c5 := X.out.c 5 _ rfl
    have c6 := X.out.c 6 _ rfl
    have c7 := X.out.c 7 _ rfl
    have hxl : b1 < v2.heap.size := X.out.lt
    have hwl : w.heap.size ≤ v2.heap.size := E.out.size
    have HRY := Lib.hid (RS.out.rowOff (b := v2.heap.size) (Nat.le_refl _))
    replace E := Lib.hid (ext_alloc E.out (.cells #[.slice none 0 0, .slice none 0 0, .slice none 0 0, .slice none 0 0, .slice none 0 0, .slice (some ⟨b25, 0, none⟩) 1 1, .slice (some ⟨b24, 0, none⟩) 2 2, .slice (some ⟨b29, 0, none⟩) 3 3] 31))
    replace X := Lib.hid (X.out.alloc (.cells #[.slice none 0 0, .slice none 0 0, .slice none 0 0, .slice none 0 0, .slice none 0 0, .slice (some ⟨b25, 0, none⟩) 1 1, .slice (some ⟨b24, 0, none⟩) 2 2, .slice (some ⟨b29, 0, none⟩) 3 3] 31))
    replace RS := Lib.hid (RS.out.alloc (.cells #[.slice none 0 0, .slice none 0 0, .slice none 0 0, .slice none 0 0, .slice none 0 0, .slice (some ⟨b25, 0, none⟩) 1 1, .slice (some ⟨b24, 0, none⟩) 2 2, .slice (some ⟨b29, 0, none⟩) 3 3] 31))
    replace L := Lib.hid (L.out.alloc (.cells #[.slice none 0 0, .slice none 0 0, .slice none 0 0, .slice none 0 0, .slice none 0 0, .slice (some ⟨b25, 0, none⟩) 1 1, .slice (some ⟨b24, 0, none⟩) 2 2, .slice (some ⟨b29, 0, none⟩) 3 3] 31))
    have Y := Lib.hid (Blk.newH v2 [.slice none 0 0, .slice none 0 0, .slice none 0 0, .slice none 0 0, .slice none 0 0, .slice (some ⟨b25, 0, none⟩) 1 1, .slice (some ⟨b24, 0, none⟩) 2 2, .slice (some ⟨b29, 0, none⟩) 3 3] 31 (v2.heap.size) (by first | rfl | simp))
    go_wp2_with fail
    skip
    go_wp2_with fail
    refine (cuf_any 0 10 _).mono ?_
    rintro e v3 ⟨rfl, B⟩
    replace E := Lib.hid (ext_trans E.out B)
    replace X := Lib.hid (X.out.ext B)
    replace RS := Lib.hid (RS.out.ext B)
    replace L := Lib.hid (L.out.ext B)
    replace Y := Lib.hid (Y.out.ext B)
    clear B
    go_wp2_with fail
    refine (cuf_any 0 1440 _).mono ?_
    rintro e v4 ⟨rfl, B⟩
    replace E := Lib.hid (ext_trans E.out B)
    replace X := Lib.hid (X.out.ext B)
    replace RS := Lib.hid (RS.out.ext B)
    replace L := Lib.hid (L.out.ext B)
    replace Y := Lib.hid (Y.out.ext B)
    clear B
    have c0 := Y.out.c 0 _ rfl
    have c1 := Y.out.c 1 _ rfl
    have c2 := Y.out.c 2 _ rfl
    have c3 := Y.out.c 3 _ rfl
    have c4 := Y.out.c 4 _ rfl
    have c5 := Y.out.c 5 _ rfl
    have c6 := Y.out.c 6 _ rfl
    have c7 := Y.out.c 7 _ rfl
    have yl := Y.out.lt
    have yf := Y.out.f
    have hne := Lib.hid (show v2.heap.size ≠ v4.heap.size by omega)
    go_wp2_with fail
    replace E := Lib.hid (ext_set E.out ⟨v2.heap.size, 7, none⟩ (.slice (some ⟨v4.heap.size, 0, none⟩) 2 2) (by first | exact Nat.le_refl _ | omega | (simp; done) | (simp; omega)))
    replace X := Lib.hid (X.out.other (p := ⟨v2.heap.size, 7, none⟩) (.slice (some ⟨v4.heap.size, 0, none⟩) 2 2) (by first | omega | (simp; done) | (simp; omega)))
    replace RS := Lib.hid (RS.out.far (p := ⟨v2.heap.size, 7, none⟩) (v := (.slice (some ⟨v4.heap.size, 0, none⟩) 2 2)) HRY.out)
    replace L := Lib.hid (nc_far (p := ⟨v2.heap.size, 7, none⟩) (v := (.slice (some ⟨v4.heap.size, 0, none⟩) 2 2)) L.out c7)
    replace Y := Lib.hid (show Blk _ (v2.heap.size) [.slice none 0 0, .slice none 0 0, .slice none 0 0, .slice none 0 0, .slice none 0 0, .slice (some ⟨b25, 0, none⟩) 1 1, .slice (some ⟨b24, 0, none⟩) 2 2, .slice (some ⟨v4.heap.size, 0, none⟩) 2 2] from Y.out.set (j := 7) (by simp) (.slice (some ⟨v4.heap.size, 0, none⟩) 2 2))
    clear yl yf c0 c1 c2 c3 c4 c5 c6 c7
    replace E := Lib.hid (ext_alloc E.out (.cells #[.int .i64 1, .string ⟨#[]⟩, .string ⟨#[]⟩, .int .i64 0, .int .i64 0, .int .i64 0, .int .i64 0, .int .i64 10, .int .i64 1, .string ⟨#[]⟩, .string ⟨#[]⟩, .int .i64 0, .int .i64 0, .int .i64 0, .int .i64 0, .int .i64 1440] 42))
    replace X := Lib.hid (X.out.alloc (.cells #[.int .i64 1, .string ⟨#[]⟩, .string ⟨#[]⟩, .int .i64 0, .int .i64 0, .int .i64 0, .int .i64 0, .int .i64 10, .int .i64 1, .string ⟨#[]⟩, .string ⟨#[]⟩, .int .i64 0, .int .i64 0, .int .i64 0, .int .i64 0, .int .i64 1440] 42))
    replace RS := Lib.hid (RS.out.alloc (.cells #[.int .i64 1, .string ⟨#[]⟩, .string ⟨#[]⟩, .int .i64 0, .int .i64 0, .int .i64 0, .int .i64 0, .int .i64 10, .int .i64 1, .string ⟨#[]⟩, .string ⟨#[]⟩, .int .i64 0, .int .i64 0, .int .i64 0, .int .i64 0, .int .i64 1440] 42))
    replace L := Lib.hid (L.out.alloc (.cells #[.int .i64 1, .string ⟨#[]⟩, .string ⟨#[]⟩, .int .i64 0, .int .i64 0, .int .i64 0, .int .i64 0, .int .i64 10, .int .i64 1, .string ⟨#[]⟩, .string ⟨#[]⟩, .int .i64 0, .int .i64 0, .int .i64 0, .int .i64 0, .int .i64 1440] 42))
    replace Y := Lib.hid (Y.out.alloc (.cells #[.int .i64 1, .string ⟨#[]⟩, .string ⟨#[]⟩, .int .i64 0, .int .i64 0, .int .i64 0, .int .i64 0, .int .i64 10, .int .i64 1, .string ⟨#[]⟩, .string ⟨#[]⟩, .int .i64 0, .int .i64 0, .int .i64 0, .int .i64 0, .int .i64 1440] 42))
    have R2 := Lib.hid (slc_litH (v4.setCell ⟨v2.heap.size, 7, none⟩ (.slice (some ⟨v4.heap.size, 0, none⟩) 2 2)) [⟨1, ⟨#[]⟩, ⟨#[]⟩, 0, 0, 0, 0, 10⟩, ⟨1, ⟨#[]⟩, ⟨#[]⟩, 0, 0, 0, 0, 1440⟩] #[.int .i64 1, .string ⟨#[]⟩, .string ⟨#[]⟩, .int .i64 0, .int .i64 0, .int .i64 0, .int .i64 0, .int .i64 10, .int .i64 1, .string ⟨#[]⟩, .string ⟨#[]⟩, .int .i64 0, .int .i64 0, .int .i64 0, .int .i64 0, .int .i64 1440] 42 (enc := Ru.cells) (sz := 8) (fun _ => rfl) rfl (v4.heap.size) (by first | rfl | simp))
    clear hne
    obtain ⟨x1, hNx1⟩ : ∃ W0, W0 = ((v4.setCell ⟨v2.heap.size, 7, none⟩ (.slice (some ⟨v4.heap.size, 0, none⟩) 2 2)).alloc (.cells #[.int .i64 1, .string ⟨#[]⟩, .string ⟨#[]⟩, .int .i64 0, .int .i64 0, .int .i64 0, .int .i64 0, .int .i64 10, .int .i64 1, .string ⟨#[]⟩, .string ⟨#[]⟩, .int .i64 0, .int .i64 0, .int .i64 0, .int .i64 0, .int .i64 1440] 42)) := ⟨_, rfl⟩
    rw [← hNx1] at E X RS L Y R2 ⊢
    clear hNx1
    refine (reason_at (a := exB b24 b25 (v4.heap.size) [⟨1, ⟨#[]⟩, ⟨#[]⟩, 0, 0, 0, 0, 10⟩, ⟨1, ⟨#[]⟩, ⟨#[]⟩, 0, 0, 0, 0, 1440⟩]) [1] 0 ex5 ex6 (aokB b24 b25 R2.out (by decide))).mono ?_
    rintro e v5 ⟨A7, q7, rfl, h2, B⟩
    replace E := Lib.hid (ext_trans E.out B)
    replace X := Lib.hid (X.out.ext B)
    replace RS := Lib.hid (RS.out.ext B)
    replace L := Lib.hid (L.out.ext B)
    replace Y := Lib.hid (Y.out.ext B)
    replace R2 := Lib.hid (R2.out.ext B)
    clear B
    have M := Lib.hid h2
    clear h2
    have c0 := X.out.c 0 _ rfl
    have c1 := X.out.c 1 _ rfl
    have c2 := X.out.c 2 _ rfl
    have c3 := X.out.c 3 _ rfl
    have c4 := X.out.c 4 _ rfl
    have c5 := X.out.c 5 _ rfl
    have c6 := X.out.c 6 _ rfl
    have c7 := X.out.c 7 _ rfl
    go_wp2_with fail
    refine (weight_at (a := exA b24 b25 b29) (cl := 1) 1 0 ex7 ex8 (aokA b24 b25 RS.out)).mono ?_
    rintro e v6 ⟨rfl, B⟩
    clear c0 c1 c2 c3 c4 c5 c6 c7
    replace E := Lib.hid (ext_trans E.out B)
    replace X := Lib.hid (X.out.ext B)
    replace RS := Lib.hid (RS.out.ext B)
    replace L := Lib.hid (L.out.ext B)
    replace Y := Lib.hid (Y.out.ext B)
    replace R2 := Lib.hid (R2.out.ext B)
    replace M := Lib.hid (M.out.ext B)
    clear B
    have c0 := X.out.c 0 _ rfl
    have c1 := X.out.c 1 _ rfl
    have c2 := X.out.c 2 _ rfl
    have c3 := X.out.c 3 _ rfl
    have c4 := X.out.c 4 _ rfl
    have c5 := X.out.c 5 _ rfl
    have c6 := X.out.c 6 _ rfl
    have c7 := X.out.c 7 _ rfl
    go_wp2_with fail
    refine (longest_at (a := exA b24 b25 b29) (cl := 1) 60 0 ex9 ex8 (aokA b24 b25 RS.out)).mono ?_
    rintro e v7 ⟨rfl, B⟩
    clear c0 c1 c2 c3 c4 c5 c6 c7
    replace E := Lib.hid (ext_trans E.out B)
    replace X := Lib.hid (X.out.ext B)
    replace RS := Lib.hid (RS.out.ext B)
    replace L := Lib.hid (L.out.ext B)
    replace Y := Lib.hid (Y.out.ext B)
    replace R2 := Lib.hid (R2.out.ext B)
    replace M := Lib.hid (M.out.ext B)
    clear B
    go_wp2_with fail
    refine (weight_at (a := exN) (cl := 0) 0 1 ex10 ex11 (aokN _)).mono ?_
    rintro e v8 ⟨rfl, B⟩
    replace E := Lib.hid (ext_trans E.out B)
    replace X := Lib.hid (X.out.ext B)
    replace RS := Lib.hid (RS.out.ext B)
    replace L := Lib.hid (L.out.ext B)
    replace Y := Lib.hid (Y.out.ext B)
    replace R2 := Lib.hid (R2.out.ext B)
    replace M := Lib.hid (M.out.ext B)
    clear B
    clear R2
    have c0 := Y.out.c 0 _ rfl
    have c1 := Y.out.c 1 _ rfl
    have c2 := Y.out.c 2 _ rfl
    have c3 := Y.out.c 3 _ rfl
    have c4 := Y.out.c 4 _ rfl
    have c5 := Y.out.c 5 _ rfl
    have c6 := Y.out.c 6 _ rfl
    have c7 := Y.out.c 7 _ rfl
    have yl := Y.out.lt
    have yf := Y.out.f
    have hne := Lib.hid (show v2.heap.size ≠ v8.heap.size by omega)
    go_wp2_with fail
    replace E := Lib.hid (ext_set E.out ⟨v2.heap.size, 7, none⟩ (.slice (some ⟨v8.heap.size, 0, none⟩) 1 1) (by first | exact Nat.le_refl _ | omega | (simp; done) | (simp; omega)))
    replace X := Lib.hid (X.out.other (p := ⟨v2.heap.size, 7, none⟩) (.slice (some ⟨v8.heap.size, 0, none⟩) 1 1) (by first | omega | (simp; done) | (simp; omega)))
    replace RS := Lib.hid (RS.out.far (p := ⟨v2.heap.size, 7, none⟩) (v := (.slice (some ⟨v8.heap.size, 0, none⟩) 1 1)) HRY.out)
    replace L := Lib.hid (nc_far (p := ⟨v2.heap.size, 7, none⟩) (v := (.slice (some ⟨v8.heap.size, 0, none⟩) 1 1)) L.out c7)
    replace Y := Lib.hid (show Blk _ (v2.heap.size) [.slice none 0 0, .slice none 0 0, .slice none 0 0, .slice none 0 0, .slice none 0 0, .slice (some ⟨b25, 0, none⟩) 1 1, .slice (some ⟨b24, 0, none⟩) 2 2, .slice (some ⟨v8.heap.size, 0, none⟩) 1 1] from Y.out.set (j := 7) (by simp) (.slice (some ⟨v8.heap.size, 0, none⟩) 1 1))
    replace M := Lib.hid (nc_far (p := ⟨v2.heap.size, 7, none⟩) (v := (.slice (some ⟨v8.heap.size, 0, none⟩) 1 1)) M.out c7)
    clear yl yf c0 c1 c2 c3 c4 c5 c6 c7
    replace E := Lib.hid (ext_alloc E.out (.cells #[.int .i64 3, .string ⟨#[]⟩, .string ⟨#[]⟩, .int .i64 0, .int .i64 0, .int .i64 9, .int .i64 0, .int .i64 0] 42))
    replace X := Lib.hid (X.out.alloc (.cells #[.int .i64 3, .string ⟨#[]⟩, .string ⟨#[]⟩, .int .i64 0, .int .i64 0, .int .i64 9, .int .i64 0, .int .i64 0] 42))
    replace RS := Lib.hid (RS.out.alloc (.cells #[.int .i64 3, .string ⟨#[]⟩, .string ⟨#[]⟩, .int .i64 0, .int .i64 0, .int .i64 9, .int .i64 0, .int .i64 0] 42))
    replace L := Lib.hid (L.out.alloc (.cells #[.int .i64 3, .string ⟨#[]⟩, .string ⟨#[]⟩, .int .i64 0, .int .i64 0, .int .i64 9, .int .i64 0, .int .i64 0] 42))
    replace Y := Lib.hid (Y.out.alloc (.cells #[.int .i64 3, .string ⟨#[]⟩, .string ⟨#[]⟩, .int .i64 0, .int .i64 0, .int .i64 9, .int .i64 0, .int .i64 0] 42))
    replace M := Lib.hid (M.out.alloc (.cells #[.int .i64 3, .string ⟨#[]⟩, .string ⟨#[]⟩, .int .i64 0, .int .i64 0, .int .i64 9, .int .i64 0, .int .i64 0] 42))
    have R2 := Lib.hid (slc_litH (v8.setCell ⟨v2.heap.size, 7, none⟩ (.slice (some ⟨v8.heap.size, 0, none⟩) 1 1)) [⟨3, ⟨#[]⟩, ⟨#[]⟩, 0, 0, 9, 0, 0⟩] #[.int .i64 3, .string ⟨#[]⟩, .string ⟨#[]⟩, .int .i64 0, .int .i64 0, .int .i64 9, .int .i64 0, .int .i64 0] 42 (enc := Ru.cells) (sz := 8) (fun _ => rfl) rfl (v8.heap.size) (by first | rfl | simp))
    clear hne
    obtain ⟨x2, hNx2⟩ : ∃ W0, W0 = ((v8.setCell ⟨v2.heap.size, 7, none⟩ (.slice (some ⟨v8.heap.size, 0, none⟩) 1 1)).alloc (.cells #[.int .i64 3, .string ⟨#[]⟩, .string ⟨#[]⟩, .int .i64 0, .int .i64 0, .int .i64 9, .int .i64 0, .int .i64 0] 42)) := ⟨_, rfl⟩
    rw [← hNx2] at E X RS L Y M R2 ⊢
    clear hNx2
    refine (check_at13 (a := exB b24 b25 (v8.heap.size) [⟨3, ⟨#[]⟩, ⟨#[]⟩, 0, 0, 9, 0, 0⟩]) 130 ex12 (aokB b24 b25 R2.out (by decide))).mono ?_
    rintro e v9 ⟨rfl, B⟩
    replace E := Lib.hid (ext_trans E.out B)
    replace X := Lib.hid (X.out.ext B)
    replace RS := Lib.hid (RS.out.ext B)
    replace L := Lib.hid (L.out.ext B)
    replace Y := Lib.hid (Y.out.ext B)
    replace M := Lib.hid (M.out.ext B)
    replace R2 := Lib.hid (R2.out.ext B)
    clear B
    clear R2
    have c0 := Y.out.c 0 _ rfl
    have c1 := Y.out.c 1 _ rfl
    have c2 := Y.out.c 2 _ rfl
    have c3 := Y.out.c 3 _ rfl
    have c4 := Y.out.c 4 _ rfl
    have c5 := Y.out.c 5 _ rfl
    have c6 := Y.out.c 6 _ rfl
    have c7 := Y.out.c 7 _ rfl
    have yl := Y.out.lt
    have yf := Y.out.f
    have hne := Lib.hid (show v2.heap.size ≠ v9.heap.size by omega)
    go_wp2_with fail
    replace E := Lib.hid (ext_set E.out ⟨v2.heap.size, 7, none⟩ (.slice (some ⟨v9.heap.size, 0, none⟩) 3 3) (by first | exact Nat.le_refl _ | omega | (simp; done) | (simp; omega)))
    replace X := Lib.hid (X.out.other (p := ⟨v2.heap.size, 7, none⟩) (.slice (some ⟨v9.heap.size, 0, none⟩) 3 3) (by first | omega | (simp; done) | (simp; omega)))
    replace RS := Lib.hid (RS.out.far (p := ⟨v2.heap.size, 7, none⟩) (v := (.slice (some ⟨v9.heap.size, 0, none⟩) 3 3)) HRY.out)
    replace L := Lib.hid (nc_far (p := ⟨v2.heap.size, 7, none⟩) (v := (.slice (some ⟨v9.heap.size, 0, none⟩) 3 3)) L.out c7)
    replace Y := Lib.hid (show Blk _ (v2.heap.size) [.slice none 0 0, .slice none 0 0, .slice none 0 0, .slice none 0 0, .slice none 0 0, .slice (some ⟨b25, 0, none⟩) 1 1, .slice (some ⟨b24, 0, none⟩) 2 2, .slice (some ⟨v9.heap.size, 0, none⟩) 3 3] from Y.out.set (j := 7) (by simp) (.slice (some ⟨v9.heap.size, 0, none⟩) 3 3))
    replace M := Lib.hid (nc_far (p := ⟨v2.heap.size, 7, none⟩) (v := (.slice (some ⟨v9.heap.size, 0, none⟩) 3 3)) M.out c7)
    clear yl yf c0 c1 c2 c3 c4 c5 c6 c7
    replace E := Lib.hid (ext_alloc E.out (.cells #[.int .i64 2, .string ⟨#[]⟩, .string ⟨#[]⟩, .int .i64 0, .int .i64 0, .int .i64 0, .int .i64 0, .int .i64 0, .int .i64 3, .string ⟨#[]⟩, .string ⟨#[]⟩, .int .i64 1, .int .i64 0, .int .i64 5, .int .i64 0, .int .i64 0, .int .i64 4, .string ⟨#[]⟩, .string ⟨#[]⟩, .int .i64 1, .int .i64 0, .int .i64 20, .int .i64 0, .int .i64 0] 42))
    replace X := Lib.hid (X.out.alloc (.cells #[.int .i64 2, .string ⟨#[]⟩, .string ⟨#[]⟩, .int .i64 0, .int .i64 0, .int .i64 0, .int .i64 0, .int .i64 0, .int .i64 3, .string ⟨#[]⟩, .string ⟨#[]⟩, .int .i64 1, .int .i64 0, .int .i64 5, .int .i64 0, .int .i64 0, .int .i64 4, .string ⟨#[]⟩, .string ⟨#[]⟩, .int .i64 1, .int .i64 0, .int .i64 20, .int .i64 0, .int .i64 0] 42))
    replace RS := Lib.hid (RS.out.alloc (.cells #[.int .i64 2, .string ⟨#[]⟩, .string ⟨#[]⟩, .int .i64 0, .int .i64 0, .int .i64 0, .int .i64 0, .int .i64 0, .int .i64 3, .string ⟨#[]⟩, .string ⟨#[]⟩, .int .i64 1, .int .i64 0, .int .i64 5, .int .i64 0, .int .i64 0, .int .i64 4, .string ⟨#[]⟩, .string ⟨#[]⟩, .int .i64 1, .int .i64 0, .int .i64 20, .int .i64 0, .int .i64 0] 42))
    replace L := Lib.hid (L.out.alloc (.cells #[.int .i64 2, .string ⟨#[]⟩, .string ⟨#[]⟩, .int .i64 0, .int .i64 0, .int .i64 0, .int .i64 0, .int .i64 0, .int .i64 3, .string ⟨#[]⟩, .string ⟨#[]⟩, .int .i64 1, .int .i64 0, .int .i64 5, .int .i64 0, .int .i64 0, .int .i64 4, .string ⟨#[]⟩, .string ⟨#[]⟩, .int .i64 1, .int .i64 0, .int .i64 20, .int .i64 0, .int .i64 0] 42))
    replace Y := Lib.hid (Y.out.alloc (.cells #[.int .i64 2, .string ⟨#[]⟩, .string ⟨#[]⟩, .int .i64 0, .int .i64 0, .int .i64 0, .int .i64 0, .int .i64 0, .int .i64 3, .string ⟨#[]⟩, .string ⟨#[]⟩, .int .i64 1, .int .i64 0, .int .i64 5, .int .i64 0, .int .i64 0, .int .i64 4, .string ⟨#[]⟩, .string ⟨#[]⟩, .int .i64 1, .int .i64 0, .int .i64 20, .int .i64 0, .int .i64 0] 42))
    replace M := Lib.hid (M.out.alloc (.cells #[.int .i64 2, .string ⟨#[]⟩, .string ⟨#[]⟩, .int .i64 0, .int .i64 0, .int .i64 0, .int .i64 0, .int .i64 0, .int .i64 3, .string ⟨#[]⟩, .string ⟨#[]⟩, .int .i64 1, .int .i64 0, .int .i64 5, .int .i64 0, .int .i64 0, .int .i64 4, .string ⟨#[]⟩, .string ⟨#[]⟩, .int .i64 1, .int .i64 0, .int .i64 20, .int .i64 0, .int .i64 0] 42))
    have R2 := Lib.hid (slc_litH (v9.setCell ⟨v2.heap.size, 7, none⟩ (.slice (some ⟨v9.heap.size, 0, none⟩) 3 3)) [⟨2, ⟨#[]⟩, ⟨#[]⟩, 0, 0, 0, 0, 0⟩, ⟨3, ⟨#[]⟩, ⟨#[]⟩, 1, 0, 5, 0, 0⟩, ⟨4, ⟨#[]⟩, ⟨#[]⟩, 1, 0, 20, 0, 0⟩] #[.int .i64 2, .string ⟨#[]⟩, .string ⟨#[]⟩, .int .i64 0, .int .i64 0, .int .i64 0, .int .i64 0, .int .i64 0, .int .i64 3, .string ⟨#[]⟩, .string ⟨#[]⟩, .int .i64 1, .int .i64 0, .int .i64 5, .int .i64 0, .int .i64 0, .int .i64 4, .string ⟨#[]⟩, .string ⟨#[]⟩, .int .i64 1, .int .i64 0, .int .i64 20, .int .i64 0, .int .i64 0] 42 (enc := Ru.cells) (sz := 8) (fun _ => rfl) rfl (v9.heap.size) (by first | rfl | simp))
    clear hne
    obtain ⟨x3, hNx3⟩ : ∃ W0, W0 = ((v9.setCell ⟨v2.heap.size, 7, none⟩ (.slice (some ⟨v9.heap.size, 0, none⟩) 3 3)).alloc (.cells #[.int .i64 2, .string ⟨#[]⟩, .string ⟨#[]⟩, .int .i64 0, .int .i64 0, .int .i64 0, .int .i64 0, .int .i64 0, .int .i64 3, .string ⟨#[]⟩, .string ⟨#[]⟩, .int .i64 1, .int .i64 0, .int .i64 5, .int .i64 0, .int .i64 0, .int .i64 4, .string ⟨#[]⟩, .string ⟨#[]⟩, .int .i64 1, .int .i64 0, .int .i64 20, .int .i64 0, .int .i64 0] 42)) := ⟨_, rfl⟩
    rw [← hNx3] at E X RS L Y M R2 ⊢
    clear hNx3
    refine (longest_at (a := exB b24 b25 (v9.heap.size) [⟨2, ⟨#[]⟩, ⟨#[]⟩, 0, 0, 0, 0, 0⟩, ⟨3, ⟨#[]⟩, ⟨#[]⟩, 1, 0, 5, 0, 0⟩, ⟨4, ⟨#[]⟩, ⟨#[]⟩, 1, 0, 20, 0, 0⟩]) (cl := 0) 0 0 ex13 ex14 (aokB b24 b25 R2.out (by decide))).mono ?_
    rintro e v10 ⟨rfl, B⟩
    replace E := Lib.hid (ext_trans E.out B)
    replace X := Lib.hid (X.out.ext B)
    replace RS := Lib.hid (RS.out.ext B)
    replace L := Lib.hid (L.out.ext B)
    replace Y := Lib.hid (Y.out.ext B)
    replace M := Lib.hid (M.out.ext B)
    replace R2 := Lib.hid (R2.out.ext B)
    clear B
    have c0 := Y.out.c 0 _ rfl
    have c1 := Y.out.c 1 _ rfl
    have c2 := Y.out.c 2 _ rfl
    have c3 := Y.out.c 3 _ rfl
    have c4 := Y.out.c 4 _ rfl
    have c5 := Y.out.c 5 _ rfl
    have c6 := Y.out.c 6 _ rfl
    have c7 := Y.out.c 7 _ rfl
    go_wp2_with fail
    refine (longest_at (a := exB b24 b25 (v9.heap.size) [⟨2, ⟨#[]⟩, ⟨#[]⟩, 0, 0, 0, 0, 0⟩, ⟨3, ⟨#[]⟩, ⟨#[]⟩, 1, 0, 5, 0, 0⟩, ⟨4, ⟨#[]⟩, ⟨#[]⟩, 1, 0, 20, 0, 0⟩]) (cl := 1) 20 0 ex15 ex16 (aokB b24 b25 R2.out (by decide))).mono ?_
    rintro e v11 ⟨rfl, B⟩
    clear c0 c1 c2 c3 c4 c5 c6 c7
    replace E := Lib.hid (ext_trans E.out B)
    replace X := Lib.hid (X.out.ext B)
    replace RS := Lib.hid (RS.out.ext B)
    replace L := Lib.hid (L.out.ext B)
    replace Y := Lib.hid (Y.out.ext B)
    replace M := Lib.hid (M.out.ext B)
    replace R2 := Lib.hid (R2.out.ext B)
    clear B
    have c0 := Y.out.c 0 _ rfl
    have c1 := Y.out.c 1 _ rfl
    have c2 := Y.out.c 2 _ rfl
    have c3 := Y.out.c 3 _ rfl
    have c4 := Y.out.c 4 _ rfl
    have c5 := Y.out.c 5 _ rfl
    have c6 := Y.out.c 6 _ rfl
    have c7 := Y.out.c 7 _ rfl
    go_wp2_with fail
    refine (weight_at (a := exB b24 b25 (v9.heap.size) [⟨2, ⟨#[]⟩, ⟨#[]⟩, 0, 0, 0, 0, 0⟩, ⟨3, ⟨#[]⟩, ⟨#[]⟩, 1, 0, 5, 0, 0⟩, ⟨4, ⟨#[]⟩, ⟨#[]⟩, 1, 0, 20, 0, 0⟩]) (cl := 1) 5 0 ex17 ex16 (aokB b24 b25 R2.out (by decide))).mono ?_
    rintro e v12 ⟨rfl, B⟩
    clear c0 c1 c2 c3 c4 c5 c6 c7
    replace E := Lib.hid (ext_trans E.out B)
    replace X := Lib.hid (X.out.ext B)
    replace RS := Lib.hid (RS.out.ext B)
    replace L := Lib.hid (L.out.ext B)
    replace Y := Lib.hid (Y.out.ext B)
    replace M := Lib.hid (M.out.ext B)
    replace R2 := Lib.hid (R2.out.ext B)
    clear B
    have c0 := X.out.c 0 _ rfl
    have c1 := X.out.c 1 _ rfl
    have c2 := X.out.c 2 _ rfl
    have c3 := X.out.c 3 _ rfl
    have c4 := X.out.c 4 _ rfl
    have c5 := X.out.c 5 _ rfl
    have c6 := X.out.c 6 _ rfl
    have c7 := X.out.c 7 _ rfl
    go_wp2_with fail
    refine (curfew_at (a := exA b24 b25 b29) (cl := 0) (ap := 0) [⟨0, 1440⟩] 0 ex18 ex19 (aokA b24 b25 RS.out)).mono ?_
    rintro e v13 ⟨A22, q22, rfl, h2, B⟩
    clear c0 c1 c2 c3 c4 c5 c6 c7
    replace E := Lib.hid (ext_trans E.out B)
    replace X := Lib.hid (X.out.ext B)
    replace RS := Lib.hid (RS.out.ext B)
    replace L := Lib.hid (L.out.ext B)
    replace Y := Lib.hid (Y.out.ext B)
    replace M := Lib.hid (M.out.ext B)
    replace R2 := Lib.hid (R2.out.ext B)
    clear B
    have U := Lib.hid h2
    clear h2
    replace E := Lib.hid (ext_alloc E.out (.cells #[.int .i64 0, .int .i64 1] 3))
    replace X := Lib.hid (X.out.alloc (.cells #[.int .i64 0, .int .i64 1] 3))
    replace RS := Lib.hid (RS.out.alloc (.cells #[.int .i64 0, .int .i64 1] 3))
    replace L := Lib.hid (L.out.alloc (.cells #[.int .i64 0, .int .i64 1] 3))
    replace Y := Lib.hid (Y.out.alloc (.cells #[.int .i64 0, .int .i64 1] 3))
    replace M := Lib.hid (M.out.alloc (.cells #[.int .i64 0, .int .i64 1] 3))
    replace R2 := Lib.hid (R2.out.alloc (.cells #[.int .i64 0, .int .i64 1] 3))
    replace U := Lib.hid (U.out.alloc (.cells #[.int .i64 0, .int .i64 1] 3))
    have T := Lib.hid (slc_litH v13 [0, 1] #[.int .i64 0, .int .i64 1] 3 (enc := nc) (sz := 1) (fun _ => rfl) rfl (v13.heap.size) rfl)
    go_wp2_with fail
    refine (sameN true (by decide) rfl rfl L.out T.out (by decide)).mono ?_
    rintro e v14 ⟨rfl, B⟩
    replace E := Lib.hid (ext_trans E.out B)
    replace X := Lib.hid (X.out.ext B)
    replace RS := Lib.hid (RS.out.ext B)
    replace L := Lib.hid (L.out.ext B)
    replace Y := Lib.hid (Y.out.ext B)
    replace M := Lib.hid (M.out.ext B)
    replace R2 := Lib.hid (R2.out.ext B)
    replace U := Lib.hid (U.out.ext B)
    clear B
    clear T
    replace E := Lib.hid (ext_alloc E.out (.cells #[.int .i64 1] 3))
    replace X := Lib.hid (X.out.alloc (.cells #[.int .i64 1] 3))
    replace RS := Lib.hid (RS.out.alloc (.cells #[.int .i64 1] 3))
    replace L := Lib.hid (L.out.alloc (.cells #[.int .i64 1] 3))
    replace Y := Lib.hid (Y.out.alloc (.cells #[.int .i64 1] 3))
    replace M := Lib.hid (M.out.alloc (.cells #[.int .i64 1] 3))
    replace R2 := Lib.hid (R2.out.alloc (.cells #[.int .i64 1] 3))
    replace U := Lib.hid (U.out.alloc (.cells #[.int .i64 1] 3))
    have T := Lib.hid (slc_litH v14 [1] #[.int .i64 1] 3 (enc := nc) (sz := 1) (fun _ => rfl) rfl (v14.heap.size) rfl)
    go_wp2_with fail
    refine (sameN true (by decide) rfl rfl M.out T.out (by decide)).mono ?_
    rintro e v15 ⟨rfl, B⟩
    replace E := Lib.hid (ext_trans E.out B)
    replace X := Lib.hid (X.out.ext B)
    replace RS := Lib.hid (RS.out.ext B)
    replace L := Lib.hid (L.out.ext B)
    replace Y := Lib.hid (Y.out.ext B)
    replace M := Lib.hid (M.out.ext B)
    replace R2 := Lib.hid (R2.out.ext B)
    replace U := Lib.hid (U.out.ext B)
    clear B
    clear T
    replace E := Lib.hid (ext_alloc E.out (.cells #[.int .i64 0, .int .i64 1440] 40))
    replace X := Lib.hid (X.out.alloc (.cells #[.int .i64 0, .int .i64 1440] 40))
    replace RS := Lib.hid (RS.out.alloc (.cells #[.int .i64 0, .int .i64 1440] 40))
    replace L := Lib.hid (L.out.alloc (.cells #[.int .i64 0, .int .i64 1440] 40))
    replace Y := Lib.hid (Y.out.alloc (.cells #[.int .i64 0, .int .i64 1440] 40))
    replace M := Lib.hid (M.out.alloc (.cells #[.int .i64 0, .int .i64 1440] 40))
    replace R2 := Lib.hid (R2.out.alloc (.cells #[.int .i64 0, .int .i64 1440] 40))
    replace U := Lib.hid (U.out.alloc (.cells #[.int .i64 0, .int .i64 1440] 40))
    have T := Lib.hid (slc_litH v15 [(⟨0, 1440⟩ : Sp)] #[.int .i64 0, .int .i64 1440] 40 (enc := Sp.cells) (sz := 2) (fun _ => rfl) rfl (v15.heap.size) rfl)
    go_wp2_with fail
    refine (sameSp true (by decide) rfl rfl U.out T.out (by decide)).mono ?_
    rintro e v16 ⟨rfl, B⟩
    replace E := Lib.hid (ext_trans E.out B)
    replace X := Lib.hid (X.out.ext B)
    replace RS := Lib.hid (RS.out.ext B)
    replace L := Lib.hid (L.out.ext B)
    replace Y := Lib.hid (Y.out.ext B)
    replace M := Lib.hid (M.out.ext B)
    replace R2 := Lib.hid (R2.out.ext B)
    replace U := Lib.hid (U.out.ext B)
    clear B
    clear T
    have c0 := X.out.c 0 _ rfl
    have c1 := X.out.c 1 _ rfl
    have c2 := X.out.c 2 _ rfl
    have c3 := X.out.c 3 _ rfl
    have c4 := X.out.c 4 _ rfl
    have c5 := X.out.c 5 _ rfl
    have c6 := X.out.c 6 _ rfl
    have c7 := X.out.c 7 _ rfl
    go_wp2_with fail
    refine (check_at13 (a := exA b24 b25 b29) 0 ex2 (aokA b24 b25 RS.out)).mono ?_
    rintro e v17 ⟨rfl, B⟩
    clear c0 c1 c2 c3 c4 c5 c6 c7
    replace E := Lib.hid (ext_trans E.out B)
    replace X := Lib.hid (X.out.ext B)
    replace RS := Lib.hid (RS.out.ext B)
    replace L := Lib.hid (L.out.ext B)
    replace Y := Lib.hid (Y.out.ext B)
    replace M := Lib.hid (M.out.ext B)
    replace R2 := Lib.hid (R2.out.ext B)
    replace U := Lib.hid (U.out.ext B)
    clear B
    go_wp2_with fail
    go_ret
    exact ⟨ret_bool rfl, E.out⟩
  replace n017_4x := Lib.hid n017_4x
  have n01_4x : ∀ (b24 b25 b1 b29 : Nat) (W : World), Below w.heap.size w W → Slc W Ru.cells 8 (some ⟨b29, 0, none⟩) exL → Go.Proofs.Ytmgpbjpohbpgpaa.rowOff (some ⟨b29, 0, none⟩) exL W.heap.size → WT Try.prog .any OPS Q7 8 (fun w' => Below w.heap.size w w') 2 #[true, true, true, true, true, true, true, false, false] { tmps := #[.bool false, undef, undef, undef, undef, undef, undef, undef, undef, undef, undef, undef, undef, undef, undef, undef, undef, undef, undef, undef, undef, undef, undef, undef, .slice (some ⟨b24, 0, none⟩) 2 2, .slice (some ⟨b25, 0, none⟩) 1 1, .agg #[.int .i64 1, .string ⟨#[]⟩, .string ⟨#[]⟩, .int .i64 0, .int .i64 0, .int .i64 0, .int .i64 0, .int .i64 800], .agg #[.int .i64 1, .string ⟨#[]⟩, .string ⟨#[]⟩, .int .i64 0, .int .i64 0, .int .i64 0, .int .i64 700, .int .i64 1440], .agg #[.int .i64 1, .string ⟨#[]⟩, .string ⟨#[]⟩, .int .i64 0, .int .i64 0, .int .i64 0, .int .i64 100, .int .i64 200], .slice (some ⟨b29, 0, none⟩) 3 3, .agg #[.slice none 0 0, .slice none 0 0, .slice none 0 0, .slice none 0 0, .slice none 0 0, .slice (some ⟨b25, 0, none⟩) 1 1, .slice (some ⟨b24, 0, none⟩) 2 2, .slice (some ⟨b29, 0, none⟩) 3 3], undef, undef, undef, undef, undef, undef, undef, undef, undef, undef, undef, undef, undef, undef, undef, undef, undef, undef, undef, undef, undef, undef, undef, undef, undef, undef, undef, undef, undef, undef, undef, undef, undef, undef, undef, undef, undef, undef, undef, undef, undef, undef, undef, undef, undef, undef, undef, undef, undef, undef, undef, undef, undef, undef, undef, undef, undef, undef, undef, undef, undef, undef, undef, undef, undef, undef, undef, undef, undef, undef, undef, undef, undef, undef, undef, undef, undef, undef, undef, undef, undef, undef, undef, undef, undef, undef, undef, undef, undef, undef, undef, undef, undef, undef, undef, undef, undef, undef, undef, undef, undef, undef, undef, undef, undef, undef, undef, undef, undef, undef, undef, undef, undef, undef, undef, undef, undef, undef, undef, undef, undef, undef, undef, undef, undef, undef, undef, undef, undef, undef, undef, undef, undef, undef, undef, undef, undef, undef, undef, undef, undef, undef, undef, undef, undef, undef, undef, undef, undef, undef, undef], defers := [] } W := by
    intro b24 b25 b1 b29 W hE hSl ho
    subst hO
    refine rg_one (i := 7) (by kernel_rfl) (rg_step rfl (by rfl) (fun K hK => ?_))
    · go_simp
      refine hK.out _ _ ?_ (fun hHeld2 => ?_)
      · exact ext_alloc hE _
      clear hK K
      try simp only [Act.put, List.setIfInBounds_toArray, List.set_cons_zero, List.set_cons_succ]
      exact rg_list (by kernel_rfl) (n017_4x.out _ _ _ _ _ (ext_alloc hE _) (Blk.newH W [.slice none 0 0, .slice none 0 0, .slice none 0 0, .slice none 0 0, .slice none 0 0, .slice none 0 0, .slice none 0 0, .slice none 0 0] 31 _ rfl) hE.size (hSl.ext (ext_alloc (ext_refl W) _)) ho)
  replace n01_4x := Lib.hid n01_4x
  have n017_4 : ∀ (b24 b25 b1 b29 : Nat) (W : World), Below w.heap.size w W → Blk W b1 [.slice none 0 0, .slice none 0 0, .slice none 0 0, .slice none 0 0, .slice none 0 0, .slice none 0 0, .slice none 0 0, .slice none 0 0] → w.heap.size ≤ b1 → Slc W Ru.cells 8 (some ⟨b29, 0, none⟩) exL → Go.Proofs.Ytmgpbjpohbpgpaa.rowOff (some ⟨b29, 0, none⟩) exL b1 → WT Try.prog .any OPS Q7 8 (fun w' => Below w.heap.size w w') 2 #[true, true, true, true, true, true, false, true, false] { tmps := #[.bool false, .pointer (some ⟨b1, 0, none⟩), undef, undef, undef, undef, undef, undef, undef, undef, undef, undef, undef, undef, undef, undef, undef, undef, undef, undef, undef, undef, undef, undef, .slice (some ⟨b24, 0, none⟩) 2 2, .slice (some ⟨b25, 0, none⟩) 1 1, .agg #[.int .i64 1, .string ⟨#[]⟩, .string ⟨#[]⟩, .int .i64 0, .int .i64 0, .int .i64 0, .int .i64 0, .int .i64 800], .agg #[.int .i64 1, .string ⟨#[]⟩, .string ⟨#[]⟩, .int .i64 0, .int .i64 0, .int .i64 0, .int .i64 700, .int .i64 1440], .agg #[.int .i64 1, .string ⟨#[]⟩, .string ⟨#[]⟩, .int .i64 0, .int .i64 0, .int .i64 0, .int .i64 100, .int .i64 200], .slice (some ⟨b29, 0, none⟩) 3 3, undef, undef, undef, undef, undef, undef, undef, undef, undef, undef, undef, undef, undef, undef, undef, undef, undef, undef, undef, undef, undef, undef, undef, undef, undef, undef, undef, undef, undef, undef, undef, undef, undef, undef, undef, undef, undef, undef, undef, undef, undef, undef, undef, undef, undef, undef, undef, undef, undef, undef, undef, undef, undef, undef, undef, undef, undef, undef, undef, undef, undef, undef, undef, undef, undef, undef, undef, undef, undef, undef, undef, undef, undef, undef, undef, undef, undef, undef, undef, undef, undef, undef, undef, undef, undef, undef, undef, undef, undef, undef, undef, undef, undef, undef, undef, undef, undef, undef, undef, undef, undef, undef, undef, undef, undef, undef, undef, undef, undef, undef, undef, undef, undef, undef, undef, undef, undef, undef, undef, undef, undef, undef, undef, undef, undef, undef, undef, undef, undef, undef, undef, undef, undef, undef, undef, undef, undef, undef, undef, undef, undef, undef, undef, undef, undef, undef, undef, undef, undef, undef, undef, undef], defers := [] } W := by
    intro b24 b25 b1 b29 W hE hX hb hSl ho
    subst hO
    refine rg_one (i := 6) (by kernel_rfl) (rg_step rfl (by rfl) (fun K hK => ?_))
    · go_simp
      refine hK.out _ _ ?_ (fun hHeld2 => ?_)
      · exact hE
      clear hK K
      try simp only [Act.put, List.setIfInBounds_toArray, List.set_cons_zero, List.set_cons_succ]
      exact rg_list (by kernel_rfl) (n017_4x.out _ _ _ _ _ hE hX hb hSl ho)
  replace n017_4 := Lib.hid n017_4
  have n01_4 : ∀ (b24 b25 b1 b29 : Nat) (W : World), Below w.heap.size w W → Slc W Ru.cells 8 (some ⟨b29, 0, none⟩) exL → Go.Proofs.Ytmgpbjpohbpgpaa.rowOff (some ⟨b29, 0, none⟩) exL W.heap.size → WT Try.prog .any OPS Q7 8 (fun w' => Below w.heap.size w w') 3 #[true, true, true, true, true, true, false, false, false] { tmps := #[.bool false, undef, undef, undef, undef, undef, undef, undef, undef, undef, undef, undef, undef, undef, undef, undef, undef, undef, undef, undef, undef, undef, undef, undef, .slice (some ⟨b24, 0, none⟩) 2 2, .slice (some ⟨b25, 0, none⟩) 1 1, .agg #[.int .i64 1, .string ⟨#[]⟩, .string ⟨#[]⟩, .int .i64 0, .int .i64 0, .int .i64 0, .int .i64 0, .int .i64 800], .agg #[.int .i64 1, .string ⟨#[]⟩, .string ⟨#[]⟩, .int .i64 0, .int .i64 0, .int .i64 0, .int .i64 700, .int .i64 1440], .agg #[.int .i64 1, .string ⟨#[]⟩, .string ⟨#[]⟩, .int .i64 0, .int .i64 0, .int .i64 0, .int .i64 100, .int .i64 200], .slice (some ⟨b29, 0, none⟩) 3 3, undef, undef, undef, undef, undef, undef, undef, undef, undef, undef, undef, undef, undef, undef, undef, undef, undef, undef, undef, undef, undef, undef, undef, undef, undef, undef, undef, undef, undef, undef, undef, undef, undef, undef, undef, undef, undef, undef, undef, undef, undef, undef, undef, undef, undef, undef, undef, undef, undef, undef, undef, undef, undef, undef, undef, undef, undef, undef, undef, undef, undef, undef, undef, undef, undef, undef, undef, undef, undef, undef, undef, undef, undef, undef, undef, undef, undef, undef, undef, undef, undef, undef, undef, undef, undef, undef, undef, undef, undef, undef, undef, undef, undef, undef, undef, undef, undef, undef, undef, undef, undef, undef, undef, undef, undef, undef, undef, undef, undef, undef, undef, undef, undef, undef, undef, undef, undef, undef, undef, undef, undef, undef, undef, undef, undef, undef, undef, undef, undef, undef, undef, undef, undef, undef, undef, undef, undef, undef, undef, undef, undef, undef, undef, undef, undef, undef, undef, undef, undef, undef, undef, undef], defers := [] } W := by
    intro b24 b25 b1 b29 W hE hSl ho
    subst hO
    refine rg_two (i := 6) (j := 7) (by kernel_rfl) (rg_step rfl (by rfl) (fun K hK => ?_)) (rg_step rfl (by rfl) (fun K hK => ?_))
    · go_simp
      refine hK.out _ _ ?_ (fun hHeld2 => ?_)
      · exact hE
      clear hK K
      try simp only [Act.put, List.setIfInBounds_toArray, List.set_cons_zero, List.set_cons_succ]
      exact rg_list (by kernel_rfl) (n01_4x.out _ _ 0 _ _ hE hSl ho)
    · go_simp
      refine hK.out _ _ ?_ (fun hHeld2 => ?_)
      · exact ext_alloc hE _
      clear hK K
      try simp only [Act.put, List.setIfInBounds_toArray, List.set_cons_zero, List.set_cons_succ]
      exact rg_list (by kernel_rfl) (n017_4.out _ _ _ _ _ (ext_alloc hE _) (Blk.newH W [.slice none 0 0, .slice none 0 0, .slice none 0 0, .slice none 0 0, .slice none 0 0, .slice none 0 0, .slice none 0 0, .slice none 0 0] 31 _ rfl) hE.size (hSl.ext (ext_alloc (ext_refl W) _)) ho)
  replace n01_4 := Lib.hid n01_4
  have n07_4 : ∀ (b24 b25 b1 b29 : Nat) (W : World), Below w.heap.size w W → Blk W b1 [.slice none 0 0, .slice none 0 0, .slice none 0 0, .slice none 0 0, .slice none 0 0, .slice none 0 0, .slice none 0 0, .slice none 0 0] → w.heap.size ≤ b1 → Slc W Ru.cells 8 (some ⟨b29, 0, none⟩) exL → Go.Proofs.Ytmgpbjpohbpgpaa.rowOff (some ⟨b29, 0, none⟩) exL b1 → WT Try.prog .any OPS Q7 8 (fun w' => Below w.heap.size w w') 3 #[true, false, true, true, true, true, false, true, false] { tmps := #[.bool false, .pointer (some ⟨b1, 0, none⟩), undef, undef, undef, undef, undef, undef, undef, undef, undef, undef, undef, undef, undef, undef, undef, undef, undef, undef, undef, undef, undef, undef, .slice (some ⟨b24, 0, none⟩) 2 2, undef, .agg #[.int .i64 1, .string ⟨#[]⟩, .string ⟨#[]⟩, .int .i64 0, .int .i64 0, .int .i64 0, .int .i64 0, .int .i64 800], .agg #[.int .i64 1, .string ⟨#[]⟩, .string ⟨#[]⟩, .int .i64 0, .int .i64 0, .int .i64 0, .int .i64 700, .int .i64 1440], .agg #[.int .i64 1, .string ⟨#[]⟩, .string ⟨#[]⟩, .int .i64 0, .int .i64 0, .int .i64 0, .int .i64 100, .int .i64 200], .slice (some ⟨b29, 0, none⟩) 3 3, undef, undef, undef, undef, undef, undef, undef, undef, undef, undef, undef, undef, undef, undef, undef, undef, undef, undef, undef, undef, undef, undef, undef, undef, undef, undef, undef, undef, undef, undef, undef, undef, undef, undef, undef, undef, undef, undef, undef, undef, undef, undef, undef, undef, undef, undef, undef, undef, undef, undef, undef, undef, undef, undef, undef, undef, undef, undef, undef, undef, undef, undef, undef, undef, undef, undef, undef, undef, undef, undef, undef, undef, undef, undef, undef, undef, undef, undef, undef, undef, undef, undef, undef, undef, undef, undef, undef, undef, undef, undef, undef, undef, undef, undef, undef, undef, undef, undef, undef, undef, undef, undef, undef, undef, undef, undef, undef, undef, undef, undef, undef, undef, undef, undef, undef, undef, undef, undef, undef, undef, undef, undef, undef, undef, undef, undef, undef, undef, undef, undef, undef, undef, undef, undef, undef, undef, undef, undef, undef, undef, undef, undef, undef, undef, undef, undef, undef, undef, undef, undef, undef, undef], defers := [] } W := by
    intro b24 b25 b1 b29 W hE hX hb hSl ho
    subst hO
    refine rg_one (i := 1) (by kernel_rfl) (rg_step rfl (by rfl) (fun K hK => ?_))
    · go_simp
      refine hK.out _ _ ?_ (fun hHeld2 => ?_)
      · exact ext_alloc hE _
      clear hK K
      try simp only [Act.put, List.setIfInBounds_toArray, List.set_cons_zero, List.set_cons_succ]
      exact rg_list (by kernel_rfl) (n017_4.out _ _ _ _ _ (ext_alloc hE _) (hX.ext (ext_alloc (ext_refl W) _)) hb (hSl.ext (ext_alloc (ext_refl W) _)) ho)
  replace n07_4 := Lib.hid n07_4
  have n17_4 : ∀ (b24 b25 b1 b29 : Nat) (W : World), Below w.heap.size w W → Blk W b1 [.slice none 0 0, .slice none 0 0, .slice none 0 0, .slice none 0 0, .slice none 0 0, .slice none 0 0, .slice none 0 0, .slice none 0 0] → w.heap.size ≤ b1 → Slc W Ru.cells 8 (some ⟨b29, 0, none⟩) exL → Go.Proofs.Ytmgpbjpohbpgpaa.rowOff (some ⟨b29, 0, none⟩) exL b1 → WT Try.prog .any OPS Q7 8 (fun w' => Below w.heap.size w w') 3 #[false, true, true, true, true, true, false, true, false] { tmps := #[.bool false, .pointer (some ⟨b1, 0, none⟩), undef, undef, undef, undef, undef, undef, undef, undef, undef, undef, undef, undef, undef, undef, undef, undef, undef, undef, undef, undef, undef, undef, undef, .slice (some ⟨b25, 0, none⟩) 1 1, .agg #[.int .i64 1, .string ⟨#[]⟩, .string ⟨#[]⟩, .int .i64 0, .int .i64 0, .int .i64 0, .int .i64 0, .int .i64 800], .agg #[.int .i64 1, .string ⟨#[]⟩, .string ⟨#[]⟩, .int .i64 0, .int .i64 0, .int .i64 0, .int .i64 700, .int .i64 1440], .agg #[.int .i64 1, .string ⟨#[]⟩, .string ⟨#[]⟩, .int .i64 0, .int .i64 0, .int .i64 0, .int .i64 100, .int .i64 200], .slice (some ⟨b29, 0, none⟩) 3 3, undef, undef, undef, undef, undef, undef, undef, undef, undef, undef, undef, undef, undef, undef, undef, undef, undef, undef, undef, undef, undef, undef, undef, undef, undef, undef, undef, undef, undef, undef, undef, undef, undef, undef, undef, undef, undef, undef, undef, undef, undef, undef, undef, undef, undef, undef, undef, undef, undef, undef, undef, undef, undef, undef, undef, undef, undef, undef, undef, undef, undef, undef, undef, undef, undef, undef, undef, undef, undef, undef, undef, undef, undef, undef, undef, undef, undef, undef, undef, undef, undef, undef, undef, undef, undef, undef, undef, undef, undef, undef, undef, undef, undef, undef, undef, undef, undef, undef, undef, undef, undef, undef, undef, undef, undef, undef, undef, undef, undef, undef, undef, undef, undef, undef, undef, undef, undef, undef, undef, undef, undef, undef, undef, undef, undef, undef, undef, undef, undef, undef, undef, undef, undef, undef, undef, undef, undef, undef, undef, undef, undef, undef, undef, undef, undef, undef, undef, undef, undef, undef, undef, undef], defers := [] } W := by
    intro b24 b25 b1 b29 W hE hX hb hSl ho
    subst hO
    refine rg_one (i := 0) (by kernel_rfl) (rg_step rfl (by rfl) (fun K hK => ?_))
    · go_simp
      refine hK.out _ _ ?_ (fun hHeld2 => ?_)
      · exact ext_alloc hE _
      clear hK K
      try simp only [Act.put, List.setIfInBounds_toArray, List.set_cons_zero, List.set_cons_succ]
      exact rg_list (by kernel_rfl) (n017_4.out _ _ _ _ _ (ext_alloc hE _) (hX.ext (ext_alloc (ext_refl W) _)) hb (hSl.ext (ext_alloc (ext_refl W) _)) ho)
  replace n17_4 := Lib.hid n17_4
  have n017_3 : ∀ (b24 b25 b1 b29 : Nat) (W : World), Below w.heap.size w W → Blk W b1 [.slice none 0 0, .slice none 0 0, .slice none 0 0, .slice none 0 0, .slice none 0 0, .slice none 0 0, .slice none 0 0, .slice none 0 0] → w.heap.size ≤ b1 → WT Try.prog .any OPS Q7 8 (fun w' => Below w.heap.size w w') 3 #[true, true, true, true, true, false, false, true, false] { tmps := #[.bool false, .pointer (some ⟨b1, 0, none⟩), undef, undef, undef, undef, undef, undef, undef, undef, undef, undef, undef, undef, undef, undef, undef, undef, undef, undef, undef, undef, undef, undef, .slice (some ⟨b24, 0, none⟩) 2 2, .slice (some ⟨b25, 0, none⟩) 1 1, .agg #[.int .i64 1, .string ⟨#[]⟩, .string ⟨#[]⟩, .int .i64 0, .int .i64 0, .int .i64 0, .int .i64 0, .int .i64 800], .agg #[.int .i64 1, .string ⟨#[]⟩, .string ⟨#[]⟩, .int .i64 0, .int .i64 0, .int .i64 0, .int .i64 700, .int .i64 1440], .agg #[.int .i64 1, .string ⟨#[]⟩, .string ⟨#[]⟩, .int .i64 0, .int .i64 0, .int .i64 0, .int .i64 100, .int .i64 200], undef, undef, undef, undef, undef, undef, undef, undef, undef, undef, undef, undef, undef, undef, undef, undef, undef, undef, undef, undef, undef, undef, undef, undef, undef, undef, undef, undef, undef, undef, undef, undef, undef, undef, undef, undef, undef, undef, undef, undef, undef, undef, undef, undef, undef, undef, undef, undef, undef, undef, undef, undef, undef, undef, undef, undef, undef, undef, undef, undef, undef, undef, undef, undef, undef, undef, undef, undef, undef, undef, undef, undef, undef, undef, undef, undef, undef, undef, undef, undef, undef, undef, undef, undef, undef, undef, undef, undef, undef, undef, undef, undef, undef, undef, undef, undef, undef, undef, undef, undef, undef, undef, undef, undef, undef, undef, undef, undef, undef, undef, undef, undef, undef, undef, undef, undef, undef, undef, undef, undef, undef, undef, undef, undef, undef, undef, undef, undef, undef, undef, undef, undef, undef, undef, undef, undef, undef, undef, undef, undef, undef, undef, undef, undef, undef, undef, undef, undef, undef, undef, undef, undef, undef], defers := [] } W := by
    intro b24 b25 b1 b29 W hE hX hb
    subst hO
    refine rg_one (i := 5) (by kernel_rfl) (rg_step rfl (by rfl) (fun K hK => ?_))
    · go_simp
      refine hK.out _ _ ?_ (fun hHeld2 => ?_)
      · exact ext_alloc hE _
      clear hK K
      try simp only [Act.put, List.setIfInBounds_toArray, List.set_cons_zero, List.set_cons_succ]
      exact rg_list (by kernel_rfl) (n017_4.out _ _ _ _ _ (ext_alloc hE _) (hX.ext (ext_alloc (ext_refl W) _)) hb (slc_litH W exL #[.int .i64 1, .string ⟨#[]⟩, .string ⟨#[]⟩, .int .i64 0, .int .i64 0, .int .i64 0, .int .i64 0, .int .i64 800, .int .i64 1, .string ⟨#[]⟩, .string ⟨#[]⟩, .int .i64 0, .int .i64 0, .int .i64 0, .int .i64 700, .int .i64 1440, .int .i64 1, .string ⟨#[]⟩, .string ⟨#[]⟩, .int .i64 0, .int .i64 0, .int .i64 0, .int .i64 100, .int .i64 200] 42 (enc := Ru.cells) (sz := 8) (fun _ => rfl) rfl W.heap.size rfl) (fun _ c o s e => by cases e; have := hX.lt; omega))
  replace n017_3 := Lib.hid n017_3
  have n0_4 : ∀ (b24 b25 b1 b29 : Nat) (W : World), Below w.heap.size w W → Slc W Ru.cells 8 (some ⟨b29, 0, none⟩) exL → Go.Proofs.Ytmgpbjpohbpgpaa.rowOff (some ⟨b29, 0, none⟩) exL W.heap.size → WT Try.prog .any OPS Q7 8 (fun w' => Below w.heap.size w w') 4 #[true, false, true, true, true, true, false, false, false] { tmps := #[.bool false, undef, undef, undef, undef, undef, undef, undef, undef, undef, undef, undef, undef, undef, undef, undef, undef, undef, undef, undef, undef, undef, undef, undef, .slice (some ⟨b24, 0, none⟩) 2 2, undef, .agg #[.int .i64 1, .string ⟨#[]⟩, .string ⟨#[]⟩, .int .i64 0, .int .i64 0, .int .i64 0, .int .i64 0, .int .i64 800], .agg #[.int .i64 1, .string ⟨#[]⟩, .string ⟨#[]⟩, .int .i64 0, .int .i64 0, .int .i64 0, .int .i64 700, .int .i64 1440], .agg #[.int .i64 1, .string ⟨#[]⟩, .string ⟨#[]⟩, .int .i64 0, .int .i64 0, .int .i64 0, .int .i64 100, .int .i64 200], .slice (some ⟨b29, 0, none⟩) 3 3, undef, undef, undef, undef, undef, undef, undef, undef, undef, undef, undef, undef, undef, undef, undef, undef, undef, undef, undef, undef, undef, undef, undef, undef, undef, undef, undef, undef, undef, undef, undef, undef, undef, undef, undef, undef, undef, undef, undef, undef, undef, undef, undef, undef, undef, undef, undef, undef, undef, undef, undef, undef, undef, undef, undef, undef, undef, undef, undef, undef, undef, undef, undef, undef, undef, undef, undef, undef, undef, undef, undef, undef, undef, undef, undef, undef, undef, undef, undef, undef, undef, undef, undef, undef, undef, undef, undef, undef, undef, undef, undef, undef, undef, undef, undef, undef, undef, undef, undef, undef, undef, undef, undef, undef, undef, undef, undef, undef, undef, undef, undef, undef, undef, undef, undef, undef, undef, undef, undef, undef, undef, undef, undef, undef, undef, undef, undef, undef, undef, undef, undef, undef, undef, undef, undef, undef, undef, undef, undef, undef, undef, undef, undef, undef, undef, undef, undef, undef, undef, undef, undef, undef], defers := [] } W := by
    intro b24 b25 b1 b29 W hE hSl ho
    subst hO
    refine rg_two (i := 1) (j := 7) (by kernel_rfl) (rg_step rfl (by rfl) (fun K hK => ?_)) (rg_step rfl (by rfl) (fun K hK => ?_))
    · go_simp
      refine hK.out _ _ ?_ (fun hHeld2 => ?_)
      · exact ext_alloc hE _
      clear hK K
      try simp only [Act.put, List.setIfInBounds_toArray, List.set_cons_zero, List.set_cons_succ]
      exact rg_list (by kernel_rfl) (n01_4.out _ _ 0 _ _ (ext_alloc hE _) (hSl.ext (ext_alloc (ext_refl W) _)) (hSl.rowOff (by simp)))
    · go_simp
      refine hK.out _ _ ?_ (fun hHeld2 => ?_)
      · exact ext_alloc hE _
      clear hK K
      try simp only [Act.put, List.setIfInBounds_toArray, List.set_cons_zero, List.set_cons_succ]
      exact rg_list (by kernel_rfl) (n07_4.out _ 0 _ _ _ (ext_alloc hE _) (Blk.newH W [.slice none 0 0, .slice none 0 0, .slice none 0 0, .slice none 0 0, .slice none 0 0, .slice none 0 0, .slice none 0 0, .slice none 0 0] 31 _ rfl) hE.size (hSl.ext (ext_alloc (ext_refl W) _)) ho)
  replace n0_4 := Lib.hid n0_4
  have n1_4 : ∀ (b24 b25 b1 b29 : Nat) (W : World), Below w.heap.size w W → Slc W Ru.cells 8 (some ⟨b29, 0, none⟩) exL → Go.Proofs.Ytmgpbjpohbpgpaa.rowOff (some ⟨b29, 0, none⟩) exL W.heap.size → WT Try.prog .any OPS Q7 8 (fun w' => Below w.heap.size w w') 4 #[false, true, true, true, true, true, false, false, false] { tmps := #[.bool false, undef, undef, undef, undef, undef, undef, undef, undef, undef, undef, undef, undef, undef, undef, undef, undef, undef, undef, undef, undef, undef, undef, undef, undef, .slice (some ⟨b25, 0, none⟩) 1 1, .agg #[.int .i64 1, .string ⟨#[]⟩, .string ⟨#[]⟩, .int .i64 0, .int .i64 0, .int .i64 0, .int .i64 0, .int .i64 800], .agg #[.int .i64 1, .string ⟨#[]⟩, .string ⟨#[]⟩, .int .i64 0, .int .i64 0, .int .i64 0, .int .i64 700, .int .i64 1440], .agg #[.int .i64 1, .string ⟨#[]⟩, .string ⟨#[]⟩, .int .i64 0, .int .i64 0, .int .i64 0, .int .i64 100, .int .i64 200], .slice (some ⟨b29, 0, none⟩) 3 3, undef, undef, undef, undef, undef, undef, undef, undef, undef, undef, undef, undef, undef, undef, undef, undef, undef, undef, undef, undef, undef, undef, undef, undef, undef, undef, undef, undef, undef, undef, undef, undef, undef, undef, undef, undef, undef, undef, undef, undef, undef, undef, undef, undef, undef, undef, undef, undef, undef, undef, undef, undef, undef, undef, undef, undef, undef, undef, undef, undef, undef, undef, undef, undef, undef, undef, undef, undef, undef, undef, undef, undef, undef, undef, undef, undef, undef, undef, undef, undef, undef, undef, undef, undef, undef, undef, undef, undef, undef, undef, undef, undef, undef, undef, undef, undef, undef, undef, undef, undef, undef, undef, undef, undef, undef, undef, undef, undef, undef, undef, undef, undef, undef, undef, undef, undef, undef, undef, undef, undef, undef, undef, undef, undef, undef, undef, undef, undef, undef, undef, undef, undef, undef, undef, undef, undef, undef, undef, undef, undef, undef, undef, undef, undef, undef, undef, undef, undef, undef, undef, undef, undef], defers := [] } W := by
    intro b24 b25 b1 b29 W hE hSl ho
    subst hO
    refine rg_two (i := 0) (j := 7) (by kernel_rfl) (rg_step rfl (by rfl) (fun K hK => ?_)) (rg_step rfl (by rfl) (fun K hK => ?_))
    · go_simp
      refine hK.out _ _ ?_ (fun hHeld2 => ?_)
      · exact ext_alloc hE _
      clear hK K
      try simp only [Act.put, List.setIfInBounds_toArray, List.set_cons_zero, List.set_cons_succ]
      exact rg_list (by kernel_rfl) (n01_4.out _ _ 0 _ _ (ext_alloc hE _) (hSl.ext (ext_alloc (ext_refl W) _)) (hSl.rowOff (by simp)))
    · go_simp
      refine hK.out _ _ ?_ (fun hHeld2 => ?_)
      · exact ext_alloc hE _
      clear hK K
      try simp only [Act.put, List.setIfInBounds_toArray, List.set_cons_zero, List.set_cons_succ]
      exact rg_list (by kernel_rfl) (n17_4.out 0 _ _ _ _ (ext_alloc hE _) (Blk.newH W [.slice none 0 0, .slice none 0 0, .slice none 0 0, .slice none 0 0, .slice none 0 0, .slice none 0 0, .slice none 0 0, .slice none 0 0] 31 _ rfl) hE.size (hSl.ext (ext_alloc (ext_refl W) _)) ho)
  replace n1_4 := Lib.hid n1_4
  have n7_4 : ∀ (b24 b25 b1 b29 : Nat) (W : World), Below w.heap.size w W → Blk W b1 [.slice none 0 0, .slice none 0 0, .slice none 0 0, .slice none 0 0, .slice none 0 0, .slice none 0 0, .slice none 0 0, .slice none 0 0] → w.heap.size ≤ b1 → Slc W Ru.cells 8 (some ⟨b29, 0, none⟩) exL → Go.Proofs.Ytmgpbjpohbpgpaa.rowOff (some ⟨b29, 0, none⟩) exL b1 → WT Try.prog .any OPS Q7 8 (fun w' => Below w.heap.size w w') 4 #[false, false, true, true, true, true, false, true, false] { tmps := #[.bool false, .pointer (some ⟨b1, 0, none⟩), undef, undef, undef, undef, undef, undef, undef, undef, undef, undef, undef, undef, undef, undef, undef, undef, undef, undef, undef, undef, undef, undef, undef, undef, .agg #[.int .i64 1, .string ⟨#[]⟩, .string ⟨#[]⟩, .int .i64 0, .int .i64 0, .int .i64 0, .int .i64 0, .int .i64 800], .agg #[.int .i64 1, .string ⟨#[]⟩, .string ⟨#[]⟩, .int .i64 0, .int .i64 0, .int .i64 0, .int .i64 700, .int .i64 1440], .agg #[.int .i64 1, .string ⟨#[]⟩, .string ⟨#[]⟩, .int .i64 0, .int .i64 0, .int .i64 0, .int .i64 100, .int .i64 200], .slice (some ⟨b29, 0, none⟩) 3 3, undef, undef, undef, undef, undef, undef, undef, undef, undef, undef, undef, undef, undef, undef, undef, undef, undef, undef, undef, undef, undef, undef, undef, undef, undef, undef, undef, undef, undef, undef, undef, undef, undef, undef, undef, undef, undef, undef, undef, undef, undef, undef, undef, undef, undef, undef, undef, undef, undef, undef, undef, undef, undef, undef, undef, undef, undef, undef, undef, undef, undef, undef, undef, undef, undef, undef, undef, undef, undef, undef, undef, undef, undef, undef, undef, undef, undef, undef, undef, undef, undef, undef, undef, undef, undef, undef, undef, undef, undef, undef, undef, undef, undef, undef, undef, undef, undef, undef, undef, undef, undef, undef, undef, undef, undef, undef, undef, undef, undef, undef, undef, undef, undef, undef, undef, undef, undef, undef, undef, undef, undef, undef, undef, undef, undef, undef, undef, undef, undef, undef, undef, undef, undef, undef, undef, undef, undef, undef, undef, undef, undef, undef, undef, undef, undef, undef, undef, undef, undef, undef, undef, undef], defers := [] } W := by
    intro b24 b25 b1 b29 W hE hX hb hSl ho
    subst hO
    refine rg_two (i := 0) (j := 1) (by kernel_rfl) (rg_step rfl (by rfl) (fun K hK => ?_)) (rg_step rfl (by rfl) (fun K hK => ?_))
    · go_simp
      refine hK.out _ _ ?_ (fun hHeld2 => ?_)
      · exact ext_alloc hE _
      clear hK K
      try simp only [Act.put, List.setIfInBounds_toArray, List.set_cons_zero, List.set_cons_succ]
      exact rg_list (by kernel_rfl) (n07_4.out _ 0 _ _ _ (ext_alloc hE _) (hX.ext (ext_alloc (ext_refl W) _)) hb (hSl.ext (ext_alloc (ext_refl W) _)) ho)
    · go_simp
      refine hK.out _ _ ?_ (fun hHeld2 => ?_)
      · exact ext_alloc hE _
      clear hK K
      try simp only [Act.put, List.setIfInBounds_toArray, List.set_cons_zero, List.set_cons_succ]
      exact rg_list (by kernel_rfl) (n17_4.out 0 _ _ _ _ (ext_alloc hE _) (hX.ext (ext_alloc (ext_refl W) _)) hb (hSl.ext (ext_alloc (ext_refl W) _)) ho)
  replace n7_4 := Lib.hid n7_4
  have n01_3 : ∀ (b24 b25 b1 b29 : Nat) (W : World), Below w.heap.size w W → WT Try.prog .any OPS Q7 8 (fun w' => Below w.heap.size w w') 4 #[true, true, true, true, true, false, false, false, false] { tmps := #[.bool false, undef, undef, undef, undef, undef, undef, undef, undef, undef, undef, undef, undef, undef, undef, undef, undef, undef, undef, undef, undef, undef, undef, undef, .slice (some ⟨b24, 0, none⟩) 2 2, .slice (some ⟨b25, 0, none⟩) 1 1, .agg #[.int .i64 1, .string ⟨#[]⟩, .string ⟨#[]⟩, .int .i64 0, .int .i64 0, .int .i64 0, .int .i64 0, .int .i64 800], .agg #[.int .i64 1, .string ⟨#[]⟩, .string ⟨#[]⟩, .int .i64 0, .int .i64 0, .int .i64 0, .int .i64 700, .int .i64 1440], .agg #[.int .i64 1, .string ⟨#[]⟩, .string ⟨#[]⟩, .int .i64 0, .int .i64 0, .int .i64 0, .int .i64 100, .int .i64 200], undef, undef, undef, undef, undef, undef, undef, undef, undef, undef, undef, undef, undef, undef, undef, undef, undef, undef, undef, undef, undef, undef, undef, undef, undef, undef, undef, undef, undef, undef, undef, undef, undef, undef, undef, undef, undef, undef, undef, undef, undef, undef, undef, undef, undef, undef, undef, undef, undef, undef, undef, undef, undef, undef, undef, undef, undef, undef, undef, undef, undef, undef, undef, undef, undef, undef, undef, undef, undef, undef, undef, undef, undef, undef, undef, undef, undef, undef, undef, undef, undef, undef, undef, undef, undef, undef, undef, undef, undef, undef, undef, undef, undef, undef, undef, undef, undef, undef, undef, undef, undef, undef, undef, undef, undef, undef, undef, undef, undef, undef, undef, undef, undef, undef, undef, undef, undef, undef, undef, undef, undef, undef, undef, undef, undef, undef, undef, undef, undef, undef, undef, undef, undef, undef, undef, undef, undef, undef, undef, undef, undef, undef, undef, undef, undef, undef, undef, undef, undef, undef, undef, undef, undef], defers := [] } W := by
    intro b24 b25 b1 b29 W hE
    subst hO
    refine rg_two (i := 5) (j := 7) (by kernel_rfl) (rg_step rfl (by rfl) (fun K hK => ?_)) (rg_step rfl (by rfl) (fun K hK => ?_))
    · go_simp
      refine hK.out _ _ ?_ (fun hHeld2 => ?_)
      · exact ext_alloc hE _
      clear hK K
      try simp only [Act.put, List.setIfInBounds_toArray, List.set_cons_zero, List.set_cons_succ]
      exact rg_list (by kernel_rfl) (n01_4.out _ _ 0 _ _ (ext_alloc hE _) (slc_litH W exL #[.int .i64 1, .string ⟨#[]⟩, .string ⟨#[]⟩, .int .i64 0, .int .i64 0, .int .i64 0, .int .i64 0, .int .i64 800, .int .i64 1, .string ⟨#[]⟩, .string ⟨#[]⟩, .int .i64 0, .int .i64 0, .int .i64 0, .int .i64 700, .int .i64 1440, .int .i64 1, .string ⟨#[]⟩, .string ⟨#[]⟩, .int .i64 0, .int .i64 0, .int .i64 0, .int .i64 100, .int .i64 200] 42 (enc := Ru.cells) (sz := 8) (fun _ => rfl) rfl W.heap.size rfl) (fun _ c o s e => by cases e; simp))
    · go_simp
      refine hK.out _ _ ?_ (fun hHeld2 => ?_)
      · exact ext_alloc hE _
      clear hK K
      try simp only [Act.put, List.setIfInBounds_toArray, List.set_cons_zero, List.set_cons_succ]
      exact rg_list (by kernel_rfl) (n017_3.out _ _ _ 0 _ (ext_alloc hE _) (Blk.newH W [.slice none 0 0, .slice none 0 0, .slice none 0 0, .slice none 0 0, .slice none 0 0, .slice none 0 0, .slice none 0 0, .slice none 0 0] 31 _ rfl) hE.size)
  replace n01_3 := Lib.hid n01_3
  have n07_3 : ∀ (b24 b25 b1 b29 : Nat) (W : World), Below w.heap.size w W → Blk W b1 [.slice none 0 0, .slice none 0 0, .slice none 0 0, .slice none 0 0, .slice none 0 0, .slice none 0 0, .slice none 0 0, .slice none 0 0] → w.heap.size ≤ b1 → WT Try.prog .any OPS Q7 8 (fun w' => Below w.heap.size w w') 4 #[true, false, true, true, true, false, false, true, false] { tmps := #[.bool false, .pointer (some ⟨b1, 0, none⟩), undef, undef, undef, undef, undef, undef, undef, undef, undef, undef, undef, undef, undef, undef, undef, undef, undef, undef, undef, undef, undef, undef, .slice (some ⟨b24, 0, none⟩) 2 2, undef, .agg #[.int .i64 1, .string ⟨#[]⟩, .string ⟨#[]⟩, .int .i64 0, .int .i64 0, .int .i64 0, .int .i64 0, .int .i64 800], .agg #[.int .i64 1, .string ⟨#[]⟩, .string ⟨#[]⟩, .int .i64 0, .int .i64 0, .int .i64 0, .int .i64 700, .int .i64 1440], .agg #[.int .i64 1, .string ⟨#[]⟩, .string ⟨#[]⟩, .int .i64 0, .int .i64 0, .int .i64 0, .int .i64 100, .int .i64 200], undef, undef, undef, undef, undef, undef, undef, undef, undef, undef, undef, undef, undef, undef, undef, undef, undef, undef, undef, undef, undef, undef, undef, undef, undef, undef, undef, undef, undef, undef, undef, undef, undef, undef, undef, undef, undef, undef, undef, undef, undef, undef, undef, undef, undef, undef, undef, undef, undef, undef, undef, undef, undef, undef, undef, undef, undef, undef, undef, undef, undef, undef, undef, undef, undef, undef, undef, undef, undef, undef, undef, undef, undef, undef, undef, undef, undef, undef, undef, undef, undef, undef, undef, undef, undef, undef, undef, undef, undef, undef, undef, undef, undef, undef, undef, undef, undef, undef, undef, undef, undef, undef, undef, undef, undef, undef, undef, undef, undef, undef, undef, undef, undef, undef, undef, undef, undef, undef, undef, undef, undef, undef, undef, undef, undef, undef, undef, undef, undef, undef, undef, undef, undef, undef, undef, undef, undef, undef, undef, undef, undef, undef, undef, undef, undef, undef, undef, undef, undef, undef, undef, undef, undef], defers := [] } W := by
    intro b24 b25 b1 b29 W hE hX hb
    subst hO
    refine rg_two (i := 1) (j := 5) (by kernel_rfl) (rg_step rfl (by rfl) (fun K hK => ?_)) (rg_step rfl (by rfl) (fun K hK => ?_))
    · go_simp
      refine hK.out _ _ ?_ (fun hHeld2 => ?_)
      · exact ext_alloc hE _
      clear hK K
      try simp only [Act.put, List.setIfInBounds_toArray, List.set_cons_zero, List.set_cons_succ]
      exact rg_list (by kernel_rfl) (n017_3.out _ _ _ 0 _ (ext_alloc hE _) (hX.ext (ext_alloc (ext_refl W) _)) hb)
    · go_simp
      refine hK.out _ _ ?_ (fun hHeld2 => ?_)
      · exact ext_alloc hE _
      clear hK K
      try simp only [Act.put, List.setIfInBounds_toArray, List.set_cons_zero, List.set_cons_succ]
      exact rg_list (by kernel_rfl) (n07_4.out _ 0 _ _ _ (ext_alloc hE _) (hX.ext (ext_alloc (ext_refl W) _)) hb (slc_litH W exL #[.int .i64 1, .string ⟨#[]⟩, .string ⟨#[]⟩, .int .i64 0, .int .i64 0, .int .i64 0, .int .i64 0, .int .i64 800, .int .i64 1, .string ⟨#[]⟩, .string ⟨#[]⟩, .int .i64 0, .int .i64 0, .int .i64 0, .int .i64 700, .int .i64 1440, .int .i64 1, .string ⟨#[]⟩, .string ⟨#[]⟩, .int .i64 0, .int .i64 0, .int .i64 0, .int .i64 100, .int .i64 200] 42 (enc := Ru.cells) (sz := 8) (fun _ => rfl) rfl W.heap.size rfl) (fun _ c o s e => by cases e; have := hX.lt; omega))
  replace n07_3 := Lib.hid n07_3
  have n17_3 : ∀ (b24 b25 b1 b29 : Nat) (W : World), Below w.heap.size w W → Blk W b1 [.slice none 0 0, .slice none 0 0, .slice none 0 0, .slice none 0 0, .slice none 0 0, .slice none 0 0, .slice none 0 0, .slice none 0 0] → w.heap.size ≤ b1 → WT Try.prog .any OPS Q7 8 (fun w' => Below w.heap.size w w') 4 #[false, true, true, true, true, false, false, true, false] { tmps := #[.bool false, .pointer (some ⟨b1, 0, none⟩), undef, undef, undef, undef, undef, undef, undef, undef, undef, undef, undef, undef, undef, undef, undef, undef, undef, undef, undef, undef, undef, undef, undef, .slice (some ⟨b25, 0, none⟩) 1 1, .agg #[.int .i64 1, .string ⟨#[]⟩, .string ⟨#[]⟩, .int .i64 0, .int .i64 0, .int .i64 0, .int .i64 0, .int .i64 800], .agg #[.int .i64 1, .string ⟨#[]⟩, .string ⟨#[]⟩, .int .i64 0, .int .i64 0, .int .i64 0, .int .i64 700, .int .i64 1440], .agg #[.int .i64 1, .string ⟨#[]⟩, .string ⟨#[]⟩, .int .i64 0, .int .i64 0, .int .i64 0, .int .i64 100, .int .i64 200], undef, undef, undef, undef, undef, undef, undef, undef, undef, undef, undef, undef, undef, undef, undef, undef, undef, undef, undef, undef, undef, undef, undef, undef, undef, undef, undef, undef, undef, undef, undef, undef, undef, undef, undef, undef, undef, undef, undef, undef, undef, undef, undef, undef, undef, undef, undef, undef, undef, undef, undef, undef, undef, undef, undef, undef, undef, undef, undef, undef, undef, undef, undef, undef, undef, undef, undef, undef, undef, undef, undef, undef, undef, undef, undef, undef, undef, undef, undef, undef, undef, undef, undef, undef, undef, undef, undef, undef, undef, undef, undef, undef, undef, undef, undef, undef, undef, undef, undef, undef, undef, undef, undef, undef, undef, undef, undef, undef, undef, undef, undef, undef, undef, undef, undef, undef, undef, undef, undef, undef, undef, undef, undef, undef, undef, undef, undef, undef, undef, undef, undef, undef, undef, undef, undef, undef, undef, undef, undef, undef, undef, undef, undef, undef, undef, undef, undef, undef, undef, undef, undef, undef, undef], defers := [] } W := by
    intro b24 b25 b1 b29 W hE hX hb
    subst hO
    refine rg_two (i := 0) (j := 5) (by kernel_rfl) (rg_step rfl (by rfl) (fun K hK => ?_)) (rg_step rfl (by rfl) (fun K hK => ?_))
    · go_simp
      refine hK.out _ _ ?_ (fun hHeld2 => ?_)
      · exact ext_alloc hE _
      clear hK K
      try simp only [Act.put, List.setIfInBounds_toArray, List.set_cons_zero, List.set_cons_succ]
      exact rg_list (by kernel_rfl) (n017_3.out _ _ _ 0 _ (ext_alloc hE _) (hX.ext (ext_alloc (ext_refl W) _)) hb)
    · go_simp
      refine hK.out _ _ ?_ (fun hHeld2 => ?_)
      · exact ext_alloc hE _
      clear hK K
      try simp only [Act.put, List.setIfInBounds_toArray, List.set_cons_zero, List.set_cons_succ]
      exact rg_list (by kernel_rfl) (n17_4.out 0 _ _ _ _ (ext_alloc hE _) (hX.ext (ext_alloc (ext_refl W) _)) hb (slc_litH W exL #[.int .i64 1, .string ⟨#[]⟩, .string ⟨#[]⟩, .int .i64 0, .int .i64 0, .int .i64 0, .int .i64 0, .int .i64 800, .int .i64 1, .string ⟨#[]⟩, .string ⟨#[]⟩, .int .i64 0, .int .i64 0, .int .i64 0, .int .i64 700, .int .i64 1440, .int .i64 1, .string ⟨#[]⟩, .string ⟨#[]⟩, .int .i64 0, .int .i64 0, .int .i64 0, .int .i64 100, .int .i64 200] 42 (enc := Ru.cells) (sz := 8) (fun _ => rfl) rfl W.heap.size rfl) (fun _ c o s e => by cases e; have := hX.lt; omega))
  replace n17_3 := Lib.hid n17_3
  have n017_2 : ∀ (b24 b25 b1 b29 : Nat) (W : World), Below w.heap.size w W → Blk W b1 [.slice none 0 0, .slice none 0 0, .slice none 0 0, .slice none 0 0, .slice none 0 0, .slice none 0 0, .slice none 0 0, .slice none 0 0] → w.heap.size ≤ b1 → WT Try.prog .any OPS Q7 8 (fun w' => Below w.heap.size w w') 4 #[true, true, true, true, false, false, false, true, false] { tmps := #[.bool false, .pointer (some ⟨b1, 0, none⟩), undef, undef, undef, undef, undef, undef, undef, undef, undef, undef, undef, undef, undef, undef, undef, undef, undef, undef, undef, undef, undef, undef, .slice (some ⟨b24, 0, none⟩) 2 2, .slice (some ⟨b25, 0, none⟩) 1 1, .agg #[.int .i64 1, .string ⟨#[]⟩, .string ⟨#[]⟩, .int .i64 0, .int .i64 0, .int .i64 0, .int .i64 0, .int .i64 800], .agg #[.int .i64 1, .string ⟨#[]⟩, .string ⟨#[]⟩, .int .i64 0, .int .i64 0, .int .i64 0, .int .i64 700, .int .i64 1440], undef, undef, undef, undef, undef, undef, undef, undef, undef, undef, undef, undef, undef, undef, undef, undef, undef, undef, undef, undef, undef, undef, undef, undef, undef, undef, undef, undef, undef, undef, undef, undef, undef, undef, undef, undef, undef, undef, undef, undef, undef, undef, undef, undef, undef, undef, undef, undef, undef, undef, undef, undef, undef, undef, undef, undef, undef, undef, undef, undef, undef, undef, undef, undef, undef, undef, undef, undef, undef, undef, undef, undef, undef, undef, undef, undef, undef, undef, undef, undef, undef, undef, undef, undef, undef, undef, undef, undef, undef, undef, undef, undef, undef, undef, undef, undef, undef, undef, undef, undef, undef, undef, undef, undef, undef, undef, undef, undef, undef, undef, undef, undef, undef, undef, undef, undef, undef, undef, undef, undef, undef, undef, undef, undef, undef, undef, undef, undef, undef, undef, undef, undef, undef, undef, undef, undef, undef, undef, undef, undef, undef, undef, undef, undef, undef, undef, undef, undef, undef, undef, undef, undef, undef, undef], defers := [] } W := by
    intro b24 b25 b1 b29 W hE hX hb
    subst hO
    refine rg_one (i := 4) (by kernel_rfl) (rg_step rfl (by rfl) (fun K hK => ?_))
    · go_simp
      refine (cuf_any 100 200 _).mono ?_
      rintro e W2 ⟨rfl, B⟩
      go_wp2_with fail
      refine hK.out _ _ ?_ (fun hHeld2 => ?_)
      · exact ext_trans hE B
      clear hK K
      try simp only [Act.put, List.setIfInBounds_toArray, List.set_cons_zero, List.set_cons_succ]
      exact rg_list (by kernel_rfl) (n017_3.out _ _ _ 0 _ (ext_trans hE B) (hX.ext B) hb)
  replace n017_2 := Lib.hid n017_2
  have n_4 : ∀ (b24 b25 b1 b29 : Nat) (W : World), Below w.heap.size w W → Slc W Ru.cells 8 (some ⟨b29, 0, none⟩) exL → Go.Proofs.Ytmgpbjpohbpgpaa.rowOff (some ⟨b29, 0, none⟩) exL W.heap.size → WT Try.prog .any OPS Q7 8 (fun w' => Below w.heap.size w w') 5 #[false, false, true, true, true, true, false, false, false] { tmps := #[.bool false, undef, undef, undef, undef, undef, undef, undef, undef, undef, undef, undef, undef, undef, undef, undef, undef, undef, undef, undef, undef, undef, undef, undef, undef, undef, .agg #[.int .i64 1, .string ⟨#[]⟩, .string ⟨#[]⟩, .int .i64 0, .int .i64 0, .int .i64 0, .int .i64 0, .int .i64 800], .agg #[.int .i64 1, .string ⟨#[]⟩, .string ⟨#[]⟩, .int .i64 0, .int .i64 0, .int .i64 0, .int .i64 700, .int .i64 1440], .agg #[.int .i64 1, .string ⟨#[]⟩, .string ⟨#[]⟩, .int .i64 0, .int .i64 0, .int .i64 0, .int .i64 100, .int .i64 200], .slice (some ⟨b29, 0, none⟩) 3 3, undef, undef, undef, undef, undef, undef, undef, undef, undef, undef, undef, undef, undef, undef, undef, undef, undef, undef, undef, undef, undef, undef, undef, undef, undef, undef, undef, undef, undef, undef, undef, undef, undef, undef, undef, undef, undef, undef, undef, undef, undef, undef, undef, undef, undef, undef, undef, undef, undef, undef, undef, undef, undef, undef, undef, undef, undef, undef, undef, undef, undef, undef, undef, undef, undef, undef, undef, undef, undef, undef, undef, undef, undef, undef, undef, undef, undef, undef, undef, undef, undef, undef, undef, undef, undef, undef, undef, undef, undef, undef, undef, undef, undef, undef, undef, undef, undef, undef, undef, undef, undef, undef, undef, undef, undef, undef, undef, undef, undef, undef, undef, undef, undef, undef, undef, undef, undef, undef, undef, undef, undef, undef, undef, undef, undef, undef, undef, undef, undef, undef, undef, undef, undef, undef, undef, undef, undef, undef, undef, undef, undef, undef, undef, undef, undef, undef, undef, undef, undef, undef, undef, undef], defers := [] } W := by
    intro b24 b25 b1 b29 W hE hSl ho
    subst hO
    refine rg_three (i := 0) (j := 1) (m := 7) (by kernel_rfl) (rg_step rfl (by rfl) (fun K hK => ?_)) (rg_step rfl (by rfl) (fun K hK => ?_)) (rg_step rfl (by rfl) (fun K hK => ?_))
    · go_simp
      refine hK.out _ _ ?_ (fun hHeld2 => ?_)
      · exact ext_alloc hE _
      clear hK K
      try simp only [Act.put, List.setIfInBounds_toArray, List.set_cons_zero, List.set_cons_succ]
      exact rg_list (by kernel_rfl) (n0_4.out _ 0 0 _ _ (ext_alloc hE _) (hSl.ext (ext_alloc (ext_refl W) _)) (hSl.rowOff (by simp)))
    · go_simp
      refine hK.out _ _ ?_ (fun hHeld2 => ?_)
      · exact ext_alloc hE _
      clear hK K
      try simp only [Act.put, List.setIfInBounds_toArray, List.set_cons_zero, List.set_cons_succ]
      exact rg_list (by kernel_rfl) (n1_4.out 0 _ 0 _ _ (ext_alloc hE _) (hSl.ext (ext_alloc (ext_refl W) _)) (hSl.rowOff (by simp)))
    · go_simp
      refine hK.out _ _ ?_ (fun hHeld2 => ?_)
      · exact ext_alloc hE _
      clear hK K
      try simp only [Act.put, List.setIfInBounds_toArray, List.set_cons_zero, List.set_cons_succ]
      exact rg_list (by kernel_rfl) (n7_4.out 0 0 _ _ _ (ext_alloc hE _) (Blk.newH W [.slice none 0 0, .slice none 0 0, .slice none 0 0, .slice none 0 0, .slice none 0 0, .slice none 0 0, .slice none 0 0, .slice none 0 0] 31 _ rfl) hE.size (hSl.ext (ext_alloc (ext_refl W) _)) ho)
  replace n_4 := Lib.hid n_4
  have n0_3 : ∀ (b24 b25 b1 b29 : Nat) (W : World), Below w.heap.size w W → WT Try.prog .any OPS Q7 8 (fun w' => Below w.heap.size w w') 5 #[true, false, true, true, true, false, false, false, false] { tmps := #[.bool false, undef, undef, undef, undef, undef, undef, undef, undef, undef, undef, undef, undef, undef, undef, undef, undef, undef, undef, undef, undef, undef, undef, undef, .slice (some ⟨b24, 0, none⟩) 2 2, undef, .agg #[.int .i64 1, .string ⟨#[]⟩, .string ⟨#[]⟩, .int .i64 0, .int .i64 0, .int .i64 0, .int .i64 0, .int .i64 800], .agg #[.int .i64 1, .string ⟨#[]⟩, .string ⟨#[]⟩, .int .i64 0, .int .i64 0, .int .i64 0, .int .i64 700, .int .i64 1440], .agg #[.int .i64 1, .string ⟨#[]⟩, .string ⟨#[]⟩, .int .i64 0, .int .i64 0, .int .i64 0, .int .i64 100, .int .i64 200], undef, undef, undef, undef, undef, undef, undef, undef, undef, undef, undef, undef, undef, undef, undef, undef, undef, undef, undef, undef, undef, undef, undef, undef, undef, undef, undef, undef, undef, undef, undef, undef, undef, undef, undef, undef, undef, undef, undef, undef, undef, undef, undef, undef, undef, undef, undef, undef, undef, undef, undef, undef, undef, undef, undef, undef, undef, undef, undef, undef, undef, undef, undef, undef, undef, undef, undef, undef, undef, undef, undef, undef, undef, undef, undef, undef, undef, undef, undef, undef, undef, undef, undef, undef, undef, undef, undef, undef, undef, undef, undef, undef, undef, undef, undef, undef, undef, undef, undef, undef, undef, undef, undef, undef, undef, undef, undef, undef, undef, undef, undef, undef, undef, undef, undef, undef, undef, undef, undef, undef, undef, undef, undef, undef, undef, undef, undef, undef, undef, undef, undef, undef, undef, undef, undef, undef, undef, undef, undef, undef, undef, undef, undef, undef, undef, undef, undef, undef, undef, undef, undef, undef, undef], defers := [] } W := by
    intro b24 b25 b1 b29 W hE
    subst hO
    refine rg_three (i := 1) (j := 5) (m := 7) (by kernel_rfl) (rg_step rfl (by rfl) (fun K hK => ?_)) (rg_step rfl (by rfl) (fun K hK => ?_)) (rg_step rfl (by rfl) (fun K hK => ?_))
    · go_simp
      refine hK.out _ _ ?_ (fun hHeld2 => ?_)
      · exact ext_alloc hE _
      clear hK K
      try simp only [Act.put, List.setIfInBounds_toArray, List.set_cons_zero, List.set_cons_succ]
      exact rg_list (by kernel_rfl) (n01_3.out _ _ 0 0 _ (ext_alloc hE _))
    · go_simp
      refine hK.out _ _ ?_ (fun hHeld2 => ?_)
      · exact ext_alloc hE _
      clear hK K
      try simp only [Act.put, List.setIfInBounds_toArray, List.set_cons_zero, List.set_cons_succ]
      exact rg_list (by kernel_rfl) (n0_4.out _ 0 0 _ _ (ext_alloc hE _) (slc_litH W exL #[.int .i64 1, .string ⟨#[]⟩, .string ⟨#[]⟩, .int .i64 0, .int .i64 0, .int .i64 0, .int .i64 0, .int .i64 800, .int .i64 1, .string ⟨#[]⟩, .string ⟨#[]⟩, .int .i64 0, .int .i64 0, .int .i64 0, .int .i64 700, .int .i64 1440, .int .i64 1, .string ⟨#[]⟩, .string ⟨#[]⟩, .int .i64 0, .int .i64 0, .int .i64 0, .int .i64 100, .int .i64 200] 42 (enc := Ru.cells) (sz := 8) (fun _ => rfl) rfl W.heap.size rfl) (fun _ c o s e => by cases e; simp))
    · go_simp
      refine hK.out _ _ ?_ (fun hHeld2 => ?_)
      · exact ext_alloc hE _
      clear hK K
      try simp only [Act.put, List.setIfInBounds_toArray, List.set_cons_zero, List.set_cons_succ]
      exact rg_list (by kernel_rfl) (n07_3.out _ 0 _ 0 _ (ext_alloc hE _) (Blk.newH W [.slice none 0 0, .slice none 0 0, .slice none 0 0, .slice none 0 0, .slice none 0 0, .slice none 0 0, .slice none 0 0, .slice none 0 0] 31 _ rfl) hE.size)
  replace n0_3 := Lib.hid n0_3
  have n1_3 : ∀ (b24 b25 b1 b29 : Nat) (W : World), Below w.heap.size w W → WT Try.prog .any OPS Q7 8 (fun w' => Below w.heap.size w w') 5 #[false, true, true, true, true, false, false, false, false] { tmps := #[.bool false, undef, undef, undef, undef, undef, undef, undef, undef, undef, undef, undef, undef, undef, undef, undef, undef, undef, undef, undef, undef, undef, undef, undef, undef, .slice (some ⟨b25, 0, none⟩) 1 1, .agg #[.int .i64 1, .string ⟨#[]⟩, .string ⟨#[]⟩, .int .i64 0, .int .i64 0, .int .i64 0, .int .i64 0, .int .i64 800], .agg #[.int .i64 1, .string ⟨#[]⟩, .string ⟨#[]⟩, .int .i64 0, .int .i64 0, .int .i64 0, .int .i64 700, .int .i64 1440], .agg #[.int .i64 1, .string ⟨#[]⟩, .string ⟨#[]⟩, .int .i64 0, .int .i64 0, .int .i64 0, .int .i64 100, .int .i64 200], undef, undef, undef, undef, undef, undef, undef, undef, undef, undef, undef, undef, undef, undef, undef, undef, undef, undef, undef, undef, undef, undef, undef, undef, undef, undef, undef, undef, undef, undef, undef, undef, undef, undef, undef, undef, undef, undef, undef, undef, undef, undef, undef, undef, undef, undef, undef, undef, undef, undef, undef, undef, undef, undef, undef, undef, undef, undef, undef, undef, undef, undef, undef, undef, undef, undef, undef, undef, undef, undef, undef, undef, undef, undef, undef, undef, undef, undef, undef, undef, undef, undef, undef, undef, undef, undef, undef, undef, undef, undef, undef, undef, undef, undef, undef, undef, undef, undef, undef, undef, undef, undef, undef, undef, undef, undef, undef, undef, undef, undef, undef, undef, undef, undef, undef, undef, undef, undef, undef, undef, undef, undef, undef, undef, undef, undef, undef, undef, undef, undef, undef, undef, undef, undef, undef, undef, undef, undef, undef, undef, undef, undef, undef, undef, undef, undef, undef, undef, undef, undef, undef, undef, undef], defers := [] } W := by
    intro b24 b25 b1 b29 W hE
    subst hO
    refine rg_three (i := 0) (j := 5) (m := 7) (by kernel_rfl) (rg_step rfl (by rfl) (fun K hK => ?_)) (rg_step rfl (by rfl) (fun K hK => ?_)) (rg_step rfl (by rfl) (fun K hK => ?_))
    · go_simp
      refine hK.out _ _ ?_ (fun hHeld2 => ?_)
      · exact ext_alloc hE _
      clear hK K
      try simp only [Act.put, List.setIfInBounds_toArray, List.set_cons_zero, List.set_cons_succ]
      exact rg_list (by kernel_rfl) (n01_3.out _ _ 0 0 _ (ext_alloc hE _))
    · go_simp
      refine hK.out _ _ ?_ (fun hHeld2 => ?_)
      · exact ext_alloc hE _
      clear hK K
      try simp only [Act.put, List.setIfInBounds_toArray, List.set_cons_zero, List.set_cons_succ]
      exact rg_list (by kernel_rfl) (n1_4.out 0 _ 0 _ _ (ext_alloc hE _) (slc_litH W exL #[.int .i64 1, .string ⟨#[]⟩, .string ⟨#[]⟩, .int .i64 0, .int .i64 0, .int .i64 0, .int .i64 0, .int .i64 800, .int .i64 1, .string ⟨#[]⟩, .string ⟨#[]⟩, .int .i64 0, .int .i64 0, .int .i64 0, .int .i64 700, .int .i64 1440, .int .i64 1, .string ⟨#[]⟩, .string ⟨#[]⟩, .int .i64 0, .int .i64 0, .int .i64 0, .int .i64 100, .int .i64 200] 42 (enc := Ru.cells) (sz := 8) (fun _ => rfl) rfl W.heap.size rfl) (fun _ c o s e => by cases e; simp))
    · go_simp
      refine hK.out _ _ ?_ (fun hHeld2 => ?_)
      · exact ext_alloc hE _
      clear hK K
      try simp only [Act.put, List.setIfInBounds_toArray, List.set_cons_zero, List.set_cons_succ]
      exact rg_list (by kernel_rfl) (n17_3.out 0 _ _ 0 _ (ext_alloc hE _) (Blk.newH W [.slice none 0 0, .slice none 0 0, .slice none 0 0, .slice none 0 0, .slice none 0 0, .slice none 0 0, .slice none 0 0, .slice none 0 0] 31 _ rfl) hE.size)
  replace n1_3 := Lib.hid n1_3
  have n7_3 : ∀ (b24 b25 b1 b29 : Nat) (W : World), Below w.heap.size w W → Blk W b1 [.slice none 0 0, .slice none 0 0, .slice none 0 0, .slice none 0 0, .slice none 0 0, .slice none 0 0, .slice none 0 0, .slice none 0 0] → w.heap.size ≤ b1 → WT Try.prog .any OPS Q7 8 (fun w' => Below w.heap.size w w') 5 #[false, false, true, true, true, false, false, true, false] { tmps := #[.bool false, .pointer (some ⟨b1, 0, none⟩), undef, undef, undef, undef, undef, undef, undef, undef, undef, undef, undef, undef, undef, undef, undef, undef, undef, undef, undef, undef, undef, undef, undef, undef, .agg #[.int .i64 1, .string ⟨#[]⟩, .string ⟨#[]⟩, .int .i64 0, .int .i64 0, .int .i64 0, .int .i64 0, .int .i64 800], .agg #[.int .i64 1, .string ⟨#[]⟩, .string ⟨#[]⟩, .int .i64 0, .int .i64 0, .int .i64 0, .int .i64 700, .int .i64 1440], .agg #[.int .i64 1, .string ⟨#[]⟩, .string ⟨#[]⟩, .int .i64 0, .int .i64 0, .int .i64 0, .int .i64 100, .int .i64 200], undef, undef, undef, undef, undef, undef, undef, undef, undef, undef, undef, undef, undef, undef, undef, undef, undef, undef, undef, undef, undef, undef, undef, undef, undef, undef, undef, undef, undef, undef, undef, undef, undef, undef, undef, undef, undef, undef, undef, undef, undef, undef, undef, undef, undef, undef, undef, undef, undef, undef, undef, undef, undef, undef, undef, undef, undef, undef, undef, undef, undef, undef, undef, undef, undef, undef, undef, undef, undef, undef, undef, undef, undef, undef, undef, undef, undef, undef, undef, undef, undef, undef, undef, undef, undef, undef, undef, undef, undef, undef, undef, undef, undef, undef, undef, undef, undef, undef, undef, undef, undef, undef, undef, undef, undef, undef, undef, undef, undef, undef, undef, undef, undef, undef, undef, undef, undef, undef, undef, undef, undef, undef, undef, undef, undef, undef, undef, undef, undef, undef, undef, undef, undef, undef, undef, undef, undef, undef, undef, undef, undef, undef, undef, undef, undef, undef, undef, undef, undef, undef, undef, undef, undef], defers := [] } W := by
    intro b24 b25 b1 b29 W hE hX hb
    subst hO
    refine rg_three (i := 0) (j := 1) (m := 5) (by kernel_rfl) (rg_step rfl (by rfl) (fun K hK => ?_)) (rg_step rfl (by rfl) (fun K hK => ?_)) (rg_step rfl (by rfl) (fun K hK => ?_))
    · go_simp
      refine hK.out _ _ ?_ (fun hHeld2 => ?_)
      · exact ext_alloc hE _
      clear hK K
      try simp only [Act.put, List.setIfInBounds_toArray, List.set_cons_zero, List.set_cons_succ]
      exact rg_list (by kernel_rfl) (n07_3.out _ 0 _ 0 _ (ext_alloc hE _) (hX.ext (ext_alloc (ext_refl W) _)) hb)
    · go_simp
      refine hK.out _ _ ?_ (fun hHeld2 => ?_)
      · exact ext_alloc hE _
      clear hK K
      try simp only [Act.put, List.setIfInBounds_toArray, List.set_cons_zero, List.set_cons_succ]
      exact rg_list (by kernel_rfl) (n17_3.out 0 _ _ 0 _ (ext_alloc hE _) (hX.ext (ext_alloc (ext_refl W) _)) hb)
    · go_simp
      refine hK.out _ _ ?_ (fun hHeld2 => ?_)
      · exact ext_alloc hE _
      clear hK K
      try simp only [Act.put, List.setIfInBounds_toArray, List.set_cons_zero, List.set_cons_succ]
      exact rg_list (by kernel_rfl) (n7_4.out 0 0 _ _ _ (ext_alloc hE _) (hX.ext (ext_alloc (ext_refl W) _)) hb (slc_litH W exL #[.int .i64 1, .string ⟨#[]⟩, .string ⟨#[]⟩, .int .i64 0, .int .i64 0, .int .i64 0, .int .i64 0, .int .i64 800, .int .i64 1, .string ⟨#[]⟩, .string ⟨#[]⟩, .int .i64 0, .int .i64 0, .int .i64 0, .int .i64 700, .int .i64 1440, .int .i64 1, .string ⟨#[]⟩, .string ⟨#[]⟩, .int .i64 0, .int .i64 0, .int .i64 0, .int .i64 100, .int .i64 200] 42 (enc := Ru.cells) (sz := 8) (fun _ => rfl) rfl W.heap.size rfl) (fun _ c o s e => by cases e; have := hX.lt; omega))
  replace n7_3 := Lib.hid n7_3
  have n01_2 : ∀ (b24 b25 b1 b29 : Nat) (W : World), Below w.heap.size w W → WT Try.prog .any OPS Q7 8 (fun w' => Below w.heap.size w w') 5 #[true, true, true, true, false, false, false, false, false] { tmps := #[.bool false, undef, undef, undef, undef, undef, undef, undef, undef, undef, undef, undef, undef, undef, undef, undef, undef, undef, undef, undef, undef, undef, undef, undef, .slice (some ⟨b24, 0, none⟩) 2 2, .slice (some ⟨b25, 0, none⟩) 1 1, .agg #[.int .i64 1, .string ⟨#[]⟩, .string ⟨#[]⟩, .int .i64 0, .int .i64 0, .int .i64 0, .int .i64 0, .int .i64 800], .agg #[.int .i64 1, .string ⟨#[]⟩, .string ⟨#[]⟩, .int .i64 0, .int .i64 0, .int .i64 0, .int .i64 700, .int .i64 1440], undef, undef, undef, undef, undef, undef, undef, undef, undef, undef, undef, undef, undef, undef, undef, undef, undef, undef, undef, undef, undef, undef, undef, undef, undef, undef, undef, undef, undef, undef, undef, undef, undef, undef, undef, undef, undef, undef, undef, undef, undef, undef, undef, undef, undef, undef, undef, undef, undef, undef, undef, undef, undef, undef, undef, undef, undef, undef, undef, undef, undef, undef, undef, undef, undef, undef, undef, undef, undef, undef, undef, undef, undef, undef, undef, undef, undef, undef, undef, undef, undef, undef, undef, undef, undef, undef, undef, undef, undef, undef, undef, undef, undef, undef, undef, undef, undef, undef, undef, undef, undef, undef, undef, undef, undef, undef, undef, undef, undef, undef, undef, undef, undef, undef, undef, undef, undef, undef, undef, undef, undef, undef, undef, undef, undef, undef, undef, undef, undef, undef, undef, undef, undef, undef, undef, undef, undef, undef, undef, undef, undef, undef, undef, undef, undef, undef, undef, undef, undef, undef, undef, undef, undef, undef], defers := [] } W := by
    intro b24 b25 b1 b29 W hE
    subst hO
    refine rg_two (i := 4) (j := 7) (by kernel_rfl) (rg_step rfl (by rfl) (fun K hK => ?_)) (rg_step rfl (by rfl) (fun K hK => ?_))
    · go_simp
      refine (cuf_any 100 200 _).mono ?_
      rintro e W2 ⟨rfl, B⟩
      go_wp2_with fail
      refine hK.out _ _ ?_ (fun hHeld2 => ?_)
      · exact ext_trans hE B
      clear hK K
      try simp only [Act.put, List.setIfInBounds_toArray, List.set_cons_zero, List.set_cons_succ]
      exact rg_list (by kernel_rfl) (n01_3.out _ _ 0 0 _ (ext_trans hE B))
    · go_simp
      refine hK.out _ _ ?_ (fun hHeld2 => ?_)
      · exact ext_alloc hE _
      clear hK K
      try simp only [Act.put, List.setIfInBounds_toArray, List.set_cons_zero, List.set_cons_succ]
      exact rg_list (by kernel_rfl) (n017_2.out _ _ _ 0 _ (ext_alloc hE _) (Blk.newH W [.slice none 0 0, .slice none 0 0, .slice none 0 0, .slice none 0 0, .slice none 0 0, .slice none 0 0, .slice none 0 0, .slice none 0 0] 31 _ rfl) hE.size)
  replace n01_2 := Lib.hid n01_2
  have n07_2 : ∀ (b24 b25 b1 b29 : Nat) (W : World), Below w.heap.size w W → Blk W b1 [.slice none 0 0, .slice none 0 0, .slice none 0 0, .slice none 0 0, .slice none 0 0, .slice none 0 0, .slice none 0 0, .slice none 0 0] → w.heap.size ≤ b1 → WT Try.prog .any OPS Q7 8 (fun w' => Below w.heap.size w w') 5 #[true, false, true, true, false, false, false, true, false] { tmps := #[.bool false, .pointer (some ⟨b1, 0, none⟩), undef, undef, undef, undef, undef, undef, undef, undef, undef, undef, undef, undef, undef, undef, undef, undef, undef, undef, undef, undef, undef, undef, .slice (some ⟨b24, 0, none⟩) 2 2, undef, .agg #[.int .i64 1, .string ⟨#[]⟩, .string ⟨#[]⟩, .int .i64 0, .int .i64 0, .int .i64 0, .int .i64 0, .int .i64 800], .agg #[.int .i64 1, .string ⟨#[]⟩, .string ⟨#[]⟩, .int .i64 0, .int .i64 0, .int .i64 0, .int .i64 700, .int .i64 1440], undef, undef, undef, undef, undef, undef, undef, undef, undef, undef, undef, undef, undef, undef, undef, undef, undef, undef, undef, undef, undef, undef, undef, undef, undef, undef, undef, undef, undef, undef, undef, undef, undef, undef, undef, undef, undef, undef, undef, undef, undef, undef, undef, undef, undef, undef, undef, undef, undef, undef, undef, undef, undef, undef, undef, undef, undef, undef, undef, undef, undef, undef, undef, undef, undef, undef, undef, undef, undef, undef, undef, undef, undef, undef, undef, undef, undef, undef, undef, undef, undef, undef, undef, undef, undef, undef, undef, undef, undef, undef, undef, undef, undef, undef, undef, undef, undef, undef, undef, undef, undef, undef, undef, undef, undef, undef, undef, undef, undef, undef, undef, undef, undef, undef, undef, undef, undef, undef, undef, undef, undef, undef, undef, undef, undef, undef, undef, undef, undef, undef, undef, undef, undef, undef, undef, undef, undef, undef, undef, undef, undef, undef, undef, undef, undef, undef, undef, undef, undef, undef, undef, undef, undef, undef], defers := [] } W := by
    intro b24 b25 b1 b29 W hE hX hb
    subst hO
    refine rg_two (i := 1) (j := 4) (by kernel_rfl) (rg_step rfl (by rfl) (fun K hK => ?_)) (rg_step rfl (by rfl) (fun K hK => ?_))
    · go_simp
      refine hK.out _ _ ?_ (fun hHeld2 => ?_)
      · exact ext_alloc hE _
      clear hK K
      try simp only [Act.put, List.setIfInBounds_toArray, List.set_cons_zero, List.set_cons_succ]
      exact rg_list (by kernel_rfl) (n017_2.out _ _ _ 0 _ (ext_alloc hE _) (hX.ext (ext_alloc (ext_refl W) _)) hb)
    · go_simp
      refine (cuf_any 100 200 _).mono ?_
      rintro e W2 ⟨rfl, B⟩
      go_wp2_with fail
      refine hK.out _ _ ?_ (fun hHeld2 => ?_)
      · exact ext_trans hE B
      clear hK K
      try simp only [Act.put, List.setIfInBounds_toArray, List.set_cons_zero, List.set_cons_succ]
      exact rg_list (by kernel_rfl) (n07_3.out _ 0 _ 0 _ (ext_trans hE B) (hX.ext B) hb)
  replace n07_2 := Lib.hid n07_2
  have n17_2 : ∀ (b24 b25 b1 b29 : Nat) (W : World), Below w.heap.size w W → Blk W b1 [.slice none 0 0, .slice none 0 0, .slice none 0 0, .slice none 0 0, .slice none 0 0, .slice none 0 0, .slice none 0 0, .slice none 0 0] → w.heap.size ≤ b1 → WT Try.prog .any OPS Q7 8 (fun w' => Below w.heap.size w w') 5 #[false, true, true, true, false, false, false, true, false] { tmps := #[.bool false, .pointer (some ⟨b1, 0, none⟩), undef, undef, undef, undef, undef, undef, undef, undef, undef, undef, undef, undef, undef, undef, undef, undef, undef, undef, undef, undef, undef, undef, undef, .slice (some ⟨b25, 0, none⟩) 1 1, .agg #[.int .i64 1, .string ⟨#[]⟩, .string ⟨#[]⟩, .int .i64 0, .int .i64 0, .int .i64 0, .int .i64 0, .int .i64 800], .agg #[.int .i64 1, .string ⟨#[]⟩, .string ⟨#[]⟩, .int .i64 0, .int .i64 0, .int .i64 0, .int .i64 700, .int .i64 1440], undef, undef, undef, undef, undef, undef, undef, undef, undef, undef, undef, undef, undef, undef, undef, undef, undef, undef, undef, undef, undef, undef, undef, undef, undef, undef, undef, undef, undef, undef, undef, undef, undef, undef, undef, undef, undef, undef, undef, undef, undef, undef, undef, undef, undef, undef, undef, undef, undef, undef, undef, undef, undef, undef, undef, undef, undef, undef, undef, undef, undef, undef, undef, undef, undef, undef, undef, undef, undef, undef, undef, undef, undef, undef, undef, undef, undef, undef, undef, undef, undef, undef, undef, undef, undef, undef, undef, undef, undef, undef, undef, undef, undef, undef, undef, undef, undef, undef, undef, undef, undef, undef, undef, undef, undef, undef, undef, undef, undef, undef, undef, undef, undef, undef, undef, undef, undef, undef, undef, undef, undef, undef, undef, undef, undef, undef, undef, undef, undef, undef, undef, undef, undef, undef, undef, undef, undef, undef, undef, undef, undef, undef, undef, undef, undef, undef, undef, undef, undef, undef, undef, undef, undef, undef], defers := [] } W := by
    intro b24 b25 b1 b29 W hE hX hb
    subst hO
    refine rg_two (i := 0) (j := 4) (by kernel_rfl) (rg_step rfl (by rfl) (fun K hK => ?_)) (rg_step rfl (by rfl) (fun K hK => ?_))
    · go_simp
      refine hK.out _ _ ?_ (fun hHeld2 => ?_)
      · exact ext_alloc hE _
      clear hK K
      try simp only [Act.put, List.setIfInBounds_toArray, List.set_cons_zero, List.set_cons_succ]
      exact rg_list (by kernel_rfl) (n017_2.out _ _ _ 0 _ (ext_alloc hE _) (hX.ext (ext_alloc (ext_refl W) _)) hb)
    · go_simp
      refine (cuf_any 100 200 _).mono ?_
      rintro e W2 ⟨rfl, B⟩
      go_wp2_with fail
      refine hK.out _ _ ?_ (fun hHeld2 => ?_)
      · exact ext_trans hE B
      clear hK K
      try simp only [Act.put, List.setIfInBounds_toArray, List.set_cons_zero, List.set_cons_succ]
      exact rg_list (by kernel_rfl) (n17_3.out 0 _ _ 0 _ (ext_trans hE B) (hX.ext B) hb)
  replace n17_2 := Lib.hid n17_2
  have n017_1 : ∀ (b24 b25 b1 b29 : Nat) (W : World), Below w.heap.size w W → Blk W b1 [.slice none 0 0, .slice none 0 0, .slice none 0 0, .slice none 0 0, .slice none 0 0, .slice none 0 0, .slice none 0 0, .slice none 0 0] → w.heap.size ≤ b1 → WT Try.prog .any OPS Q7 8 (fun w' => Below w.heap.size w w') 5 #[true, true, true, false, false, false, false, true, false] { tmps := #[.bool false, .pointer (some ⟨b1, 0, none⟩), undef, undef, undef, undef, undef, undef, undef, undef, undef, undef, undef, undef, undef, undef, undef, undef, undef, undef, undef, undef, undef, undef, .slice (some ⟨b24, 0, none⟩) 2 2, .slice (some ⟨b25, 0, none⟩) 1 1, .agg #[.int .i64 1, .string ⟨#[]⟩, .string ⟨#[]⟩, .int .i64 0, .int .i64 0, .int .i64 0, .int .i64 0, .int .i64 800], undef, undef, undef, undef, undef, undef, undef, undef, undef, undef, undef, undef, undef, undef, undef, undef, undef, undef, undef, undef, undef, undef, undef, undef, undef, undef, undef, undef, undef, undef, undef, undef, undef, undef, undef, undef, undef, undef, undef, undef, undef, undef, undef, undef, undef, undef, undef, undef, undef, undef, undef, undef, undef, undef, undef, undef, undef, undef, undef, undef, undef, undef, undef, undef, undef, undef, undef, undef, undef, undef, undef, undef, undef, undef, undef, undef, undef, undef, undef, undef, undef, undef, undef, undef, undef, undef, undef, undef, undef, undef, undef, undef, undef, undef, undef, undef, undef, undef, undef, undef, undef, undef, undef, undef, undef, undef, undef, undef, undef, undef, undef, undef, undef, undef, undef, undef, undef, undef, undef, undef, undef, undef, undef, undef, undef, undef, undef, undef, undef, undef, undef, undef, undef, undef, undef, undef, undef, undef, undef, undef, undef, undef, undef, undef, undef, undef, undef, undef, undef, undef, undef, undef, undef, undef, undef], defers := [] } W := by
    intro b24 b25 b1 b29 W hE hX hb
    subst hO
    refine rg_one (i := 3) (by kernel_rfl) (rg_step rfl (by rfl) (fun K hK => ?_))
    · go_simp
      refine (cuf_any 700 1440 _).mono ?_
      rintro e W2 ⟨rfl, B⟩
      go_wp2_with fail
      refine hK.out _ _ ?_ (fun hHeld2 => ?_)
      · exact ext_trans hE B
      clear hK K
      try simp only [Act.put, List.setIfInBounds_toArray, List.set_cons_zero, List.set_cons_succ]
      exact rg_list (by kernel_rfl) (n017_2.out _ _ _ 0 _ (ext_trans hE B) (hX.ext B) hb)
  replace n017_1 := Lib.hid n017_1
  have n_3 : ∀ (b24 b25 b1 b29 : Nat) (W : World), Below w.heap.size w W → WT Try.prog .any OPS Q7 8 (fun w' => Below w.heap.size w w') 6 #[false, false, true, true, true, false, false, false, false] { tmps := #[.bool false, undef, undef, undef, undef, undef, undef, undef, undef, undef, undef, undef, undef, undef, undef, undef, undef, undef, undef, undef, undef, undef, undef, undef, undef, undef, .agg #[.int .i64 1, .string ⟨#[]⟩, .string ⟨#[]⟩, .int .i64 0, .int .i64 0, .int .i64 0, .int .i64 0, .int .i64 800], .agg #[.int .i64 1, .string ⟨#[]⟩, .string ⟨#[]⟩, .int .i64 0, .int .i64 0, .int .i64 0, .int .i64 700, .int .i64 1440], .agg #[.int .i64 1, .string ⟨#[]⟩, .string ⟨#[]⟩, .int .i64 0, .int .i64 0, .int .i64 0, .int .i64 100, .int .i64 200], undef, undef, undef, undef, undef, undef, undef, undef, undef, undef, undef, undef, undef, undef, undef, undef, undef, undef, undef, undef, undef, undef, undef, undef, undef, undef, undef, undef, undef, undef, undef, undef, undef, undef, undef, undef, undef, undef, undef, undef, undef, undef, undef, undef, undef, undef, undef, undef, undef, undef, undef, undef, undef, undef, undef, undef, undef, undef, undef, undef, undef, undef, undef, undef, undef, undef, undef, undef, undef, undef, undef, undef, undef, undef, undef, undef, undef, undef, undef, undef, undef, undef, undef, undef, undef, undef, undef, undef, undef, undef, undef, undef, undef, undef, undef, undef, undef, undef, undef, undef, undef, undef, undef, undef, undef, undef, undef, undef, undef, undef, undef, undef, undef, undef, undef, undef, undef, undef, undef, undef, undef, undef, undef, undef, undef, undef, undef, undef, undef, undef, undef, undef, undef, undef, undef, undef, undef, undef, undef, undef, undef, undef, undef, undef, undef, undef, undef, undef, undef, undef, undef, undef, undef], defers := [] } W := by
    intro b24 b25 b1 b29 W hE
    subst hO
    refine rg_four (i := 0) (j := 1) (m := 5) (n := 7) (by kernel_rfl) (rg_step rfl (by rfl) (fun K hK => ?_)) (rg_step rfl (by rfl) (fun K hK => ?_)) (rg_step rfl (by rfl) (fun K hK => ?_)) (rg_step rfl (by rfl) (fun K hK => ?_))
    · go_simp
      refine hK.out _ _ ?_ (fun hHeld2 => ?_)
      · exact ext_alloc hE _
      clear hK K
      try simp only [Act.put, List.setIfInBounds_toArray, List.set_cons_zero, List.set_cons_succ]
      exact rg_list (by kernel_rfl) (n0_3.out _ 0 0 0 _ (ext_alloc hE _))
    · go_simp
      refine hK.out _ _ ?_ (fun hHeld2 => ?_)
      · exact ext_alloc hE _
      clear hK K
      try simp only [Act.put, List.setIfInBounds_toArray, List.set_cons_zero, List.set_cons_succ]
      exact rg_list (by kernel_rfl) (n1_3.out 0 _ 0 0 _ (ext_alloc hE _))
    · go_simp
      refine hK.out _ _ ?_ (fun hHeld2 => ?_)
      · exact ext_alloc hE _
      clear hK K
      try simp only [Act.put, List.setIfInBounds_toArray, List.set_cons_zero, List.set_cons_succ]
      exact rg_list (by kernel_rfl) (n_4.out 0 0 0 _ _ (ext_alloc hE _) (slc_litH W exL #[.int .i64 1, .string ⟨#[]⟩, .string ⟨#[]⟩, .int .i64 0, .int .i64 0, .int .i64 0, .int .i64 0, .int .i64 800, .int .i64 1, .string ⟨#[]⟩, .string ⟨#[]⟩, .int .i64 0, .int .i64 0, .int .i64 0, .int .i64 700, .int .i64 1440, .int .i64 1, .string ⟨#[]⟩, .string ⟨#[]⟩, .int .i64 0, .int .i64 0, .int .i64 0, .int .i64 100, .int .i64 200] 42 (enc := Ru.cells) (sz := 8) (fun _ => rfl) rfl W.heap.size rfl) (fun _ c o s e => by cases e; simp))
    · go_simp
      refine hK.out _ _ ?_ (fun hHeld2 => ?_)
      · exact ext_alloc hE _
      clear hK K
      try simp only [Act.put, List.setIfInBounds_toArray, List.set_cons_zero, List.set_cons_succ]
      exact rg_list (by kernel_rfl) (n7_3.out 0 0 _ 0 _ (ext_alloc hE _) (Blk.newH W [.slice none 0 0, .slice none 0 0, .slice none 0 0, .slice none 0 0, .slice none 0 0, .slice none 0 0, .slice none 0 0, .slice none 0 0] 31 _ rfl) hE.size)
  replace n_3 := Lib.hid n_3
  have n0_2 : ∀ (b24 b25 b1 b29 : Nat) (W : World), Below w.heap.size w W → WT Try.prog .any OPS Q7 8 (fun w' => Below w.heap.size w w') 6 #[true, false, true, true, false, false, false, false, false] { tmps := #[.bool false, undef, undef, undef, undef, undef, undef, undef, undef, undef, undef, undef, undef, undef, undef, undef, undef, undef, undef, undef, undef, undef, undef, undef, .slice (some ⟨b24, 0, none⟩) 2 2, undef, .agg #[.int .i64 1, .string ⟨#[]⟩, .string ⟨#[]⟩, .int .i64 0, .int .i64 0, .int .i64 0, .int .i64 0, .int .i64 800], .agg #[.int .i64 1, .string ⟨#[]⟩, .string ⟨#[]⟩, .int .i64 0, .int .i64 0, .int .i64 0, .int .i64 700, .int .i64 1440], undef, undef, undef, undef, undef, undef, undef, undef, undef, undef, undef, undef, undef, undef, undef, undef, undef, undef, undef, undef, undef, undef, undef, undef, undef, undef, undef, undef, undef, undef, undef, undef, undef, undef, undef, undef, undef, undef, undef, undef, undef, undef, undef, undef, undef, undef, undef, undef, undef, undef, undef, undef, undef, undef, undef, undef, undef, undef, undef, undef, undef, undef, undef, undef, undef, undef, undef, undef, undef, undef, undef, undef, undef, undef, undef, undef, undef, undef, undef, undef, undef, undef, undef, undef, undef, undef, undef, undef, undef, undef, undef, undef, undef, undef, undef, undef, undef, undef, undef, undef, undef, undef, undef, undef, undef, undef, undef, undef, undef, undef, undef, undef, undef, undef, undef, undef, undef, undef, undef, undef, undef, undef, undef, undef, undef, undef, undef, undef, undef, undef, undef, undef, undef, undef, undef, undef, undef, undef, undef, undef, undef, undef, undef, undef, undef, undef, undef, undef, undef, undef, undef, undef, undef, undef], defers := [] } W := by
    intro b24 b25 b1 b29 W hE
    subst hO
    refine rg_three (i := 1) (j := 4) (m := 7) (by kernel_rfl) (rg_step rfl (by rfl) (fun K hK => ?_)) (rg_step rfl (by rfl) (fun K hK => ?_)) (rg_step rfl (by rfl) (fun K hK => ?_))
    · go_simp
      refine hK.out _ _ ?_ (fun hHeld2 => ?_)
      · exact ext_alloc hE _
      clear hK K
      try simp only [Act.put, List.setIfInBounds_toArray, List.set_cons_zero, List.set_cons_succ]
      exact rg_list (by kernel_rfl) (n01_2.out _ _ 0 0 _ (ext_alloc hE _))
    · go_simp
      refine (cuf_any 100 200 _).mono ?_
      rintro e W2 ⟨rfl, B⟩
      go_wp2_with fail
      refine hK.out _ _ ?_ (fun hHeld2 => ?_)
      · exact ext_trans hE B
      clear hK K
      try simp only [Act.put, List.setIfInBounds_toArray, List.set_cons_zero, List.set_cons_succ]
      exact rg_list (by kernel_rfl) (n0_3.out _ 0 0 0 _ (ext_trans hE B))
    · go_simp
      refine hK.out _ _ ?_ (fun hHeld2 => ?_)
      · exact ext_alloc hE _
      clear hK K
      try simp only [Act.put, List.setIfInBounds_toArray, List.set_cons_zero, List.set_cons_succ]
      exact rg_list (by kernel_rfl) (n07_2.out _ 0 _ 0 _ (ext_alloc hE _) (Blk.newH W [.slice none 0 0, .slice none 0 0, .slice none 0 0, .slice none 0 0, .slice none 0 0, .slice none 0 0, .slice none 0 0, .slice none 0 0] 31 _ rfl) hE.size)
  replace n0_2 := Lib.hid n0_2
  have n1_2 : ∀ (b24 b25 b1 b29 : Nat) (W : World), Below w.heap.size w W → WT Try.prog .any OPS Q7 8 (fun w' => Below w.heap.size w w') 6 #[false, true, true, true, false, false, false, false, false] { tmps := #[.bool false, undef, undef, undef, undef, undef, undef, undef, undef, undef, undef, undef, undef, undef, undef, undef, undef, undef, undef, undef, undef, undef, undef, undef, undef, .slice (some ⟨b25, 0, none⟩) 1 1, .agg #[.int .i64 1, .string ⟨#[]⟩, .string ⟨#[]⟩, .int .i64 0, .int .i64 0, .int .i64 0, .int .i64 0, .int .i64 800], .agg #[.int .i64 1, .string ⟨#[]⟩, .string ⟨#[]⟩, .int .i64 0, .int .i64 0, .int .i64 0, .int .i64 700, .int .i64 1440], undef, undef, undef, undef, undef, undef, undef, undef, undef, undef, undef, undef, undef, undef, undef, undef, undef, undef, undef, undef, undef, undef, undef, undef, undef, undef, undef, undef, undef, undef, undef, undef, undef, undef, undef, undef, undef, undef, undef, undef, undef, undef, undef, undef, undef, undef, undef, undef, undef, undef, undef, undef, undef, undef, undef, undef, undef, undef, undef, undef, undef, undef, undef, undef, undef, undef, undef, undef, undef, undef, undef, undef, undef, undef, undef, undef, undef, undef, undef, undef, undef, undef, undef, undef, undef, undef, undef, undef, undef, undef, undef, undef, undef, undef, undef, undef, undef, undef, undef, undef, undef, undef, undef, undef, undef, undef, undef, undef, undef, undef, undef, undef, undef, undef, undef, undef, undef, undef, undef, undef, undef, undef, undef, undef, undef, undef, undef, undef, undef, undef, undef, undef, undef, undef, undef, undef, undef, undef, undef, undef, undef, undef, undef, undef, undef, undef, undef, undef, undef, undef, undef, undef, undef, undef], defers := [] } W := by
    intro b24 b25 b1 b29 W hE
    subst hO
    refine rg_three (i := 0) (j := 4) (m := 7) (by kernel_rfl) (rg_step rfl (by rfl) (fun K hK => ?_)) (rg_step rfl (by rfl) (fun K hK => ?_)) (rg_step rfl (by rfl) (fun K hK => ?_))
    · go_simp
      refine hK.out _ _ ?_ (fun hHeld2 => ?_)
      · exact ext_alloc hE _
      clear hK K
      try simp only [Act.put, List.setIfInBounds_toArray, List.set_cons_zero, List.set_cons_succ]
      exact rg_list (by kernel_rfl) (n01_2.out _ _ 0 0 _ (ext_alloc hE _))
    · go_simp
      refine (cuf_any 100 200 _).mono ?_
      rintro e W2 ⟨rfl, B⟩
      go_wp2_with fail
      refine hK.out _ _ ?_ (fun hHeld2 => ?_)
      · exact ext_trans hE B
      clear hK K
      try simp only [Act.put, List.setIfInBounds_toArray, List.set_cons_zero, List.set_cons_succ]
      exact rg_list (by kernel_rfl) (n1_3.out 0 _ 0 0 _ (ext_trans hE B))
    · go_simp
      refine hK.out _ _ ?_ (fun hHeld2 => ?_)
      · exact ext_alloc hE _
      clear hK K
      try simp only [Act.put, List.setIfInBounds_toArray, List.set_cons_zero, List.set_cons_succ]
      exact rg_list (by kernel_rfl) (n17_2.out 0 _ _ 0 _ (ext_alloc hE _) (Blk.newH W [.slice none 0 0, .slice none 0 0, .slice none 0 0, .slice none 0 0, .slice none 0 0, .slice none 0 0, .slice none 0 0, .slice none 0 0] 31 _ rfl) hE.size)
  replace n1_2 := Lib.hid n1_2
  have n7_2 : ∀ (b24 b25 b1 b29 : Nat) (W : World), Below w.heap.size w W → Blk W b1 [.slice none 0 0, .slice none 0 0, .slice none 0 0, .slice none 0 0, .slice none 0 0, .slice none 0 0, .slice none 0 0, .slice none 0 0] → w.heap.size ≤ b1 → WT Try.prog .any OPS Q7 8 (fun w' => Below w.heap.size w w') 6 #[false, false, true, true, false, false, false, true, false] { tmps := #[.bool false, .pointer (some ⟨b1, 0, none⟩), undef, undef, undef, undef, undef, undef, undef, undef, undef, undef, undef, undef, undef, undef, undef, undef, undef, undef, undef, undef, undef, undef, undef, undef, .agg #[.int .i64 1, .string ⟨#[]⟩, .string ⟨#[]⟩, .int .i64 0, .int .i64 0, .int .i64 0, .int .i64 0, .int .i64 800], .agg #[.int .i64 1, .string ⟨#[]⟩, .string ⟨#[]⟩, .int .i64 0, .int .i64 0, .int .i64 0, .int .i64 700, .int .i64 1440], undef, undef, undef, undef, undef, undef, undef, undef, undef, undef, undef, undef, undef, undef, undef, undef, undef, undef, undef, undef, undef, undef, undef, undef, undef, undef, undef, undef, undef, undef, undef, undef, undef, undef, undef, undef, undef, undef, undef, undef, undef, undef, undef, undef, undef, undef, undef, undef, undef, undef, undef, undef, undef, undef, undef, undef, undef, undef, undef, undef, undef, undef, undef, undef, undef, undef, undef, undef, undef, undef, undef, undef, undef, undef, undef, undef, undef, undef, undef, undef, undef, undef, undef, undef, undef, undef, undef, undef, undef, undef, undef, undef, undef, undef, undef, undef, undef, undef, undef, undef, undef, undef, undef, undef, undef, undef, undef, undef, undef, undef, undef, undef, undef, undef, undef, undef, undef, undef, undef, undef, undef, undef, undef, undef, undef, undef, undef, undef, undef, undef, undef, undef, undef, undef, undef, undef, undef, undef, undef, undef, undef, undef, undef, undef, undef, undef, undef, undef, undef, undef, undef, undef, undef, undef], defers := [] } W := by
    intro b24 b25 b1 b29 W hE hX hb
    subst hO
    refine rg_three (i := 0) (j := 1) (m := 4) (by kernel_rfl) (rg_step rfl (by rfl) (fun K hK => ?_)) (rg_step rfl (by rfl) (fun K hK => ?_)) (rg_step rfl (by rfl) (fun K hK => ?_))
    · go_simp
      refine hK.out _ _ ?_ (fun hHeld2 => ?_)
      · exact ext_alloc hE _
      clear hK K
      try simp only [Act.put, List.setIfInBounds_toArray, List.set_cons_zero, List.set_cons_succ]
      exact rg_list (by kernel_rfl) (n07_2.out _ 0 _ 0 _ (ext_alloc hE _) (hX.ext (ext_alloc (ext_refl W) _)) hb)
    · go_simp
      refine hK.out _ _ ?_ (fun hHeld2 => ?_)
      · exact ext_alloc hE _
      clear hK K
      try simp only [Act.put, List.setIfInBounds_toArray, List.set_cons_zero, List.set_cons_succ]
      exact rg_list (by kernel_rfl) (n17_2.out 0 _ _ 0 _ (ext_alloc hE _) (hX.ext (ext_alloc (ext_refl W) _)) hb)
    · go_simp
      refine (cuf_any 100 200 _).mono ?_
      rintro e W2 ⟨rfl, B⟩
      go_wp2_with fail
      refine hK.out _ _ ?_ (fun hHeld2 => ?_)
      · exact ext_trans hE B
      clear hK K
      try simp only [Act.put, List.setIfInBounds_toArray, List.set_cons_zero, List.set_cons_succ]
      exact rg_list (by kernel_rfl) (n7_3.out 0 0 _ 0 _ (ext_trans hE B) (hX.ext B) hb)
  replace n7_2 := Lib.hid n7_2
  have n01_1 : ∀ (b24 b25 b1 b29 : Nat) (W : World), Below w.heap.size w W → WT Try.prog .any OPS Q7 8 (fun w' => Below w.heap.size w w') 6 #[true, true, true, false, false, false, false, false, false] { tmps := #[.bool false, undef, undef, undef, undef, undef, undef, undef, undef, undef, undef, undef, undef, undef, undef, undef, undef, undef, undef, undef, undef, undef, undef, undef, .slice (some ⟨b24, 0, none⟩) 2 2, .slice (some ⟨b25, 0, none⟩) 1 1, .agg #[.int .i64 1, .string ⟨#[]⟩, .string ⟨#[]⟩, .int .i64 0, .int .i64 0, .int .i64 0, .int .i64 0, .int .i64 800], undef, undef, undef, undef, undef, undef, undef, undef, undef, undef, undef, undef, undef, undef, undef, undef, undef, undef, undef, undef, undef, undef, undef, undef, undef, undef, undef, undef, undef, undef, undef, undef, undef, undef, undef, undef, undef, undef, undef, undef, undef, undef, undef, undef, undef, undef, undef, undef, undef, undef, undef, undef, undef, undef, undef, undef, undef, undef, undef, undef, undef, undef, undef, undef, undef, undef, undef, undef, undef, undef, undef, undef, undef, undef, undef, undef, undef, undef, undef, undef, undef, undef, undef, undef, undef, undef, undef, undef, undef, undef, undef, undef, undef, undef, undef, undef, undef, undef, undef, undef, undef, undef, undef, undef, undef, undef, undef, undef, undef, undef, undef, undef, undef, undef, undef, undef, undef, undef, undef, undef, undef, undef, undef, undef, undef, undef, undef, undef, undef, undef, undef, undef, undef, undef, undef, undef, undef, undef, undef, undef, undef, undef, undef, undef, undef, undef, undef, undef, undef, undef, undef, undef, undef, undef, undef], defers := [] } W := by
    intro b24 b25 b1 b29 W hE
    subst hO
    refine rg_two (i := 3) (j := 7) (by kernel_rfl) (rg_step rfl (by rfl) (fun K hK => ?_)) (rg_step rfl (by rfl) (fun K hK => ?_))
    · go_simp
      refine (cuf_any 700 1440 _).mono ?_
      rintro e W2 ⟨rfl, B⟩
      go_wp2_with fail
      refine hK.out _ _ ?_ (fun hHeld2 => ?_)
      · exact ext_trans hE B
      clear hK K
      try simp only [Act.put, List.setIfInBounds_toArray, List.set_cons_zero, List.set_cons_succ]
      exact rg_list (by kernel_rfl) (n01_2.out _ _ 0 0 _ (ext_trans hE B))
    · go_simp
      refine hK.out _ _ ?_ (fun hHeld2 => ?_)
      · exact ext_alloc hE _
      clear hK K
      try simp only [Act.put, List.setIfInBounds_toArray, List.set_cons_zero, List.set_cons_succ]
      exact rg_list (by kernel_rfl) (n017_1.out _ _ _ 0 _ (ext_alloc hE _) (Blk.newH W [.slice none 0 0, .slice none 0 0, .slice none 0 0, .slice none 0 0, .slice none 0 0, .slice none 0 0, .slice none 0 0, .slice none 0 0] 31 _ rfl) hE.size)
  replace n01_1 := Lib.hid n01_1
  have n07_1 : ∀ (b24 b25 b1 b29 : Nat) (W : World), Below w.heap.size w W → Blk W b1 [.slice none 0 0, .slice none 0 0, .slice none 0 0, .slice none 0 0, .slice none 0 0, .slice none 0 0, .slice none 0 0, .slice none 0 0] → w.heap.size ≤ b1 → WT Try.prog .any OPS Q7 8 (fun w' => Below w.heap.size w w') 6 #[true, false, true, false, false, false, false, true, false] { tmps := #[.bool false, .pointer (some ⟨b1, 0, none⟩), undef, undef, undef, undef, undef, undef, undef, undef, undef, undef, undef, undef, undef, undef, undef, undef, undef, undef, undef, undef, undef, undef, .slice (some ⟨b24, 0, none⟩) 2 2, undef, .agg #[.int .i64 1, .string ⟨#[]⟩, .string ⟨#[]⟩, .int .i64 0, .int .i64 0, .int .i64 0, .int .i64 0, .int .i64 800], undef, undef, undef, undef, undef, undef, undef, undef, undef, undef, undef, undef, undef, undef, undef, undef, undef, undef, undef, undef, undef, undef, undef, undef, undef, undef, undef, undef, undef, undef, undef, undef, undef, undef, undef, undef, undef, undef, undef, undef, undef, undef, undef, undef, undef, undef, undef, undef, undef, undef, undef, undef, undef, undef, undef, undef, undef, undef, undef, undef, undef, undef, undef, undef, undef, undef, undef, undef, undef, undef, undef, undef, undef, undef, undef, undef, undef, undef, undef, undef, undef, undef, undef, undef, undef, undef, undef, undef, undef, undef, undef, undef, undef, undef, undef, undef, undef, undef, undef, undef, undef, undef, undef, undef, undef, undef, undef, undef, undef, undef, undef, undef, undef, undef, undef, undef, undef, undef, undef, undef, undef, undef, undef, undef, undef, undef, undef, undef, undef, undef, undef, undef, undef, undef, undef, undef, undef, undef, undef, undef, undef, undef, undef, undef, undef, undef, undef, undef, undef, undef, undef, undef, undef, undef, undef], defers := [] } W := by
    intro b24 b25 b1 b29 W hE hX hb
    subst hO
    refine rg_two (i := 1) (j := 3) (by kernel_rfl) (rg_step rfl (by rfl) (fun K hK => ?_)) (rg_step rfl (by rfl) (fun K hK => ?_))
    · go_simp
      refine hK.out _ _ ?_ (fun hHeld2 => ?_)
      · exact ext_alloc hE _
      clear hK K
      try simp only [Act.put, List.setIfInBounds_toArray, List.set_cons_zero, List.set_cons_succ]
      exact rg_list (by kernel_rfl) (n017_1.out _ _ _ 0 _ (ext_alloc hE _) (hX.ext (ext_alloc (ext_refl W) _)) hb)
    · go_simp
      refine (cuf_any 700 1440 _).mono ?_
      rintro e W2 ⟨rfl, B⟩
      go_wp2_with fail
      refine hK.out _ _ ?_ (fun hHeld2 => ?_)
      · exact ext_trans hE B
      clear hK K
      try simp only [Act.put, List.setIfInBounds_toArray, List.set_cons_zero, List.set_cons_succ]
      exact rg_list (by kernel_rfl) (n07_2.out _ 0 _ 0 _ (ext_trans hE B) (hX.ext B) hb)
  replace n07_1 := Lib.hid n07_1
  have n17_1 : ∀ (b24 b25 b1 b29 : Nat) (W : World), Below w.heap.size w W → Blk W b1 [.slice none 0 0, .slice none 0 0, .slice none 0 0, .slice none 0 0, .slice none 0 0, .slice none 0 0, .slice none 0 0, .slice none 0 0] → w.heap.size ≤ b1 → WT Try.prog .any OPS Q7 8 (fun w' => Below w.heap.size w w') 6 #[false, true, true, false, false, false, false, true, false] { tmps := #[.bool false, .pointer (some ⟨b1, 0, none⟩), undef, undef, undef, undef, undef, undef, undef, undef, undef, undef, undef, undef, undef, undef, undef, undef, undef, undef, undef, undef, undef, undef, undef, .slice (some ⟨b25, 0, none⟩) 1 1, .agg #[.int .i64 1, .string ⟨#[]⟩, .string ⟨#[]⟩, .int .i64 0, .int .i64 0, .int .i64 0, .int .i64 0, .int .i64 800], undef, undef, undef, undef, undef, undef, undef, undef, undef, undef, undef, undef, undef, undef, undef, undef, undef, undef, undef, undef, undef, undef, undef, undef, undef, undef, undef, undef, undef, undef, undef, undef, undef, undef, undef, undef, undef, undef, undef, undef, undef, undef, undef, undef, undef, undef, undef, undef, undef, undef, undef, undef, undef, undef, undef, undef, undef, undef, undef, undef, undef, undef, undef, undef, undef, undef, undef, undef, undef, undef, undef, undef, undef, undef, undef, undef, undef, undef, undef, undef, undef, undef, undef, undef, undef, undef, undef, undef, undef, undef, undef, undef, undef, undef, undef, undef, undef, undef, undef, undef, undef, undef, undef, undef, undef, undef, undef, undef, undef, undef, undef, undef, undef, undef, undef, undef, undef, undef, undef, undef, undef, undef, undef, undef, undef, undef, undef, undef, undef, undef, undef, undef, undef, undef, undef, undef, undef, undef, undef, undef, undef, undef, undef, undef, undef, undef, undef, undef, undef, undef, undef, undef, undef, undef, undef], defers := [] } W := by
    intro b24 b25 b1 b29 W hE hX hb
    subst hO
    refine rg_two (i := 0) (j := 3) (by kernel_rfl) (rg_step rfl (by rfl) (fun K hK => ?_)) (rg_step rfl (by rfl) (fun K hK => ?_))
    · go_simp
      refine hK.out _ _ ?_ (fun hHeld2 => ?_)
      · exact ext_alloc hE _
      clear hK K
      try simp only [Act.put, List.setIfInBounds_toArray, List.set_cons_zero, List.set_cons_succ]
      exact rg_list (by kernel_rfl) (n017_1.out _ _ _ 0 _ (ext_alloc hE _) (hX.ext (ext_alloc (ext_refl W) _)) hb)
    · go_simp
      refine (cuf_any 700 1440 _).mono ?_
      rintro e W2 ⟨rfl, B⟩
      go_wp2_with fail
      refine hK.out _ _ ?_ (fun hHeld2 => ?_)
      · exact ext_trans hE B
      clear hK K
      try simp only [Act.put, List.setIfInBounds_toArray, List.set_cons_zero, List.set_cons_succ]
      exact rg_list (by kernel_rfl) (n17_2.out 0 _ _ 0 _ (ext_trans hE B) (hX.ext B) hb)
  replace n17_1 := Lib.hid n17_1
  have n017_0 : ∀ (b24 b25 b1 b29 : Nat) (W : World), Below w.heap.size w W → Blk W b1 [.slice none 0 0, .slice none 0 0, .slice none 0 0, .slice none 0 0, .slice none 0 0, .slice none 0 0, .slice none 0 0, .slice none 0 0] → w.heap.size ≤ b1 → WT Try.prog .any OPS Q7 8 (fun w' => Below w.heap.size w w') 6 #[true, true, false, false, false, false, false, true, false] { tmps := #[.bool false, .pointer (some ⟨b1, 0, none⟩), undef, undef, undef, undef, undef, undef, undef, undef, undef, undef, undef, undef, undef, undef, undef, undef, undef, undef, undef, undef, undef, undef, .slice (some ⟨b24, 0, none⟩) 2 2, .slice (some ⟨b25, 0, none⟩) 1 1, undef, undef, undef, undef, undef, undef, undef, undef, undef, undef, undef, undef, undef, undef, undef, undef, undef, undef, undef, undef, undef, undef, undef, undef, undef, undef, undef, undef, undef, undef, undef, undef, undef, undef, undef, undef, undef, undef, undef, undef, undef, undef, undef, undef, undef, undef, undef, undef, undef, undef, undef, undef, undef, undef, undef, undef, undef, undef, undef, undef, undef, undef, undef, undef, undef, undef, undef, undef, undef, undef, undef, undef, undef, undef, undef, undef, undef, undef, undef, undef, undef, undef, undef, undef, undef, undef, undef, undef, undef, undef, undef, undef, undef, undef, undef, undef, undef, undef, undef, undef, undef, undef, undef, undef, undef, undef, undef, undef, undef, undef, undef, undef, undef, undef, undef, undef, undef, undef, undef, undef, undef, undef, undef, undef, undef, undef, undef, undef, undef, undef, undef, undef, undef, undef, undef, undef, undef, undef, undef, undef, undef, undef, undef, undef, undef, undef, undef, undef, undef, undef, undef, undef, undef, undef, undef, undef], defers := [] } W := by
    intro b24 b25 b1 b29 W hE hX hb
    subst hO
    refine rg_one (i := 2) (by kernel_rfl) (rg_step rfl (by rfl) (fun K hK => ?_))
    · go_simp
      refine (cuf_any 0 800 _).mono ?_
      rintro e W2 ⟨rfl, B⟩
      go_wp2_with fail
      refine hK.out _ _ ?_ (fun hHeld2 => ?_)
      · exact ext_trans hE B
      clear hK K
      try simp only [Act.put, List.setIfInBounds_toArray, List.set_cons_zero, List.set_cons_succ]
      exact rg_list (by kernel_rfl) (n017_1.out _ _ _ 0 _ (ext_trans hE B) (hX.ext B) hb)
  replace n017_0 := Lib.hid n017_0
  have n_2 : ∀ (b24 b25 b1 b29 : Nat) (W : World), Below w.heap.size w W → WT Try.prog .any OPS Q7 8 (fun w' => Below w.heap.size w w') 7 #[false, false, true, true, false, false, false, false, false] { tmps := #[.bool false, undef, undef, undef, undef, undef, undef, undef, undef, undef, undef, undef, undef, undef, undef, undef, undef, undef, undef, undef, undef, undef, undef, undef, undef, undef, .agg #[.int .i64 1, .string ⟨#[]⟩, .string ⟨#[]⟩, .int .i64 0, .int .i64 0, .int .i64 0, .int .i64 0, .int .i64 800], .agg #[.int .i64 1, .string ⟨#[]⟩, .string ⟨#[]⟩, .int .i64 0, .int .i64 0, .int .i64 0, .int .i64 700, .int .i64 1440], undef, undef, undef, undef, undef, undef, undef, undef, undef, undef, undef, undef, undef, undef, undef, undef, undef, undef, undef, undef, undef, undef, undef, undef, undef, undef, undef, undef, undef, undef, undef, undef, undef, undef, undef, undef, undef, undef, undef, undef, undef, undef, undef, undef, undef, undef, undef, undef, undef, undef, undef, undef, undef, undef, undef, undef, undef, undef, undef, undef, undef, undef, undef, undef, undef, undef, undef, undef, undef, undef, undef, undef, undef, undef, undef, undef, undef, undef, undef, undef, undef, undef, undef, undef, undef, undef, undef, undef, undef, undef, undef, undef, undef, undef, undef, undef, undef, undef, undef, undef, undef, undef, undef, undef, undef, undef, undef, undef, undef, undef, undef, undef, undef, undef, undef, undef, undef, undef, undef, undef, undef, undef, undef, undef, undef, undef, undef, undef, undef, undef, undef, undef, undef, undef, undef, undef, undef, undef, undef, undef, undef, undef, undef, undef, undef, undef, undef, undef, undef, undef, undef, undef, undef, undef], defers := [] } W := by
    intro b24 b25 b1 b29 W hE
    subst hO
    refine rg_four (i := 0) (j := 1) (m := 4) (n := 7) (by kernel_rfl) (rg_step rfl (by rfl) (fun K hK => ?_)) (rg_step rfl (by rfl) (fun K hK => ?_)) (rg_step rfl (by rfl) (fun K hK => ?_)) (rg_step rfl (by rfl) (fun K hK => ?_))
    · go_simp
      refine hK.out _ _ ?_ (fun hHeld2 => ?_)
      · exact ext_alloc hE _
      clear hK K
      try simp only [Act.put, List.setIfInBounds_toArray, List.set_cons_zero, List.set_cons_succ]
      exact rg_list (by kernel_rfl) (n0_2.out _ 0 0 0 _ (ext_alloc hE _))
    · go_simp
      refine hK.out _ _ ?_ (fun hHeld2 => ?_)
      · exact ext_alloc hE _
      clear hK K
      try simp only [Act.put, List.setIfInBounds_toArray, List.set_cons_zero, List.set_cons_succ]
      exact rg_list (by kernel_rfl) (n1_2.out 0 _ 0 0 _ (ext_alloc hE _))
    · go_simp
      refine (cuf_any 100 200 _).mono ?_
      rintro e W2 ⟨rfl, B⟩
      go_wp2_with fail
      refine hK.out _ _ ?_ (fun hHeld2 => ?_)
      · exact ext_trans hE B
      clear hK K
      try simp only [Act.put, List.setIfInBounds_toArray, List.set_cons_zero, List.set_cons_succ]
      exact rg_list (by kernel_rfl) (n_3.out 0 0 0 0 _ (ext_trans hE B))
    · go_simp
      refine hK.out _ _ ?_ (fun hHeld2 => ?_)
      · exact ext_alloc hE _
      clear hK K
      try simp only [Act.put, List.setIfInBounds_toArray, List.set_cons_zero, List.set_cons_succ]
      exact rg_list (by kernel_rfl) (n7_2.out 0 0 _ 0 _ (ext_alloc hE _) (Blk.newH W [.slice none 0 0, .slice none 0 0, .slice none 0 0, .slice none 0 0, .slice none 0 0, .slice none 0 0, .slice none 0 0, .slice none 0 0] 31 _ rfl) hE.size)
  replace n_2 := Lib.hid n_2
  have n0_1 : ∀ (b24 b25 b1 b29 : Nat) (W : World), Below w.heap.size w W → WT Try.prog .any OPS Q7 8 (fun w' => Below w.heap.size w w') 7 #[true, false, true, false, false, false, false, false, false] { tmps := #[.bool false, undef, undef, undef, undef, undef, undef, undef, undef, undef, undef, undef, undef, undef, undef, undef, undef, undef, undef, undef, undef, undef, undef, undef, .slice (some ⟨b24, 0, none⟩) 2 2, undef, .agg #[.int .i64 1, .string ⟨#[]⟩, .string ⟨#[]⟩, .int .i64 0, .int .i64 0, .int .i64 0, .int .i64 0, .int .i64 800], undef, undef, undef, undef, undef, undef, undef, undef, undef, undef, undef, undef, undef, undef, undef, undef, undef, undef, undef, undef, undef, undef, undef, undef, undef, undef, undef, undef, undef, undef, undef, undef, undef, undef, undef, undef, undef, undef, undef, undef, undef, undef, undef, undef, undef, undef, undef, undef, undef, undef, undef, undef, undef, undef, undef, undef, undef, undef, undef, undef, undef, undef, undef, undef, undef, undef, undef, undef, undef, undef, undef, undef, undef, undef, undef, undef, undef, undef, undef, undef, undef, undef, undef, undef, undef, undef, undef, undef, undef, undef, undef, undef, undef, undef, undef, undef, undef, undef, undef, undef, undef, undef, undef, undef, undef, undef, undef, undef, undef, undef, undef, undef, undef, undef, undef, undef, undef, undef, undef, undef, undef, undef, undef, undef, undef, undef, undef, undef, undef, undef, undef, undef, undef, undef, undef, undef, undef, undef, undef, undef, undef, undef, undef, undef, undef, undef, undef, undef, undef, undef, undef, undef, undef, undef, undef], defers := [] } W := by
    intro b24 b25 b1 b29 W hE
    subst hO
    refine rg_three (i := 1) (j := 3) (m := 7) (by kernel_rfl) (rg_step rfl (by rfl) (fun K hK => ?_)) (rg_step rfl (by rfl) (fun K hK => ?_)) (rg_step rfl (by rfl) (fun K hK => ?_))
    · go_simp
      refine hK.out _ _ ?_ (fun hHeld2 => ?_)
      · exact ext_alloc hE _
      clear hK K
      try simp only [Act.put, List.setIfInBounds_toArray, List.set_cons_zero, List.set_cons_succ]
      exact rg_list (by kernel_rfl) (n01_1.out _ _ 0 0 _ (ext_alloc hE _))
    · go_simp
      refine (cuf_any 700 1440 _).mono ?_
      rintro e W2 ⟨rfl, B⟩
      go_wp2_with fail
      refine hK.out _ _ ?_ (fun hHeld2 => ?_)
      · exact ext_trans hE B
      clear hK K
      try simp only [Act.put, List.setIfInBounds_toArray, List.set_cons_zero, List.set_cons_succ]
      exact rg_list (by kernel_rfl) (n0_2.out _ 0 0 0 _ (ext_trans hE B))
    · go_simp
      refine hK.out _ _ ?_ (fun hHeld2 => ?_)
      · exact ext_alloc hE _
      clear hK K
      try simp only [Act.put, List.setIfInBounds_toArray, List.set_cons_zero, List.set_cons_succ]
      exact rg_list (by kernel_rfl) (n07_1.out _ 0 _ 0 _ (ext_alloc hE _) (Blk.newH W [.slice none 0 0, .slice none 0 0, .slice none 0 0, .slice none 0 0, .slice none 0 0, .slice none 0 0, .slice none 0 0, .slice none 0 0] 31 _ rfl) hE.size)
  replace n0_1 := Lib.hid n0_1
  have n1_1 : ∀ (b24 b25 b1 b29 : Nat) (W : World), Below w.heap.size w W → WT Try.prog .any OPS Q7 8 (fun w' => Below w.heap.size w w') 7 #[false, true, true, false, false, false, false, false, false] { tmps := #[.bool false, undef, undef, undef, undef, undef, undef, undef, undef, undef, undef, undef, undef, undef, undef, undef, undef, undef, undef, undef, undef, undef, undef, undef, undef, .slice (some ⟨b25, 0, none⟩) 1 1, .agg #[.int .i64 1, .string ⟨#[]⟩, .string ⟨#[]⟩, .int .i64 0, .int .i64 0, .int .i64 0, .int .i64 0, .int .i64 800], undef, undef, undef, undef, undef, undef, undef, undef, undef, undef, undef, undef, undef, undef, undef, undef, undef, undef, undef, undef, undef, undef, undef, undef, undef, undef, undef, undef, undef, undef, undef, undef, undef, undef, undef, undef, undef, undef, undef, undef, undef, undef, undef, undef, undef, undef, undef, undef, undef, undef, undef, undef, undef, undef, undef, undef, undef, undef, undef, undef, undef, undef, undef, undef, undef, undef, undef, undef, undef, undef, undef, undef, undef, undef, undef, undef, undef, undef, undef, undef, undef, undef, undef, undef, undef, undef, undef, undef, undef, undef, undef, undef, undef, undef, undef, undef, undef, undef, undef, undef, undef, undef, undef, undef, undef, undef, undef, undef, undef, undef, undef, undef, undef, undef, undef, undef, undef, undef, undef, undef, undef, undef, undef, undef, undef, undef, undef, undef, undef, undef, undef, undef, undef, undef, undef, undef, undef, undef, undef, undef, undef, undef, undef, undef, undef, undef, undef, undef, undef, undef, undef, undef, undef, undef, undef], defers := [] } W := by
    intro b24 b25 b1 b29 W hE
    subst hO
    refine rg_three (i := 0) (j := 3) (m := 7) (by kernel_rfl) (rg_step rfl (by rfl) (fun K hK => ?_)) (rg_step rfl (by rfl) (fun K hK => ?_)) (rg_step rfl (by rfl) (fun K hK => ?_))
    · go_simp
      refine hK.out _ _ ?_ (fun hHeld2 => ?_)
      · exact ext_alloc hE _
      clear hK K
      try simp only [Act.put, List.setIfInBounds_toArray, List.set_cons_zero, List.set_cons_succ]
      exact rg_list (by kernel_rfl) (n01_1.out _ _ 0 0 _ (ext_alloc hE _))
    · go_simp
      refine (cuf_any 700 1440 _).mono ?_
      rintro e W2 ⟨rfl, B⟩
      go_wp2_with fail
      refine hK.out _ _ ?_ (fun hHeld2 => ?_)
      · exact ext_trans hE B
      clear hK K
      try simp only [Act.put, List.setIfInBounds_toArray, List.set_cons_zero, List.set_cons_succ]
      exact rg_list (by kernel_rfl) (n1_2.out 0 _ 0 0 _ (ext_trans hE B))
    · go_simp
      refine hK.out _ _ ?_ (fun hHeld2 => ?_)
      · exact ext_alloc hE _
      clear hK K
      try simp only [Act.put, List.setIfInBounds_toArray, List.set_cons_zero, List.set_cons_succ]
      exact rg_list (by kernel_rfl) (n17_1.out 0 _ _ 0 _ (ext_alloc hE _) (Blk.newH W [.slice none 0 0, .slice none 0 0, .slice none 0 0, .slice none 0 0, .slice none 0 0, .slice none 0 0, .slice none 0 0, .slice none 0 0] 31 _ rfl) hE.size)
  replace n1_1 := Lib.hid n1_1
  have n7_1 : ∀ (b24 b25 b1 b29 : Nat) (W : World), Below w.heap.size w W → Blk W b1 [.slice none 0 0, .slice none 0 0, .slice none 0 0, .slice none 0 0, .slice none 0 0, .slice none 0 0, .slice none 0 0, .slice none 0 0] → w.heap.size ≤ b1 → WT Try.prog .any OPS Q7 8 (fun w' => Below w.heap.size w w') 7 #[false, false, true, false, false, false, false, true, false] { tmps := #[.bool false, .pointer (some ⟨b1, 0, none⟩), undef, undef, undef, undef, undef, undef, undef, undef, undef, undef, undef, undef, undef, undef, undef, undef, undef, undef, undef, undef, undef, undef, undef, undef, .agg #[.int .i64 1, .string ⟨#[]⟩, .string ⟨#[]⟩, .int .i64 0, .int .i64 0, .int .i64 0, .int .i64 0, .int .i64 800], undef, undef, undef, undef, undef, undef, undef, undef, undef, undef, undef, undef, undef, undef, undef, undef, undef, undef, undef, undef, undef, undef, undef, undef, undef, undef, undef, undef, undef, undef, undef, undef, undef, undef, undef, undef, undef, undef, undef, undef, undef, undef, undef, undef, undef, undef, undef, undef, undef, undef, undef, undef, undef, undef, undef, undef, undef, undef, undef, undef, undef, undef, undef, undef, undef, undef, undef, undef, undef, undef, undef, undef, undef, undef, undef, undef, undef, undef, undef, undef, undef, undef, undef, undef, undef, undef, undef, undef, undef, undef, undef, undef, undef, undef, undef, undef, undef, undef, undef, undef, undef, undef, undef, undef, undef, undef, undef, undef, undef, undef, undef, undef, undef, undef, undef, undef, undef, undef, undef, undef, undef, undef, undef, undef, undef, undef, undef, undef, undef, undef, undef, undef, undef, undef, undef, undef, undef, undef, undef, undef, undef, undef, undef, undef, undef, undef, undef, undef, undef, undef, undef, undef, undef, undef, undef], defers := [] } W := by
    intro b24 b25 b1 b29 W hE hX hb
    subst hO
    refine rg_three (i := 0) (j := 1) (m := 3) (by kernel_rfl) (rg_step rfl (by rfl) (fun K hK => ?_)) (rg_step rfl (by rfl) (fun K hK => ?_)) (rg_step rfl (by rfl) (fun K hK => ?_))
    · go_simp
      refine hK.out _ _ ?_ (fun hHeld2 => ?_)
      · exact ext_alloc hE _
      clear hK K
      try simp only [Act.put, List.setIfInBounds_toArray, List.set_cons_zero, List.set_cons_succ]
      exact rg_list (by kernel_rfl) (n07_1.out _ 0 _ 0 _ (ext_alloc hE _) (hX.ext (ext_alloc (ext_refl W) _)) hb)
    · go_simp
      refine hK.out _ _ ?_ (fun hHeld2 => ?_)
      · exact ext_alloc hE _
      clear hK K
      try simp only [Act.put, List.setIfInBounds_toArray, List.set_cons_zero, List.set_cons_succ]
      exact rg_list (by kernel_rfl) (n17_1.out 0 _ _ 0 _ (ext_alloc hE _) (hX.ext (ext_alloc (ext_refl W) _)) hb)
    · go_simp
      refine (cuf_any 700 1440 _).mono ?_
      rintro e W2 ⟨rfl, B⟩
      go_wp2_with fail
      refine hK.out _ _ ?_ (fun hHeld2 => ?_)
      · exact ext_trans hE B
      clear hK K
      try simp only [Act.put, List.setIfInBounds_toArray, List.set_cons_zero, List.set_cons_succ]
      exact rg_list (by kernel_rfl) (n7_2.out 0 0 _ 0 _ (ext_trans hE B) (hX.ext B) hb)
  replace n7_1 := Lib.hid n7_1
  have n01_0 : ∀ (b24 b25 b1 b29 : Nat) (W : World), Below w.heap.size w W → WT Try.prog .any OPS Q7 8 (fun w' => Below w.heap.size w w') 7 #[true, true, false, false, false, false, false, false, false] { tmps := #[.bool false, undef, undef, undef, undef, undef, undef, undef, undef, undef, undef, undef, undef, undef, undef, undef, undef, undef, undef, undef, undef, undef, undef, undef, .slice (some ⟨b24, 0, none⟩) 2 2, .slice (some ⟨b25, 0, none⟩) 1 1, undef, undef, undef, undef, undef, undef, undef, undef, undef, undef, undef, undef, undef, undef, undef, undef, undef, undef, undef, undef, undef, undef, undef, undef, undef, undef, undef, undef, undef, undef, undef, undef, undef, undef, undef, undef, undef, undef, undef, undef, undef, undef, undef, undef, undef, undef, undef, undef, undef, undef, undef, undef, undef, undef, undef, undef, undef, undef, undef, undef, undef, undef, undef, undef, undef, undef, undef, undef, undef, undef, undef, undef, undef, undef, undef, undef, undef, undef, undef, undef, undef, undef, undef, undef, undef, undef, undef, undef, undef, undef, undef, undef, undef, undef, undef, undef, undef, undef, undef, undef, undef, undef, undef, undef, undef, undef, undef, undef, undef, undef, undef, undef, undef, undef, undef, undef, undef, undef, undef, undef, undef, undef, undef, undef, undef, undef, undef, undef, undef, undef, undef, undef, undef, undef, undef, undef, undef, undef, undef, undef, undef, undef, undef, undef, undef, undef, undef, undef, undef, undef, undef, undef, undef, undef, undef, undef], defers := [] } W := by
    intro b24 b25 b1 b29 W hE
    subst hO
    refine rg_two (i := 2) (j := 7) (by kernel_rfl) (rg_step rfl (by rfl) (fun K hK => ?_)) (rg_step rfl (by rfl) (fun K hK => ?_))
    · go_simp
      refine (cuf_any 0 800 _).mono ?_
      rintro e W2 ⟨rfl, B⟩
      go_wp2_with fail
      refine hK.out _ _ ?_ (fun hHeld2 => ?_)
      · exact ext_trans hE B
      clear hK K
      try simp only [Act.put, List.setIfInBounds_toArray, List.set_cons_zero, List.set_cons_succ]
      exact rg_list (by kernel_rfl) (n01_1.out _ _ 0 0 _ (ext_trans hE B))
    · go_simp
      refine hK.out _ _ ?_ (fun hHeld2 => ?_)
      · exact ext_alloc hE _
      clear hK K
      try simp only [Act.put, List.setIfInBounds_toArray, List.set_cons_zero, List.set_cons_succ]
      exact rg_list (by kernel_rfl) (n017_0.out _ _ _ 0 _ (ext_alloc hE _) (Blk.newH W [.slice none 0 0, .slice none 0 0, .slice none 0 0, .slice none 0 0, .slice none 0 0, .slice none 0 0, .slice none 0 0, .slice none 0 0] 31 _ rfl) hE.size)
  replace n01_0 := Lib.hid n01_0
  have n07_0 : ∀ (b24 b25 b1 b29 : Nat) (W : World), Below w.heap.size w W → Blk W b1 [.slice none 0 0, .slice none 0 0, .slice none 0 0, .slice none 0 0, .slice none 0 0, .slice none 0 0, .slice none 0 0, .slice none 0 0] → w.heap.size ≤ b1 → WT Try.prog .any OPS Q7 8 (fun w' => Below w.heap.size w w') 7 #[true, false, false, false, false, false, false, true, false] { tmps := #[.bool false, .pointer (some ⟨b1, 0, none⟩), undef, undef, undef, undef, undef, undef, undef, undef, undef, undef, undef, undef, undef, undef, undef, undef, undef, undef, undef, undef, undef, undef, .slice (some ⟨b24, 0, none⟩) 2 2, undef, undef, undef, undef, undef, undef, undef, undef, undef, undef, undef, undef, undef, undef, undef, undef, undef, undef, undef, undef, undef, undef, undef, undef, undef, undef, undef, undef, undef, undef, undef, undef, undef, undef, undef, undef, undef, undef, undef, undef, undef, undef, undef, undef, undef, undef, undef, undef, undef, undef, undef, undef, undef, undef, undef, undef, undef, undef, undef, undef, undef, undef, undef, undef, undef, undef, undef, undef, undef, undef, undef, undef, undef, undef, undef, undef, undef, undef, undef, undef, undef, undef, undef, undef, undef, undef, undef, undef, undef, undef, undef, undef, undef, undef, undef, undef, undef, undef, undef, undef, undef, undef, undef, undef, undef, undef, undef, undef, undef, undef, undef, undef, undef, undef, undef, undef, undef, undef, undef, undef, undef, undef, undef, undef, undef, undef, undef, undef, undef, undef, undef, undef, undef, undef, undef, undef, undef, undef, undef, undef, undef, undef, undef, undef, undef, undef, undef, undef, undef, undef, undef, undef, undef, undef, undef, undef, undef], defers := [] } W := by
    intro b24 b25 b1 b29 W hE hX hb
    subst hO
    refine rg_two (i := 1) (j := 2) (by kernel_rfl) (rg_step rfl (by rfl) (fun K hK => ?_)) (rg_step rfl (by rfl) (fun K hK => ?_))
    · go_simp
      refine hK.out _ _ ?_ (fun hHeld2 => ?_)
      · exact ext_alloc hE _
      clear hK K
      try simp only [Act.put, List.setIfInBounds_toArray, List.set_cons_zero, List.set_cons_succ]
      exact rg_list (by kernel_rfl) (n017_0.out _ _ _ 0 _ (ext_alloc hE _) (hX.ext (ext_alloc (ext_refl W) _)) hb)
    · go_simp
      refine (cuf_any 0 800 _).mono ?_
      rintro e W2 ⟨rfl, B⟩
      go_wp2_with fail
      refine hK.out _ _ ?_ (fun hHeld2 => ?_)
      · exact ext_trans hE B
      clear hK K
      try simp only [Act.put, List.setIfInBounds_toArray, List.set_cons_zero, List.set_cons_succ]
      exact rg_list (by kernel_rfl) (n07_1.out _ 0 _ 0 _ (ext_trans hE B) (hX.ext B) hb)
  replace n07_0 := Lib.hid n07_0
  have n17_0 : ∀ (b24 b25 b1 b29 : Nat) (W : World), Below w.heap.size w W → Blk W b1 [.slice none 0 0, .slice none 0 0, .slice none 0 0, .slice none 0 0, .slice none 0 0, .slice none 0 0, .slice none 0 0, .slice none 0 0] → w.heap.size ≤ b1 → WT Try.prog .any OPS Q7 8 (fun w' => Below w.heap.size w w') 7 #[false, true, false, false, false, false, false, true, false] { tmps := #[.bool false, .pointer (some ⟨b1, 0, none⟩), undef, undef, undef, undef, undef, undef, undef, undef, undef, undef, undef, undef, undef, undef, undef, undef, undef, undef, undef, undef, undef, undef, undef, .slice (some ⟨b25, 0, none⟩) 1 1, undef, undef, undef, undef, undef, undef, undef, undef, undef, undef, undef, undef, undef, undef, undef, undef, undef, undef, undef, undef, undef, undef, undef, undef, undef, undef, undef, undef, undef, undef, undef, undef, undef, undef, undef, undef, undef, undef, undef, undef, undef, undef, undef, undef, undef, undef, undef, undef, undef, undef, undef, undef, undef, undef, undef, undef, undef, undef, undef, undef, undef, undef, undef, undef, undef, undef, undef, undef, undef, undef, undef, undef, undef, undef, undef, undef, undef, undef, undef, undef, undef, undef, undef, undef, undef, undef, undef, undef, undef, undef, undef, undef, undef, undef, undef, undef, undef, undef, undef, undef, undef, undef, undef, undef, undef, undef, undef, undef, undef, undef, undef, undef, undef, undef, undef, undef, undef, undef, undef, undef, undef, undef, undef, undef, undef, undef, undef, undef, undef, undef, undef, undef, undef, undef, undef, undef, undef, undef, undef, undef, undef, undef, undef, undef, undef, undef, undef, undef, undef, undef, undef, undef, undef, undef, undef, undef], defers := [] } W := by
    intro b24 b25 b1 b29 W hE hX hb
    subst hO
    refine rg_two (i := 0) (j := 2) (by kernel_rfl) (rg_step rfl (by rfl) (fun K hK => ?_)) (rg_step rfl (by rfl) (fun K hK => ?_))
    · go_simp
      refine hK.out _ _ ?_ (fun hHeld2 => ?_)
      · exact ext_alloc hE _
      clear hK K
      try simp only [Act.put, List.setIfInBounds_toArray, List.set_cons_zero, List.set_cons_succ]
      exact rg_list (by kernel_rfl) (n017_0.out _ _ _ 0 _ (ext_alloc hE _) (hX.ext (ext_alloc (ext_refl W) _)) hb)
    · go_simp
      refine (cuf_any 0 800 _).mono ?_
      rintro e W2 ⟨rfl, B⟩
      go_wp2_with fail
      refine hK.out _ _ ?_ (fun hHeld2 => ?_)
      · exact ext_trans hE B
      clear hK K
      try simp only [Act.put, List.setIfInBounds_toArray, List.set_cons_zero, List.set_cons_succ]
      exact rg_list (by kernel_rfl) (n17_1.out 0 _ _ 0 _ (ext_trans hE B) (hX.ext B) hb)
  replace n17_0 := Lib.hid n17_0
  have n_1 : ∀ (b24 b25 b1 b29 : Nat) (W : World), Below w.heap.size w W → WT Try.prog .any OPS Q7 8 (fun w' => Below w.heap.size w w') 8 #[false, false, true, false, false, false, false, false, false] { tmps := #[.bool false, undef, undef, undef, undef, undef, undef, undef, undef, undef, undef, undef, undef, undef, undef, undef, undef, undef, undef, undef, undef, undef, undef, undef, undef, undef, .agg #[.int .i64 1, .string ⟨#[]⟩, .string ⟨#[]⟩, .int .i64 0, .int .i64 0, .int .i64 0, .int .i64 0, .int .i64 800], undef, undef, undef, undef, undef, undef, undef, undef, undef, undef, undef, undef, undef, undef, undef, undef, undef, undef, undef, undef, undef, undef, undef, undef, undef, undef, undef, undef, undef, undef, undef, undef, undef, undef, undef, undef, undef, undef, undef, undef, undef, undef, undef, undef, undef, undef, undef, undef, undef, undef, undef, undef, undef, undef, undef, undef, undef, undef, undef, undef, undef, undef, undef, undef, undef, undef, undef, undef, undef, undef, undef, undef, undef, undef, undef, undef, undef, undef, undef, undef, undef, undef, undef, undef, undef, undef, undef, undef, undef, undef, undef, undef, undef, undef, undef, undef, undef, undef, undef, undef, undef, undef, undef, undef, undef, undef, undef, undef, undef, undef, undef, undef, undef, undef, undef, undef, undef, undef, undef, undef, undef, undef, undef, undef, undef, undef, undef, undef, undef, undef, undef, undef, undef, undef, undef, undef, undef, undef, undef, undef, undef, undef, undef, undef, undef, undef, undef, undef, undef, undef, undef, undef, undef, undef, undef], defers := [] } W := by
    intro b24 b25 b1 b29 W hE
    subst hO
    refine rg_four (i := 0) (j := 1) (m := 3) (n := 7) (by kernel_rfl) (rg_step rfl (by rfl) (fun K hK => ?_)) (rg_step rfl (by rfl) (fun K hK => ?_)) (rg_step rfl (by rfl) (fun K hK => ?_)) (rg_step rfl (by rfl) (fun K hK => ?_))
    · go_simp
      refine hK.out _ _ ?_ (fun hHeld2 => ?_)
      · exact ext_alloc hE _
      clear hK K
      try simp only [Act.put, List.setIfInBounds_toArray, List.set_cons_zero, List.set_cons_succ]
      exact rg_list (by kernel_rfl) (n0_1.out _ 0 0 0 _ (ext_alloc hE _))
    · go_simp
      refine hK.out _ _ ?_ (fun hHeld2 => ?_)
      · exact ext_alloc hE _
      clear hK K
      try simp only [Act.put, List.setIfInBounds_toArray, List.set_cons_zero, List.set_cons_succ]
      exact rg_list (by kernel_rfl) (n1_1.out 0 _ 0 0 _ (ext_alloc hE _))
    · go_simp
      refine (cuf_any 700 1440 _).mono ?_
      rintro e W2 ⟨rfl, B⟩
      go_wp2_with fail
      refine hK.out _ _ ?_ (fun hHeld2 => ?_)
      · exact ext_trans hE B
      clear hK K
      try simp only [Act.put, List.setIfInBounds_toArray, List.set_cons_zero, List.set_cons_succ]
      exact rg_list (by kernel_rfl) (n_2.out 0 0 0 0 _ (ext_trans hE B))
    · go_simp
      refine hK.out _ _ ?_ (fun hHeld2 => ?_)
      · exact ext_alloc hE _
      clear hK K
      try simp only [Act.put, List.setIfInBounds_toArray, List.set_cons_zero, List.set_cons_succ]
      exact rg_list (by kernel_rfl) (n7_1.out 0 0 _ 0 _ (ext_alloc hE _) (Blk.newH W [.slice none 0 0, .slice none 0 0, .slice none 0 0, .slice none 0 0, .slice none 0 0, .slice none 0 0, .slice none 0 0, .slice none 0 0] 31 _ rfl) hE.size)
  replace n_1 := Lib.hid n_1
  have n0_0 : ∀ (b24 b25 b1 b29 : Nat) (W : World), Below w.heap.size w W → WT Try.prog .any OPS Q7 8 (fun w' => Below w.heap.size w w') 8 #[true, false, false, false, false, false, false, false, false] { tmps := #[.bool false, undef, undef, undef, undef, undef, undef, undef, undef, undef, undef, undef, undef, undef, undef, undef, undef, undef, undef, undef, undef, undef, undef, undef, .slice (some ⟨b24, 0, none⟩) 2 2, undef, undef, undef, undef, undef, undef, undef, undef, undef, undef, undef, undef, undef, undef, undef, undef, undef, undef, undef, undef, undef, undef, undef, undef, undef, undef, undef, undef, undef, undef, undef, undef, undef, undef, undef, undef, undef, undef, undef, undef, undef, undef, undef, undef, undef, undef, undef, undef, undef, undef, undef, undef, undef, undef, undef, undef, undef, undef, undef, undef, undef, undef, undef, undef, undef, undef, undef, undef, undef, undef, undef, undef, undef, undef, undef, undef, undef, undef, undef, undef, undef, undef, undef, undef, undef, undef, undef, undef, undef, undef, undef, undef, undef, undef, undef, undef, undef, undef, undef, undef, undef, undef, undef, undef, undef, undef, undef, undef, undef, undef, undef, undef, undef, undef, undef, undef, undef, undef, undef, undef, undef, undef, undef, undef, undef, undef, undef, undef, undef, undef, undef, undef, undef, undef, undef, undef, undef, undef, undef, undef, undef, undef, undef, undef, undef, undef, undef, undef, undef, undef, undef, undef, undef, undef, undef, undef, undef], defers := [] } W := by
    intro b24 b25 b1 b29 W hE
    subst hO
    refine rg_three (i := 1) (j := 2) (m := 7) (by kernel_rfl) (rg_step rfl (by rfl) (fun K hK => ?_)) (rg_step rfl (by rfl) (fun K hK => ?_)) (rg_step rfl (by rfl) (fun K hK => ?_))
    · go_simp
      refine hK.out _ _ ?_ (fun hHeld2 => ?_)
      · exact ext_alloc hE _
      clear hK K
      try simp only [Act.put, List.setIfInBounds_toArray, List.set_cons_zero, List.set_cons_succ]
      exact rg_list (by kernel_rfl) (n01_0.out _ _ 0 0 _ (ext_alloc hE _))
    · go_simp
      refine (cuf_any 0 800 _).mono ?_
      rintro e W2 ⟨rfl, B⟩
      go_wp2_with fail
      refine hK.out _ _ ?_ (fun hHeld2 => ?_)
      · exact ext_trans hE B
      clear hK K
      try simp only [Act.put, List.setIfInBounds_toArray, List.set_cons_zero, List.set_cons_succ]
      exact rg_list (by kernel_rfl) (n0_1.out _ 0 0 0 _ (ext_trans hE B))
    · go_simp
      refine hK.out _ _ ?_ (fun hHeld2 => ?_)
      · exact ext_alloc hE _
      clear hK K
      try simp only [Act.put, List.setIfInBounds_toArray, List.set_cons_zero, List.set_cons_succ]
      exact rg_list (by kernel_rfl) (n07_0.out _ 0 _ 0 _ (ext_alloc hE _) (Blk.newH W [.slice none 0 0, .slice none 0 0, .slice none 0 0, .slice none 0 0, .slice none 0 0, .slice none 0 0, .slice none 0 0, .slice none 0 0] 31 _ rfl) hE.size)
  replace n0_0 := Lib.hid n0_0
  have n1_0 : ∀ (b24 b25 b1 b29 : Nat) (W : World), Below w.heap.size w W → WT Try.prog .any OPS Q7 8 (fun w' => Below w.heap.size w w') 8 #[false, true, false, false, false, false, false, false, false] { tmps := #[.bool false, undef, undef, undef, undef, undef, undef, undef, undef, undef, undef, undef, undef, undef, undef, undef, undef, undef, undef, undef, undef, undef, undef, undef, undef, .slice (some ⟨b25, 0, none⟩) 1 1, undef, undef, undef, undef, undef, undef, undef, undef, undef, undef, undef, undef, undef, undef, undef, undef, undef, undef, undef, undef, undef, undef, undef, undef, undef, undef, undef, undef, undef, undef, undef, undef, undef, undef, undef, undef, undef, undef, undef, undef, undef, undef, undef, undef, undef, undef, undef, undef, undef, undef, undef, undef, undef, undef, undef, undef, undef, undef, undef, undef, undef, undef, undef, undef, undef, undef, undef, undef, undef, undef, undef, undef, undef, undef, undef, undef, undef, undef, undef, undef, undef, undef, undef, undef, undef, undef, undef, undef, undef, undef, undef, undef, undef, undef, undef, undef, undef, undef, undef, undef, undef, undef, undef, undef, undef, undef, undef, undef, undef, undef, undef, undef, undef, undef, undef, undef, undef, undef, undef, undef, undef, undef, undef, undef, undef, undef, undef, undef, undef, undef, undef, undef, undef, undef, undef, undef, undef, undef, undef, undef, undef, undef, undef, undef, undef, undef, undef, undef, undef, undef, undef, undef, undef, undef, undef, undef], defers := [] } W := by
    intro b24 b25 b1 b29 W hE
    subst hO
    refine rg_three (i := 0) (j := 2) (m := 7) (by kernel_rfl) (rg_step rfl (by rfl) (fun K hK => ?_)) (rg_step rfl (by rfl) (fun K hK => ?_)) (rg_step rfl (by rfl) (fun K hK => ?_))
    · go_simp
      refine hK.out _ _ ?_ (fun hHeld2 => ?_)
      · exact ext_alloc hE _
      clear hK K
      try simp only [Act.put, List.setIfInBounds_toArray, List.set_cons_zero, List.set_cons_succ]
      exact rg_list (by kernel_rfl) (n01_0.out _ _ 0 0 _ (ext_alloc hE _))
    · go_simp
      refine (cuf_any 0 800 _).mono ?_
      rintro e W2 ⟨rfl, B⟩
      go_wp2_with fail
      refine hK.out _ _ ?_ (fun hHeld2 => ?_)
      · exact ext_trans hE B
      clear hK K
      try simp only [Act.put, List.setIfInBounds_toArray, List.set_cons_zero, List.set_cons_succ]
      exact rg_list (by kernel_rfl) (n1_1.out 0 _ 0 0 _ (ext_trans hE B))
    · go_simp
      refine hK.out _ _ ?_ (fun hHeld2 => ?_)
      · exact ext_alloc hE _
      clear hK K
      try simp only [Act.put, List.setIfInBounds_toArray, List.set_cons_zero, List.set_cons_succ]
      exact rg_list (by kernel_rfl) (n17_0.out 0 _ _ 0 _ (ext_alloc hE _) (Blk.newH W [.slice none 0 0, .slice none 0 0, .slice none 0 0, .slice none 0 0, .slice none 0 0, .slice none 0 0, .slice none 0 0, .slice none 0 0] 31 _ rfl) hE.size)
  replace n1_0 := Lib.hid n1_0
  have n7_0 : ∀ (b24 b25 b1 b29 : Nat) (W : World), Below w.heap.size w W → Blk W b1 [.slice none 0 0, .slice none 0 0, .slice none 0 0, .slice none 0 0, .slice none 0 0, .slice none 0 0, .slice none 0 0, .slice none 0 0] → w.heap.size ≤ b1 → WT Try.prog .any OPS Q7 8 (fun w' => Below w.heap.size w w') 8 #[false, false, false, false, false, false, false, true, false] { tmps := #[.bool false, .pointer (some ⟨b1, 0, none⟩), undef, undef, undef, undef, undef, undef, undef, undef, undef, undef, undef, undef, undef, undef, undef, undef, undef, undef, undef, undef, undef, undef, undef, undef, undef, undef, undef, undef, undef, undef, undef, undef, undef, undef, undef, undef, undef, undef, undef, undef, undef, undef, undef, undef, undef, undef, undef, undef, undef, undef, undef, undef, undef, undef, undef, undef, undef, undef, undef, undef, undef, undef, undef, undef, undef, undef, undef, undef, undef, undef, undef, undef, undef, undef, undef, undef, undef, undef, undef, undef, undef, undef, undef, undef, undef, undef, undef, undef, undef, undef, undef, undef, undef, undef, undef, undef, undef, undef, undef, undef, undef, undef, undef, undef, undef, undef, undef, undef, undef, undef, undef, undef, undef, undef, undef, undef, undef, undef, undef, undef, undef, undef, undef, undef, undef, undef, undef, undef, undef, undef, undef, undef, undef, undef, undef, undef, undef, undef, undef, undef, undef, undef, undef, undef, undef, undef, undef, undef, undef, undef, undef, undef, undef, undef, undef, undef, undef, undef, undef, undef, undef, undef, undef, undef, undef, undef, undef, undef, undef, undef, undef, undef, undef, undef, undef, undef, undef, undef, undef, undef], defers := [] } W := by
    intro b24 b25 b1 b29 W hE hX hb
    subst hO
    refine rg_three (i := 0) (j := 1) (m := 2) (by kernel_rfl) (rg_step rfl (by rfl) (fun K hK => ?_)) (rg_step rfl (by rfl) (fun K hK => ?_)) (rg_step rfl (by rfl) (fun K hK => ?_))
    · go_simp
      refine hK.out _ _ ?_ (fun hHeld2 => ?_)
      · exact ext_alloc hE _
      clear hK K
      try simp only [Act.put, List.setIfInBounds_toArray, List.set_cons_zero, List.set_cons_succ]
      exact rg_list (by kernel_rfl) (n07_0.out _ 0 _ 0 _ (ext_alloc hE _) (hX.ext (ext_alloc (ext_refl W) _)) hb)
    · go_simp
      refine hK.out _ _ ?_ (fun hHeld2 => ?_)
      · exact ext_alloc hE _
      clear hK K
      try simp only [Act.put, List.setIfInBounds_toArray, List.set_cons_zero, List.set_cons_succ]
      exact rg_list (by kernel_rfl) (n17_0.out 0 _ _ 0 _ (ext_alloc hE _) (hX.ext (ext_alloc (ext_refl W) _)) hb)
    · go_simp
      refine (cuf_any 0 800 _).mono ?_
      rintro e W2 ⟨rfl, B⟩
      go_wp2_with fail
      refine hK.out _ _ ?_ (fun hHeld2 => ?_)
      · exact ext_trans hE B
      clear hK K
      try simp only [Act.put, List.setIfInBounds_toArray, List.set_cons_zero, List.set_cons_succ]
      exact rg_list (by kernel_rfl) (n7_1.out 0 0 _ 0 _ (ext_trans hE B) (hX.ext B) hb)
  replace n7_0 := Lib.hid n7_0
  have n_0 : ∀ (b24 b25 b1 b29 : Nat) (W : World), Below w.heap.size w W → WT Try.prog .any OPS Q7 8 (fun w' => Below w.heap.size w w') 9 #[false, false, false, false, false, false, false, false, false] { tmps := #[.bool false, undef, undef, undef, undef, undef, undef, undef, undef, undef, undef, undef, undef, undef, undef, undef, undef, undef, undef, undef, undef, undef, undef, undef, undef, undef, undef, undef, undef, undef, undef, undef, undef, undef, undef, undef, undef, undef, undef, undef, undef, undef, undef, undef, undef, undef, undef, undef, undef, undef, undef, undef, undef, undef, undef, undef, undef, undef, undef, undef, undef, undef, undef, undef, undef, undef, undef, undef, undef, undef, undef, undef, undef, undef, undef, undef, undef, undef, undef, undef, undef, undef, undef, undef, undef, undef, undef, undef, undef, undef, undef, undef, undef, undef, undef, undef, undef, undef, undef, undef, undef, undef, undef, undef, undef, undef, undef, undef, undef, undef, undef, undef, undef, undef, undef, undef, undef, undef, undef, undef, undef, undef, undef, undef, undef, undef, undef, undef, undef, undef, undef, undef, undef, undef, undef, undef, undef, undef, undef, undef, undef, undef, undef, undef, undef, undef, undef, undef, undef, undef, undef, undef, undef, undef, undef, undef, undef, undef, undef, undef, undef, undef, undef, undef, undef, undef, undef, undef, undef, undef, undef, undef, undef, undef, undef, undef, undef, undef, undef, undef, undef, undef], defers := [] } W := by
    intro b24 b25 b1 b29 W hE
    subst hO
    refine rg_four (i := 0) (j := 1) (m := 2) (n := 7) (by kernel_rfl) (rg_step rfl (by rfl) (fun K hK => ?_)) (rg_step rfl (by rfl) (fun K hK => ?_)) (rg_step rfl (by rfl) (fun K hK => ?_)) (rg_step rfl (by rfl) (fun K hK => ?_))
    · go_simp
      refine hK.out _ _ ?_ (fun hHeld2 => ?_)
      · exact ext_alloc hE _
      clear hK K
      try simp only [Act.put, List.setIfInBounds_toArray, List.set_cons_zero, List.set_cons_succ]
      exact rg_list (by kernel_rfl) (n0_0.out _ 0 0 0 _ (ext_alloc hE _))
    · go_simp
      refine hK.out _ _ ?_ (fun hHeld2 => ?_)
      · exact ext_alloc hE _
      clear hK K
      try simp only [Act.put, List.setIfInBounds_toArray, List.set_cons_zero, List.set_cons_succ]
      exact rg_list (by kernel_rfl) (n1_0.out 0 _ 0 0 _ (ext_alloc hE _))
    · go_simp
      refine (cuf_any 0 800 _).mono ?_
      rintro e W2 ⟨rfl, B⟩
      go_wp2_with fail
      refine hK.out _ _ ?_ (fun hHeld2 => ?_)
      · exact ext_trans hE B
      clear hK K
      try simp only [Act.put, List.setIfInBounds_toArray, List.set_cons_zero, List.set_cons_succ]
      exact rg_list (by kernel_rfl) (n_1.out 0 0 0 0 _ (ext_trans hE B))
    · go_simp
      refine hK.out _ _ ?_ (fun hHeld2 => ?_)
      · exact ext_alloc hE _
      clear hK K
      try simp only [Act.put, List.setIfInBounds_toArray, List.set_cons_zero, List.set_cons_succ]
      exact rg_list (by kernel_rfl) (n7_0.out 0 0 _ 0 _ (ext_alloc hE _) (Blk.newH W [.slice none 0 0, .slice none 0 0, .slice none 0 0, .slice none 0 0, .slice none 0 0, .slice none 0 0, .slice none 0 0, .slice none 0 0] 31 _ rfl) hE.size)
  replace n_0 := Lib.hid n_0
  exact rg_list (by kernel_rfl) (n_0.out 0 0 0 0 _ hHeld)
end Go.Proofs.Ytmgpbjpohbpgpaa
