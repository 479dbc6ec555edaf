/- The law of the specification of Has and Covers. -/
import Derived.Test.YtkannbmmgkohjaaM
import Derived.Test.YtkannbmmgkohjaaPs
namespace Go.Proofs.Ytkannbmmgkohjaa
open Go.RowKit Go.Shelf
/-- A span in a block of its own, to be read. -/
def BoxS (w : World) (b : Nat) (s : Sp) : Prop := b < w.heap.size ∧ w.cell? ⟨b, 0, none⟩ = some (.int .i64 s.f) ∧ w.cell? ⟨b, 1, none⟩ = some (.int .i64 s.t)
theorem BoxS.new (w : World) (s : Sp) : BoxS (w.alloc (.cells #[.int .i64 s.f, .int .i64 s.t] 31)) w.heap.size s := ⟨by simp, by simp, by simp⟩
theorem BoxS.ext {w w' : World} {b : Nat} {s : Sp} (h : BoxS w b s) (hb : Below w.heap.size w w') : BoxS w' b s :=
  ⟨Nat.lt_of_lt_of_le h.1 hb.size, (hb.cell (p := ⟨b, 0, none⟩) h.1).trans h.2.1, (hb.cell (p := ⟨b, 1, none⟩) h.1).trans h.2.2⟩
set_option maxHeartbeats 8000000 in
set_option maxRecDepth 100000 in
theorem law5 (Al : Option Addr) (cl : Nat) (l : List Sp) (m : Int) (s : Sp) (w : World) (hl : Slc w Sp.cells 2 Al l) (ll : l.length ≤ maxLen) : Calls Try.prog 5 #[.slice Al l.length cl, .int .i64 m, s.v] w (Tru w) := by
  by_cases fl : l.length ≤ 40
  rotate_left
  · go_enter Try.func5, Try.ntmps5
    go_wp2_with fail
    refine (sane_any _).mono ?_
    rintro e w1 ⟨rfl, B⟩
    have X : Below w.heap.size w w1 := by first | exact B | exact ext_trans (ext_alloc (ext_refl _) _) B | exact ext_trans (ext_alloc (ext_alloc (ext_refl _) _) _) B | exact ext_trans (ext_alloc (ext_alloc (ext_alloc (ext_refl _) _) _) _) B | exact ext_trans (ext_alloc (ext_alloc (ext_alloc (ext_alloc (ext_refl _) _) _) _) _) B
    have Ew1 := ext_trans (ext_refl w) X
    clear X B
    go_wp2_with fail
    refine (few_at (a := l) false (by simpa using fl) rfl ll).mono ?_
    rintro e w2 ⟨rfl, B⟩
    have X : Below w1.heap.size w1 w2 := by first | exact B | exact ext_trans (ext_alloc (ext_refl _) _) B | exact ext_trans (ext_alloc (ext_alloc (ext_refl _) _) _) B | exact ext_trans (ext_alloc (ext_alloc (ext_alloc (ext_refl _) _) _) _) B | exact ext_trans (ext_alloc (ext_alloc (ext_alloc (ext_alloc (ext_refl _) _) _) _) _) B
    have Ew2 := ext_trans Ew1 X
    clear X B Ew1
    go_wp2_with fail
    go_ret
    exact ⟨rfl, Ew2⟩
  have nl : l.length < 1000000 := by omega
  obtain ⟨r, hr⟩ : ∃ r, has l m = r := ⟨_, rfl⟩
  have HR := Lib.hid hr
  clear hr
  obtain ⟨r2, hr⟩ : ∃ r, cov l s = r := ⟨_, rfl⟩
  have HR2 := Lib.hid hr
  clear hr
  go_enter Try.func5, Try.ntmps5
  go_wp2_with fail
  refine (sane_any _).mono ?_
  rintro e w1 ⟨rfl, B⟩
  have BX := (BoxS.new w s).ext B
  have X : Below w.heap.size w w1 := by first | exact B | exact ext_trans (ext_alloc (ext_refl _) _) B | exact ext_trans (ext_alloc (ext_alloc (ext_refl _) _) _) B | exact ext_trans (ext_alloc (ext_alloc (ext_alloc (ext_refl _) _) _) _) B | exact ext_trans (ext_alloc (ext_alloc (ext_alloc (ext_alloc (ext_refl _) _) _) _) _) B
  have Ew1 := ext_trans (ext_refl w) X
  clear X B
  have n0 := BX.2.1
  have n1 := BX.2.2
  go_wp2_with fail
  refine (few_at (a := l) true (by simpa using fl) rfl ll).mono ?_
  rintro e w2 ⟨rfl, B⟩
  clear n0 n1
  have X : Below w1.heap.size w1 w2 := by first | exact B | exact ext_trans (ext_alloc (ext_refl _) _) B | exact ext_trans (ext_alloc (ext_alloc (ext_refl _) _) _) B | exact ext_trans (ext_alloc (ext_alloc (ext_alloc (ext_refl _) _) _) _) B | exact ext_trans (ext_alloc (ext_alloc (ext_alloc (ext_alloc (ext_refl _) _) _) _) _) B
  have Ew2 := ext_trans Ew1 X
  replace BX := BX.ext X
  clear X B Ew1
  have n0 := BX.2.1
  have n1 := BX.2.2
  clear fl ll
  replace hl := hl.ext Ew2
  have SS : ∀ w', Below w2.heap.size w2 w' → (fun w' : World => w'.cell? ⟨w.heap.size, 0, none⟩ = some (.int .i64 s.f) ∧ w'.cell? ⟨w.heap.size, 1, none⟩ = some (.int .i64 s.t)) w' := fun w' bw => (BX.ext bw).2
  go_wp2_with fail
  go_region_held3 (fun w' => w'.cell? ⟨w.heap.size, 0, none⟩ = some (.int .i64 s.f) ∧ w'.cell? ⟨w.heap.size, 1, none⟩ = some (.int .i64 s.t)) (first | exact SS _ BW10 | exact SS _ BW9 | exact SS _ BW8 | exact SS _ BW7 | go_keep)
    ((first
      | (go_at_call 23; refine (has_at (a := l) r HR.out rfl hl.drew_ nl).mono ?_; rintro e w7 ⟨rfl, B7⟩; have BW7 : Below w2.heap.size w2 w7 := ext_trans (ext_drew (ext_refl w2)) B7)
      | (go_at_call 24; refine (rhas_at (a := l) r HR.out rfl (hl.ext BW7) nl).mono ?_; rintro e w8 ⟨rfl, B8⟩; have BW8 := ext_trans BW7 B8)
      | (go_at_call 25; refine (covers_at (a := l) (s := s) r2 HR2.out rfl (hl.ext BW8) nl).mono ?_; rintro e w9 ⟨rfl, B9⟩; have BW9 := ext_trans BW8 B9)
      | (go_at_call 26; refine (rcovers_at (a := l) (s := s) r2 HR2.out rfl (hl.ext BW9) nl).mono ?_; rintro e w10 ⟨rfl, B10⟩; have BW10 := ext_trans BW9 B10)))
  all_goals
    go_wp2_with fail
    go_ret
    exact ⟨rfl, ext_trans Ew2 BW10⟩
end Go.Proofs.Ytkannbmmgkohjaa
