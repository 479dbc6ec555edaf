import Derived.Test.YtlnfjdbdgcafbaaH
namespace Go.Proofs.Ytlnfjdbdgcafbaa
open Go.RowKit
def Tru (w : World) (e : Ending) (w' : World) : Prop := e = .returned (.bool true) ∧ Below w.heap.size w w'
def kd (a b : Int) : Kd := ⟨a, b, 1, 1, 0, ⟨none, 0, []⟩⟩
def lg (n : Int) : Lg := ⟨0, 0, n, ⟨none, 0, []⟩⟩
theorem kd_ok (a b : Int) (w : World) : (kd a b).ok w := ⟨Slc.nil, by intro s hs; cases hs⟩
theorem kd_few (a b : Int) : (kd a b).few := ⟨(by decide : 0 < 1000000), by intro s hs; cases hs⟩
theorem bound_at {k : Kd} {n : Int} {w : World} (r : Bd × Int) (hr : bound k n = r) (hk : k.ok w) (hf : k.few) : Calls Try.prog 10 #[.agg #[.int .i64 k.slow, .int .i64 k.fast, .int .i64 k.places, .int .i64 k.weight, .int .i64 k.longest, .slice k.cur.A k.cur.l.length k.cur.c], .int .i64 n] w (RetB w r) := by
  subst hr; exact bound_any k n w hk hf
theorem legs_at {k : Kd} {A : Option Addr} {c n : Nat} {ls : List Lg} {hold : Int} {w : World} (r : List Bd × Int) (hr : legs k ls hold = r) (hl : n = ls.length) (hk : k.ok w) (hf : k.few) (ha : Slc w Lg.cells 4 A ls) (hn : ls.length < 1000000) :
    Calls Try.prog 11 #[.agg #[.int .i64 k.slow, .int .i64 k.fast, .int .i64 k.places, .int .i64 k.weight, .int .i64 k.longest, .slice k.cur.A k.cur.l.length k.cur.c], .slice A n c, .int .i64 hold] w (RetLs w r) := by
  subst hr hl; exact legs_any k A c ls hold w hk hf ha hn
theorem total_at {k : Kd} {A : Option Addr} {c n : Nat} {ls : List Lg} {hold : Int} {w : World} (r : Bd × Int) (hr : total k ls hold = r) (hl : n = ls.length) (hk : k.ok w) (hf : k.few) (ha : Slc w Lg.cells 4 A ls) (hn : ls.length < 1000000) :
    Calls Try.prog 12 #[.agg #[.int .i64 k.slow, .int .i64 k.fast, .int .i64 k.places, .int .i64 k.weight, .int .i64 k.longest, .slice k.cur.A k.cur.l.length k.cur.c], .slice A n c, .int .i64 hold] w (RetB w r) := by
  subst hr hl; exact total_any k A c ls hold w hk hf ha hn
theorem scheck_at {k : Kd} {w : World} (r : Int) (hr : vldE k = r) (hk : k.ok w) (hf : k.few) : Calls Try.prog 14 #[.agg #[.int .i64 k.slow, .int .i64 k.fast, .int .i64 k.places, .int .i64 k.weight, .int .i64 k.longest, .slice k.cur.A k.cur.l.length k.cur.c]] w fun e w' => e = .returned (.int .i64 r) ∧ Below w.heap.size w w' := by
  subst hr; exact scheck_any k w hk hf
/-- A bound in a block of its own, to be read. -/
def BdAt (w : World) (b : Nat) (x : Bd) : Prop := w.cell? ⟨b, 0, none⟩ = some (.int .i64 x.lo) ∧ w.cell? ⟨b, 1, none⟩ = some (.int .i64 x.hi)
theorem BdAt.new (w : World) (x : Bd) : BdAt (w.alloc (.cells #[.int .i64 x.lo, .int .i64 x.hi] 28)) w.heap.size x := ⟨by simp, by simp⟩
theorem BdAt.ext {w w' : World} {b : Nat} {x : Bd} (h : BdAt w b x) (hlt : b < w.heap.size) (hb : Below w.heap.size w w') : BdAt w' b x := ⟨(hb.cell (p := ⟨b, 0, none⟩) hlt).trans h.1, (hb.cell (p := ⟨b, 1, none⟩) hlt).trans h.2⟩
theorem ba (w : World) (x : Bd) : Below w.heap.size w (w.alloc (.cells #[.int .i64 x.lo, .int .i64 x.hi] 28)) := ext_alloc (ext_refl w) _

set_option maxHeartbeats 8000000 in
set_option maxRecDepth 100000 in
theorem sane_any (w : World) : Calls Try.prog 8 #[] w (Tru w) := by
  have heq1 := fun w => run_eql28 ⟨7, 9⟩ ⟨7, 9⟩ w
  have heq2 := fun w => run_eql28 ⟨6, 8⟩ ⟨6, 8⟩ w
  have heq3 := fun w => run_eql28 ⟨7, 70⟩ ⟨7, 70⟩ w
  simp only [decide_true] at heq1 heq2 heq3
  go_enter Try.func8, Try.ntmps8
  go_wp2_with fail
  refine (kind_any 6 8 _).mono ?_
  rintro e w1 ⟨rfl, B1⟩
  go_wp2_with fail
  refine (bound_at (k := kd 6 8) (⟨7, 9⟩, 0) (by decide +kernel) (kd_ok _ _ _) (kd_few _ _)).mono ?_
  rintro e w2 ⟨rfl, B2⟩
  have E2 := ext_trans B1 B2
  have N2 := BdAt.new w2 ⟨7, 9⟩
  have A2 := ba w2 ⟨7, 9⟩
  clear B1 B2
  go_wp2_with fail
  refine (kind_any 6 8 _).mono ?_
  rintro e w3 ⟨rfl, B3⟩
  go_wp2_with fail
  refine (bound_at (k := kd 6 8) (⟨6, 8⟩, 0) (by decide +kernel) (kd_ok _ _ _) (kd_few _ _)).mono ?_
  rintro e w4 ⟨rfl, B4⟩
  have F4 := ext_trans B3 B4
  have N4 := BdAt.new w4 ⟨6, 8⟩
  have A4 := ba w4 ⟨6, 8⟩
  clear B3 B4
  go_wp2_with fail
  refine (kind_any 6 8 _).mono ?_
  rintro e w5 ⟨rfl, B5⟩
  go_wp2_with fail
  refine (bound_at (k := kd 6 8) (⟨0, 0⟩, 1) (by decide +kernel) (kd_ok _ _ _) (kd_few _ _)).mono ?_
  rintro e w6 ⟨rfl, B6⟩
  have F6 := ext_trans B5 B6
  have A6 := ba w6 ⟨0, 0⟩
  clear B5 B6
  go_wp2_with fail
  refine (kind_any 6 8 _).mono ?_
  rintro e w7 ⟨rfl, B7⟩
  go_wp2_with fail
  refine (legs_at (k := kd 6 8) (ls := []) ([], 1) (by decide +kernel) rfl (kd_ok _ _ _) (kd_few _ _) Slc.nil (by decide)).mono ?_
  rintro e w8 ⟨L8, c8, rfl, S8, B8⟩
  have F8 := ext_trans B7 B8
  clear B7 B8
  simp only [List.length_nil]
  go_wp2_with fail
  refine (kind_any 6 8 _).mono ?_
  rintro e w9 ⟨rfl, B9⟩
  go_wp2_with fail
  refine (legs_at (k := kd 6 8) (ls := [lg 1]) ([], 1) (by decide +kernel) rfl (kd_ok _ _ _) (kd_few _ _) (slc_litH w9 [lg 1] _ 41 (enc := Lg.cells) (sz := 4) (fun _ => rfl) rfl w9.heap.size rfl) (by decide)).mono ?_
  rintro e w10 ⟨L10, c10, rfl, S10, B10⟩
  have F10 := ext_trans B9 (ext_trans (ext_alloc (ext_refl w9) _) B10)
  clear B9 B10
  simp only [List.length_nil]
  go_wp2_with fail
  refine (kind_any 1 64 _).mono ?_
  rintro e w11 ⟨rfl, B11⟩
  go_wp2_with fail
  refine (total_at (k := kd 1 64) (ls := [lg 64, lg 1]) (⟨7, 70⟩, 0) (by decide +kernel) rfl (kd_ok _ _ _) (kd_few _ _) (slc_litH w11 [lg 64, lg 1] _ 41 (enc := Lg.cells) (sz := 4) (fun _ => rfl) rfl w11.heap.size rfl) (by decide)).mono ?_
  rintro e w12 ⟨rfl, B12⟩
  have F12 := ext_trans B11 (ext_trans (ext_alloc (ext_refl w11) _) B12)
  have N12 := BdAt.new w12 ⟨7, 70⟩
  have A12 := ba w12 ⟨7, 70⟩
  clear B11 B12
  go_wp2_with fail
  refine (kind_any 1 64 _).mono ?_
  rintro e w13 ⟨rfl, B13⟩
  go_wp2_with fail
  refine (legs_at (k := kd 1 64) (ls := [lg 64, lg 1]) ([⟨1, 64⟩, ⟨6, 6⟩], 0) (by decide +kernel) rfl (kd_ok _ _ _) (kd_few _ _) (slc_litH w13 [lg 64, lg 1] _ 41 (enc := Lg.cells) (sz := 4) (fun _ => rfl) rfl w13.heap.size rfl) (by decide)).mono ?_
  rintro e w14 ⟨L14, c14, rfl, S14, B14⟩
  have F14 := ext_trans B13 (ext_trans (ext_alloc (ext_refl w13) _) B14)
  clear B13 B14
  simp only [List.length_cons, List.length_nil]
  go_wp2_with fail
  refine (kind_any 0 5 _).mono ?_
  rintro e w15 ⟨rfl, B15⟩
  go_wp2_with fail
  refine (scheck_at (k := kd 0 5) 120 (by decide +kernel) (kd_ok _ _ _) (kd_few _ _)).mono ?_
  rintro e w16 ⟨rfl, B16⟩
  go_wp2_with fail
  refine (kind_any 6 8 _).mono ?_
  rintro e w17 ⟨rfl, B17⟩
  go_wp2_with fail
  refine (scheck_at (k := kd 6 8) 0 (by decide +kernel) (kd_ok _ _ _) (kd_few _ _)).mono ?_
  rintro e w18 ⟨rfl, B18⟩
  have F18 := ext_trans (ext_trans (ext_trans B15 B16) B17) B18
  clear B15 B16 B17 B18
  have G12 := ext_trans F14 F18
  have G6 := ext_trans (ext_trans (ext_trans F8 F10) F12) (ext_trans A12 G12)
  have G4 := ext_trans F6 (ext_trans A6 G6)
  have G2 := ext_trans F4 (ext_trans A4 G4)
  have EW := ext_trans E2 (ext_trans A2 G2)
  obtain ⟨p0, p1⟩ := N2.ext (by simp) G2
  obtain ⟨q0, q1⟩ := N4.ext (by simp) G4
  obtain ⟨r0, r1⟩ := N12.ext (by simp) G12
  have T14 := S14.ext F18
  have z2 : w2.heap.size < w18.heap.size := by have := G2.size; simp at this; omega
  have z4 : w4.heap.size < w18.heap.size := by have := G4.size; simp at this; omega
  have z12 : w12.heap.size < w18.heap.size := by have := G12.size; simp at this; omega
  clear G12 G6 G4 G2 F18 F14 F12 F10 F8 F6 F4 A2 A4 A6 A12 E2 N2 N4 N12 S8 S10 S14
  go_wp2_with fail
  refine (sameBd (a := [⟨1, 64⟩, ⟨6, 6⟩]) (b := [⟨1, 64⟩, ⟨6, 6⟩]) true (by decide +kernel) rfl rfl (T14.alloc _) (slc_litH w18 [⟨1, 64⟩, ⟨6, 6⟩] _ 28 (enc := Bd.cells) (sz := 2) (fun _ => rfl) rfl w18.heap.size rfl) (by decide)).mono ?_
  rintro e w19 ⟨rfl, B19⟩
  go_wp2_with fail
  go_ret
  exact ⟨rfl, ext_trans EW (ext_trans (ext_alloc (ext_refl w18) _) B19)⟩
end Go.Proofs.Ytlnfjdbdgcafbaa
