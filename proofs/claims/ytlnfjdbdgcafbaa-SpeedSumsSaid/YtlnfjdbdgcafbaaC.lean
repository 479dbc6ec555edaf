import Derived.Test.YtlnfjdbdgcafbaaB
namespace Go.Proofs.Ytlnfjdbdgcafbaa
open Go.RowKit
theorem enters27 : Enters Try.prog 27 := fun args w => by kernel_rfl
theorem enters32 : Enters Try.prog 32 := fun args w => by kernel_rfl
theorem enters24 : Enters Try.prog 24 := fun args w => by kernel_rfl

theorem ic_len (n : Int) : (ic n).length = 1 := rfl
theorem within_lit {w : World} {H n : Nat} {cs : Array Value} (l : List Int) (hH : w.heap.size = H) (hn : n = l.length) (hl : l.length < 1000000) (hcs : cs = (l.flatMap ic).toArray) :
    Calls Try.prog 21 #[.slice (some ⟨H, 0, none⟩) n n] (w.alloc (.cells cs 3)) fun e w' => e = .returned (.bool (wit l)) ∧ Below w.heap.size w w' := by
  subst hn
  exact (within_any _ _ l _ (slc_litH w l cs 3 ic_len hcs H hH) hl).mono fun _ _ ⟨h1, h2⟩ => ⟨h1, ext_trans (ext_alloc (ext_refl _) _) h2⟩
theorem check1_any (x : Sp) (w : World) : Calls Try.prog 32 #[x.v] w fun e w' => e = .returned (.bool (badS x)) ∧ Below w.heap.size w w' := by
  go_enter Try.func32, Try.ntmps32
  go_wp2
  all_goals
    go_ret
    exact ⟨ret_bool (by simp [badS, *] <;> omega), ext_alloc (ext_refl _) _⟩
theorem hcheck_any (A : Option Addr) (c : Nat) (l : List Sp) (w : World) (ha : Slc w Sp.cells 2 A l) (hn : l.length < 1000000) :
    Calls Try.prog 28 #[.slice A l.length c] w fun e w' => e = .returned (.int .i64 (chkHE l)) ∧ Below w.heap.size w w' := by
  go_enter Try.func28, Try.ntmps28
  go_wp2_with fail
  refine (containsSp 32 badS A c l _ ha hn enters32 (fun x W _ _ => check1_any x W)).mono ?_
  rintro e w1 ⟨rfl, hB1⟩
  cases h : l.any badS
  all_goals
    go_wp2_with fail
    go_ret
    exact ⟨ret_int (by simp [chkHE, chkH, h]), hB1⟩
theorem valid1_any (x : SliceOf Sp) (w : World) (ha : Slc w Sp.cells 2 x.A x.l) (hn : x.l.length < 1000000) :
    Calls Try.prog 27 #[.slice x.A x.l.length x.c] w fun e w' => e = .returned (.bool (badC x)) ∧ Below w.heap.size w w' := by
  go_enter Try.func27, Try.ntmps27
  go_wp2_with fail
  refine (hcheck_any x.A x.c x.l _ ha hn).mono ?_
  rintro e w1 ⟨rfl, hB1⟩
  go_wp2_with fail
  go_ret
  exact ⟨ret_bool rfl, hB1⟩
theorem length_any (n : Int) (w : World) : Calls Try.prog 16 #[.int .i64 n] w fun e w' => e = .returned (.bool (isLen n)) ∧ Below w.heap.size w w' := by
  go_enter Try.func16, Try.ntmps16
  go_wp2_with fail
  refine (within_lit [n, 1, 4096] rfl rfl (by simp) rfl).mono ?_
  rintro e w1 ⟨rfl, hB1⟩
  go_wp2_with fail
  go_ret
  exact ⟨ret_bool (by simp [wit, isLen]), hB1⟩
theorem asked1_any (x : Lg) (w : World) : Calls Try.prog 24 #[x.v] w fun e w' => e = .returned (.bool (badL x)) ∧ Below w.heap.size w w' := by
  go_enter Try.func24, Try.ntmps24
  go_wp2_with fail
  refine (length_any x.len _).mono ?_
  rintro e w1 ⟨rfl, hB1⟩
  go_wp2_with fail
  go_ret
  exact ⟨ret_bool rfl, ext_trans (ext_alloc (ext_refl _) _) hB1⟩

/-- A kind whose curfews are few enough to count. -/
def Kd.few (k : Kd) : Prop := k.cur.l.length < 1000000 ∧ ∀ s ∈ k.cur.l, s.l.length < 1000000
/-- The six cells of a kind that lies in a block of its own. -/
def KdAt (w : World) (b : Nat) (k : Kd) : Prop := ∀ j v, k.cells[j]? = some v → w.cell? ⟨b, j, none⟩ = some v
theorem KdAt.all {w : World} {b : Nat} {k : Kd} (h : KdAt w b k) : w.cell? ⟨b, 0, none⟩ = some (.int .i64 k.slow) ∧ w.cell? ⟨b, 1, none⟩ = some (.int .i64 k.fast) ∧ w.cell? ⟨b, 2, none⟩ = some (.int .i64 k.places) ∧ w.cell? ⟨b, 3, none⟩ = some (.int .i64 k.weight) ∧ w.cell? ⟨b, 4, none⟩ = some (.int .i64 k.longest) ∧ w.cell? ⟨b, 5, none⟩ = some (.slice k.cur.A k.cur.l.length k.cur.c) :=
  ⟨h 0 _ rfl, h 1 _ rfl, h 2 _ rfl, h 3 _ rfl, h 4 _ rfl, h 5 _ rfl⟩
theorem KdAt.new (w : World) (k : Kd) (t : TypeId) : KdAt (w.alloc (.cells #[.int .i64 k.slow, .int .i64 k.fast, .int .i64 k.places, .int .i64 k.weight, .int .i64 k.longest, .slice k.cur.A k.cur.l.length k.cur.c] t)) w.heap.size k := by
  intro j v hv
  have := cells_new w k.cells t j v hv
  rwa [show (⟨w.heap.size, 0, none⟩ : Addr).add j = ⟨w.heap.size, j, none⟩ by unfold Addr.add; split <;> simp_all] at this
theorem KdAt.ext {w w' : World} {b : Nat} {k : Kd} (h : KdAt w b k) (hlt : b < w.heap.size) (hb : Below w.heap.size w w') : KdAt w' b k := fun j v hv => (hb.cell (p := ⟨b, j, none⟩) hlt).trans (h j v hv)

set_option maxHeartbeats 800000 in
theorem valid_any (k : Kd) (w : World) (hk : k.ok w) (hf : k.few) : Calls Try.prog 20 #[k.v] w fun e w' => e = .returned (.bool (vld k)) ∧ Below w.heap.size w w' := by
  have HF := Lib.hid hf
  clear hf
  go_enter Try.func20, Try.ntmps20
  go_wp2_with fail
  refine (within_lit [k.slow, 1, 64, k.fast, k.slow, 64, k.places, 1, 8, k.weight, 1, 8, k.longest, 0, 60, k.cur.l.length, 0, 16] (by simp) rfl (by simp) rfl).mono ?_
  rintro e w1 ⟨rfl, hB1⟩
  have N1 := (KdAt.new w k 49).ext (by simp) hB1
  have hb1 : Below w.heap.size w w1 := ext_trans (ext_alloc (ext_refl w) _) hB1
  obtain ⟨n0, n1, n2, n3, n4, n5⟩ := N1.all
  have HV : Hid (vld k = (rngB k && k.longest % 10 == 0 && !k.cur.l.any badC)) := rfl
  have hk1 := hk.ext hb1
  have s1 : w.heap.size < w1.heap.size := by have := hB1.size; simp at this; omega
  rw [show wit [k.slow, 1, 64, k.fast, k.slow, 64, k.places, 1, 8, k.weight, 1, 8, k.longest, 0, 60, k.cur.l.length, 0, 16] = rngB k from rfl]
  clear N1 hB1
  cases hr : rngB k
  · go_wp2_with fail
    go_ret
    exact ⟨ret_bool (by rw [HV.out, hr]; rfl), hb1⟩
  have R := (rngB_iff k).1 hr
  have l0 := R.l0
  have l1 := R.l1
  clear R
  by_cases hm : k.longest % 10 = 0
  · have hm' : (k.longest % 10 != 0) = false := by simp [hm]
    have HM := Lib.hid hm
    clear hm
    go_wp2_with fail
    refine (containsCu 27 badC k.cur.A k.cur.c k.cur.l _ hk1.1 HF.out.1 enters27 (fun x W hx hW => valid1_any x W ((hk1.2 x hx).ext hW) (HF.out.2 x hx))).mono ?_
    rintro e w2 ⟨rfl, hB2⟩
    go_wp2_with fail
    go_ret
    exact ⟨ret_bool (by rw [HV.out, hr, HM.out]; simp), ext_trans hb1 hB2⟩
  · have hm' : (k.longest % 10 != 0) = true := by simp [hm]
    have HM := Lib.hid hm
    clear hm
    go_wp2_with fail
    go_ret
    exact ⟨ret_bool (by rw [HV.out]; simp [HM.out]), hb1⟩
theorem scheck_any (k : Kd) (w : World) (hk : k.ok w) (hf : k.few) : Calls Try.prog 14 #[k.v] w fun e w' => e = .returned (.int .i64 (vldE k)) ∧ Below w.heap.size w w' := by
  have HF := Lib.hid hf
  clear hf
  go_enter Try.func14, Try.ntmps14
  go_wp2_with fail
  refine (valid_any k _ (hk.ext (ext_alloc (ext_refl w) _)) HF.out).mono ?_
  rintro e w1 ⟨rfl, hB1⟩
  cases h : vld k
  all_goals
    go_wp2_with fail
    go_ret
    exact ⟨ret_int (by simp [vldE, h]), ext_trans (ext_alloc (ext_refl w) _) hB1⟩
end Go.Proofs.Ytlnfjdbdgcafbaa
