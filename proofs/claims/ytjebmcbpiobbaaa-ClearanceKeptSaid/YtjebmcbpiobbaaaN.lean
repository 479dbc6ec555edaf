import Derived.Test.YtjebmcbpiobbaaaM
import Derived.Test.YtjebmcbpiobbaaaApp
import Derived.Deep.RegionHeld3
namespace Go.Proofs.Ytjebmcbpiobbaaa
open Go.RowKit

theorem clr_one (x : Clr) : ∀ u ∈ x.cells, u.oneCell' = true := by
  simp [Clr.cells, Value.oneCell']
theorem I31 : EInfo Try.prog 22 31 Clr.cells 9 64 := by
  obtain ⟨i0, hi, hz0, hz1, hz2⟩ := info_parts info31
  exact ⟨Try.underlying22, ⟨i0, _, hi, hz0, hz1, hz2, rfl⟩, by decide, clr_len, clr_one⟩

def box4 (w : World) (o : Opt) : World := w.alloc (.cells #[.int .i64 o.d, .int .i64 o.y, .int .i64 o.h, .bool o.c] 24)
theorem box4_cells {w w' : World} {o : Opt} (h : Below (w.heap.size + 1) (box4 w o) w') : w'.cell? ⟨w.heap.size, 0, none⟩ = some (.int .i64 o.d) ∧ w'.cell? ⟨w.heap.size, 1, none⟩ = some (.int .i64 o.y) ∧ w'.cell? ⟨w.heap.size, 2, none⟩ = some (.int .i64 o.h) ∧ w'.cell? ⟨w.heap.size, 3, none⟩ = some (.bool o.c) := by
  refine ⟨?_, ?_, ?_, ?_⟩ <;> (rw [h.cell (by simp)]; simp [box4])
theorem box4_grown {w a b : World} {o : Opt} {row : Option Nat} (h : Below (w.heap.size + 1) (box4 w o) a) (hg : a.grownBy b row) (hr : ∀ k, row = some k → w.heap.size + 1 ≤ k) : Below (w.heap.size + 1) (box4 w o) b :=
  h.grown hg (by have := h.size; simp [box4] at this; omega) hr
theorem box4_alloc {w a : World} {o : Opt} (h : Below (w.heap.size + 1) (box4 w o) a) (x : Obj) : Below (w.heap.size + 1) (box4 w o) (a.alloc x) :=
  h.alloc (by have := h.size; simp [box4] at this; omega) x
theorem box4_refl (w : World) (o : Opt) : Below (w.heap.size + 1) (box4 w o) (w.alloc (.cells #[.int .i64 o.d, .int .i64 o.y, .int .i64 o.h, .bool o.c] 24)) := Below.refl _ _
theorem box4_below {w w' : World} {o : Opt} (h : Below (w.heap.size + 1) (box4 w o) w') : Below w.heap.size w w' := ((Below.refl _ w).alloc (Nat.le_refl _) _).trans (h.mono (Nat.le_succ _))
theorem sz1 (w : World) (o : Obj) : w.heap.size + 1 ≤ (w.alloc o).heap.size := by simp
theorem sz2 (w : World) (o p : Obj) : w.heap.size + 1 ≤ ((w.alloc o).alloc p).heap.size := by simp
theorem sz3 (w : World) (o p q : Obj) : w.heap.size + 1 ≤ (((w.alloc o).alloc p).alloc q).heap.size := by simp [Nat.add_assoc]
theorem box4_size {w w' : World} {o : Opt} (h : Below (w.heap.size + 1) (box4 w o) w') : w.heap.size + 1 ≤ w'.heap.size := by have := h.size; simp [box4] at this; omega
set_option maxHeartbeats 1600000 in
theorem rissue_any (A : Option Addr) (c : Nat) (l : List Clr) (fl m : Int) (o : Opt) (w : World) (ha : Slc w Clr.cells 9 A l) (hn : l.length < 1000000) (_ : l.length ≤ c) :
    Calls Try.prog 13 #[.slice A l.length c, .int .i64 fl, o.v, .int .i64 m] w (RetL w (issue l fl o m)) := by
  go_enter Try.func13, Try.ntmps13
  go_wp2_with fail
  go_region_held3 (fun w' => w'.cell? ⟨w.heap.size, 0, none⟩ = some (.int .i64 o.d) ∧ w'.cell? ⟨w.heap.size, 1, none⟩ = some (.int .i64 o.y) ∧ w'.cell? ⟨w.heap.size, 2, none⟩ = some (.int .i64 o.h) ∧ w'.cell? ⟨w.heap.size, 3, none⟩ = some (.bool o.c)) (first | exact box4_cells hk3 | exact box4_cells hk2 | exact box4_cells (box4_alloc hk2 _) | go_keep)
    (first
      | (refine step_append_of rfl (.tmp 11) (.tmp 12) 22 rfl (.slice (some ⟨_, 0, none⟩) 0 0) (.slice A l.length c) (by rfl) (by rfl) (Own.append (base := w.heap.size + 1) I31 _ (l := []) ?_ rfl c ?_ ?_ ?_ ?_) ?_
         · first | exact (Own.madeH (w.alloc _) _ _ _ _ (sz1 w _) (w.heap.size + 1) (by simp)).drew_ | exact ((Own.madeH (w.alloc _) _ _ _ _ (sz1 w _) (w.heap.size + 1) (by simp)).alloc _).drew_ | exact (Own.madeH ((w.alloc _).alloc _) _ _ _ _ (sz2 w _ _) (w.heap.size + 1 + 1) (by simp)).drew_
         · first | exact ((ha.alloc _).alloc _) | exact (((ha.alloc _).alloc _).alloc _)
         · simp; omega
         · unfold maxLen; simp; omega
         · first | exact sz2 w _ _ | exact sz3 w _ _ _
         rintro v' w2 ⟨hO2, hg2, hat2⟩
         have hk2 : Below (w.heap.size + 1) (box4 w o) w2 := by
           first | exact box4_grown (box4_alloc (box4_refl w o) _).drew hg2 (by simp [Value.ownBlock] <;> omega) | exact box4_grown (box4_alloc (box4_alloc (box4_refl w o) _) _).drew hg2 (by simp [Value.ownBlock] <;> omega))
      | (refine step_append_of rfl (.tmp 13) (.tmp 20) 22 rfl v' (.slice (some ⟨_, 0, none⟩) 1 1) (by rfl) (by rfl) (Own.append (base := w.heap.size + 1) I31 _ (l := l) (ys := [newC l fl o m]) ?_ rfl 1 ?_ ?_ ?_ ?_) ?_
         · first | exact hO2 | exact hO2.alloc _
         · first | exact slc_litH w2 [newC l fl o m] _ 31 clr_len rfl w2.heap.size rfl | exact Slc.grown (slc_litH ((w.alloc _).alloc _) [newC l fl o m] _ 31 clr_len rfl (w.heap.size + 1 + 1) (by simp)).drew_ hg2 (fun b o s h => by cases h; simp [Value.ownBlock]) | exact Slc.grown ((slc_litH (w.alloc _) [newC l fl o m] _ 31 clr_len rfl (w.heap.size + 1) (by simp)).alloc _).drew_ hg2 (fun b o s h => by cases h; simp [Value.ownBlock])
         · show (l.length + 1) * 64 ≤ _; omega
         · show l.length + 1 ≤ _; unfold maxLen; omega
         · first | exact box4_size hk2 | exact box4_size (box4_alloc hk2 _)
         rintro v3 w3 ⟨hO3, hg3, hat3⟩
         have hk3 : Below (w.heap.size + 1) (box4 w o) w3 := by
           first | exact box4_grown hk2 hg3 (fun k e => (hO2.lt k e).2) | exact box4_grown (box4_alloc hk2 _) hg3 (fun k e => (hO2.lt k e).2)))
  all_goals
    obtain ⟨g, c3, cur, rfl, hcap, _, hgl, _⟩ := hO3.some_ (by simp)
    have hS3 := hO3.slc clr_len (by decide)
    have hB3 := box4_below hk3
    clear hO2 hg2 hat2 hO3 hg3 hat3 hk2 hk3
    have hck := fun w' (h : Slc w' Clr.cells 9 (some ⟨g, 0, none⟩) (l ++ [newC l fl o m])) => rcheck_any (some ⟨g, 0, none⟩) c3 (l ++ [newC l fl o m]) w' h (by simp; omega)
    rw [show (l ++ [newC l fl o m]).length = l.length + 1 by simp] at hck
    have HCK := Lib.hid hck
    clear hck
    rw [show (l ++ [newC l fl o m]).length = l.length + 1 by simp] at hcap ⊢
    cases h1 : chk l
    · go_wp2_with fail
      refine (rcheck_any A c l _ (ha.ext hB3) (by omega)).mono ?_
      rintro e w4 ⟨rfl, hB4⟩
      have he : chkE l = 340 := by simp [chkE, h1]
      go_wp2_with fail
      go_ret2
      rw [show issue l fl o m = ([], 340) by simp [issue, h1]]
      exact RetL.nil_ _ _ _ (ext_trans hB3 hB4)
    · go_wp2_with fail
      refine (rcheck_any A c l _ (ha.ext hB3) (by omega)).mono ?_
      rintro e w4 ⟨rfl, hB4⟩
      have he : chkE l = 0 := by simp [chkE, h1]
      go_wp2_with fail
      refine (HCK.out _ (hS3.ext hB4)).mono ?_
      rintro e w5 ⟨rfl, hB5⟩
      clear he
      cases h2 : chk (l ++ [newC l fl o m])
      · have he : chkE (l ++ [newC l fl o m]) = 340 := by simp [chkE, h2]
        go_wp2_with fail
        go_ret2
        rw [show issue l fl o m = ([], 340) by simp [issue, h1, h2]]
        exact RetL.nil_ _ _ _ (ext_trans (ext_trans hB3 hB4) hB5)
      · have he : chkE (l ++ [newC l fl o m]) = 0 := by simp [chkE, h2]
        go_wp2_with fail
        go_ret2
        rw [show issue l fl o m = (l ++ [newC l fl o m], 0) by simp [issue, h1, h2]]
        exact ⟨some ⟨g, 0, none⟩, c3, by simp, (hS3.ext hB4).ext hB5, by simpa using hcap, ext_trans (ext_trans hB3 hB4) hB5⟩
end Go.Proofs.Ytjebmcbpiobbaaa
