/- New, Few, SamePacket. -/
import Derived.Test.YthchcimialclkaaE
import Derived.Laws.BytesArg
set_option linter.unusedSimpArgs false
set_option linter.unusedVariables false
namespace Go.Proofs.Ythchcimialclkaa
open Go.RowKit
theorem conv26 {A : Option Addr} {c : Nat} {l : List Int} {w : World} (h : Slc w bc 1 A l) : (convert 26 9 (.slice A l.length c)).run Try.prog w = .ok (.string (strOfNums l)) w := by
  cases A with
  | none =>
    obtain rfl := List.eq_nil_of_length_eq_zero (h.none_len rfl)
    rw [run_convert_bytes_nil w 26 5 Try.underlying26 Try.underlying5 _ _ 9 Try.underlying9]
    rfl
  | some a =>
    cases hl : l with
    | nil =>
      rw [run_convert_bytes_string w 26 9 5 _ _ _ Try.underlying26 Try.underlying5 Try.underlying9]
      simp [Conv.bytesToString, loadCells, loadCellsFrom, strOfNums, Result.andThen]
      rfl
    | cons x xs =>
      obtain ⟨b, o, e, _⟩ := h 0 x (by rw [hl]; rfl)
      cases e
      rw [← hl]
      refine run_convert_bytes_arg w 26 5 Try.underlying26 Try.underlying5 b o _ _ l rfl (fun i hi => ?_) 9 Try.underlying9
      obtain ⟨b', o', e, _, hc⟩ := h i l[i] (List.getElem?_eq_getElem hi)
      cases e
      have := hc 0 _ rfl
      rw [show o + i * 1 + 0 = o + i by omega] at this
      rw [this]
      simp [List.getD, List.getElem?_eq_getElem hi]
def bytesEq (a b : List Int) : Bool := (strOfNums a).toList == (strOfNums b).toList
def sameP (p q : Pk) : Bool := (p.f == q.f) && (p.t == q.t) && bytesEq p.d.l q.d.l
set_option maxHeartbeats 800000 in
theorem samep_any (p q : Pk) (w : World) (hp : Slc w bc 1 p.d.A p.d.l) (hq : Slc w bc 1 q.d.A q.d.l) : Calls Try.prog 18 #[p.v, q.v] w (RetB w (sameP p q)) := by
  have HB : Hid (Below w.heap.size w ((w.alloc (.cells #[.int .i64 p.f, .int .i64 p.t, .slice p.d.A p.d.l.length p.d.c] 28)).alloc (.cells #[.int .i64 q.f, .int .i64 q.t, .slice q.d.A q.d.l.length q.d.c] 28))) := ext_alloc (ext_alloc (ext_refl w) _) _
  have k1 := conv26 (c := p.d.c) (hp.ext HB.out)
  have k2 := conv26 (c := q.d.c) (hq.ext HB.out)
  obtain ⟨r, hr⟩ : ∃ r, ((strOfNums p.d.l).toList == (strOfNums q.d.l).toList) = r := ⟨_, rfl⟩
  obtain ⟨s, hs⟩ : ∃ s, sameP p q = s := ⟨_, rfl⟩
  have HS := Lib.hid (show sameP p q = ((p.f == q.f) && (p.t == q.t) && r) by rw [← hr]; rfl)
  rw [hs] at HS ⊢
  clear hs
  by_cases h1 : p.f = q.f
  · have h1' : (p.f == q.f) = true := by simpa using h1
    by_cases h2 : p.t = q.t
    · have h2' : (p.t == q.t) = true := by simpa using h2
      have HS2 := Lib.hid (show s = r by rw [HS.out, h1', h2']; rfl)
      clear h1 h2 HS
      go_enter Try.func18, Try.ntmps18
      go_wp2_with fail
      go_ret
      exact ⟨ret_bool HS2.out.symm, HB.out⟩
    · have h2' : (p.t == q.t) = false := by simpa using h2
      have HS2 := Lib.hid (show s = false by rw [HS.out, h2']; simp)
      clear h1 h2 HS
      go_enter Try.func18, Try.ntmps18
      go_wp2_with fail
      go_ret
      exact ⟨ret_bool HS2.out.symm, HB.out⟩
  · have h1' : (p.f == q.f) = false := by simpa using h1
    have HS2 := Lib.hid (show s = false by rw [HS.out, h1']; simp)
    clear h1 HS
    go_enter Try.func18, Try.ntmps18
    go_wp2_with fail
    go_ret
    exact ⟨ret_bool HS2.out.symm, HB.out⟩
theorem samep_at {p q : Pk} {w : World} (r : Bool) (hr : sameP p q = r) (hp : Slc w bc 1 p.d.A p.d.l) (hq : Slc w bc 1 q.d.A q.d.l) : Calls Try.prog 18 #[.agg #[.int .i64 p.f, .int .i64 p.t, .slice p.d.A p.d.l.length p.d.c], .agg #[.int .i64 q.f, .int .i64 q.t, .slice q.d.A q.d.l.length q.d.c]] w (RetB w r) := by
  subst hr; exact samep_any p q w hp hq
theorem new_any (w : World) : Calls Try.prog 15 #[] w fun e w' => e = .returned (.agg #[.slice none 0 0, .slice none 0 0]) ∧ Below w.heap.size w w' := by
  go_enter Try.func15, Try.ntmps15
  go_wp2_with fail
  refine bodyPost_ret (v := zeroN.v) (by simp [results, Try.results15, go_sem, zeroN]) rfl ⟨rfl, ?_⟩
  exact ext_alloc (ext_refl w) _
theorem rnew_any (w : World) : Calls Try.prog 16 #[] w fun e w' => e = .returned (.agg #[.slice none 0 0, .slice none 0 0]) ∧ Below w.heap.size w w' := by
  go_enter Try.func16, Try.ntmps16
  go_wp2_with fail
  refine bodyPost_ret (v := zeroN.v) (by simp [results, Try.results16, go_sem, zeroN]) rfl ⟨rfl, ?_⟩
  exact ext_alloc (ext_refl w) _
def fewN (n : Nt) : Bool := decide (n.q.l.length ≤ 40) && decide (n.ap.l.length ≤ 40)
theorem few_any (n : Nt) (w : World) (hn : NOk w n) : Calls Try.prog 9 #[n.v] w (RetB w (fewN n)) := by
  have h1 := hn.ql
  have h2 := hn.al
  unfold maxLen at h1 h2
  clear hn
  by_cases k1 : n.q.l.length ≤ 40
  · by_cases k2 : n.ap.l.length ≤ 40
    all_goals
      go_enter Try.func9, Try.ntmps9
      go_wp2_with fail
      go_ret
      exact ⟨ret_bool (by simp [fewN, k1, k2]; try omega), ext_alloc (ext_refl w) _⟩
  · go_enter Try.func9, Try.ntmps9
    go_wp2_with fail
    go_ret
    exact ⟨ret_bool (by simp [fewN, k1]; try omega), ext_alloc (ext_refl w) _⟩
theorem few_at {n : Nt} {w : World} (r : Bool) (hr : fewN n = r) (hn : NOk w n) : Calls Try.prog 9 #[.agg #[.slice n.q.A n.q.l.length n.q.c, .slice n.ap.A n.ap.l.length n.ap.c]] w (RetB w r) := by
  subst hr; exact few_any n w hn
end Go.Proofs.Ythchcimialclkaa
