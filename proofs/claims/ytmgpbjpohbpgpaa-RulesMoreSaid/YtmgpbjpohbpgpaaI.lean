/- Contracts: the spans of some rules; the first cover. -/
import Derived.Test.YtmgpbjpohbpgpaaH
import Derived.Test.YtmgpbjpohbpgpaaPr
set_option linter.unusedSimpArgs false
set_option linter.unusedVariables false
namespace Go.Proofs.Ytmgpbjpohbpgpaa
open Go.RowKit
theorem enters43 : Enters Try.prog 43 := fun args w => by kernel_rfl
theorem spI_step {L : List Ru} {T : List Nat} {k i : Nat} {x : Ru} (h : T[k]? = some i) (hx : L[i]? = some x) : spI L (T.take (k + 1)) = spI L (T.take k) ++ [x.h] := by
  obtain ⟨hk, rfl⟩ := List.getElem?_eq_some_iff.1 h
  rw [← List.take_append_getElem hk, spI_app]
  simp [spI, hAt_eq hx]
theorem spI_len (L : List Ru) (T : List Nat) : (spI L T).length = T.length := by simp [spI]
set_option maxRecDepth 100000 in
set_option maxHeartbeats 1600000 in
theorem spans43_any (bl : Nat) (A B : Option Addr) (c c2 : Nat) (L : List Ru) (T : List Nat) (w : World) (hbl : Blk w bl [.slice A L.length c]) (hl : Slc w Ru.cells 8 A L) (hT : Slc w nc 1 B T) (hall : ∀ i ∈ T, i < L.length) (hL : L.length < 10000) (hTl : T.length < 10000) :
    Calls Try.prog 43 #[.slice B T.length c2, .pointer (some ⟨bl, 0, none⟩)] w (RetS w (spI L T)) := by
  have HB := Lib.hid hbl
  have HL := Lib.hid hl
  have HT := Lib.hid hT
  have HAll := Lib.hid hall
  clear hbl hl hT hall
  go_enter Try.func43, Try.ntmps43
  go_wp2_with fail
  go_loopw [3, 8] (fun v i W => ∃ k : Nat, k ≤ T.length ∧ i = .int .i64 k ∧ Own W w.heap.size 40 Sp.cells 2 v (spI L (T.take k)) ∧ Below w.heap.size w W) (fun _ i _ => T.length - (intOf i).toNat)
  case atStart => exact ⟨0, Nat.zero_le _, rfl, Own.nil _ _ _ _ _, ext_refl _⟩
  case round =>
    obtain ⟨k, hk, rfl, hO, hB⟩ := hrel
    by_cases hlt : k < T.length
    rotate_left
    · obtain rfl : k = T.length := by omega
      rw [List.take_length] at hO
      have hO2 := Lib.hid hO
      obtain ⟨A5, c5, rfl, hc, -, -⟩ := hO.form
      clear hO
      go_wp2_with fail
      go_ret
      exact ⟨A5, c5, by first | rfl | simp [spI_len], hO2.out.slc (fun _ => rfl) (by decide), hB⟩
    · obtain ⟨i, b1, o1, hi, hA1, hb1, hd⟩ := (HT.out.ext hB).at_ hlt
      have d0 : wr.cell? ⟨b1, o1 + k, none⟩ = some (.int .i64 i) := by have := hd 0 _ rfl; simpa using this
      clear hd
      have hil : i < L.length := HAll.out i (List.mem_of_getElem? hi)
      obtain ⟨x, b2, o2, hx, hA2, hb2, hd⟩ := (HL.out.ext hB).at_ hil
      have e6 := hd 6 _ rfl
      have e7 := hd 7 _ rfl
      clear hd
      have bc := (HB.out.ext hB).c 0 _ rfl
      have HSt := Lib.hid (spI_step hi hx)
      clear hi hx
      have hil' : (i : Int) < L.length := by omega
      have hlt' : (k : Int) < T.length := by omega
      obtain ⟨A5, c5, rfl, hc, -, -⟩ := hO.form
      have hS := slc_litH wr [x.h] #[.int .i64 x.f, .int .i64 x.t] 40 (enc := Sp.cells) (sz := 2) (fun _ => rfl) rfl wr.heap.size rfl
      have hl5 : (spI L (T.take (k + 1))).length = k + 1 := by rw [spI_len]; simp; omega
      have hl4 : (spI L (T.take k)).length = k := by rw [spI_len]; simp; omega
      rw [hl4] at hc hO ⊢
      obtain ⟨v', w5, hrun, A6, c6, hv6, hO6, hB5, -, -, -⟩ := Own.append_k (w0 := w) I22 46 (hO.alloc (.cells #[.int .i64 x.f, .int .i64 x.t] 40)) (ext_alloc hB _) (ys := [x.h]) (m := 1) rfl 1 hS (spI L (T.take (k + 1))) HSt.out.symm _ hl5 (by omega) (by unfold maxLen; omega)
      rw [← hv6] at hO6
      have HRUN := Lib.hid hrun
      have HO6 := Lib.hid hO6
      have HB5 := Lib.hid hB5
      clear hrun hO6 hB5 hS hv6 HSt hl4 hl5 hO
      go_wp2_with (at_builtin; refine wpList_append_run rfl (.tmp 12) (.tmp 18) 46 rfl (.slice A5 k c5) (.slice (some ⟨wr.heap.size, 0, none⟩) 1 1) rfl rfl HRUN.out ?_)
      rw [← hA1]
      go_roundw
      case rel => exact ⟨k + 1, hlt, by go_num, HO6.out, HB5.out⟩
      case measure => simp [intOf]; omega
end Go.Proofs.Ytmgpbjpohbpgpaa
