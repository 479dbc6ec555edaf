/- Contracts of the reference: the first contradiction. -/
import Derived.Test.YtmgpbjpohbpgpaaV
import Derived.Test.YtmgpbjpohbpgpaaO
set_option linter.unusedSimpArgs false
set_option linter.unusedVariables false
namespace Go.Proofs.Ytmgpbjpohbpgpaa
open Go.RowKit
theorem info42 : (Try.prog.info? 42).map (fun i => (i.zero, i.size, i.bytes)) = some (some (.agg #[.int .i64 0, .string ⟨#[]⟩, .string ⟨#[]⟩, .int .i64 0, .int .i64 0, .int .i64 0, .int .i64 0, .int .i64 0]), 8, 80) := by kernel_rfl
theorem I29 : EInfo Try.prog 29 42 Ru.cells 8 80 := by
  obtain ⟨i0, hi, hz0, hz1, hz2⟩ := info_parts info42
  exact ⟨Try.underlying29, ⟨i0, _, hi, hz0, hz1, hz2, rfl⟩, by decide, fun _ => rfl, fun x => by simp [Ru.cells, Value.oneCell']⟩
theorem pickR_step {l : List Ru} {T : List Nat} {k i : Nat} {x : Ru} (h : T[k]? = some i) (hx : l[i]? = some x) : pickR l (T.take (k + 1)) = pickR l (T.take k) ++ [x] := by
  obtain ⟨hk, rfl⟩ := List.getElem?_eq_some_iff.1 h
  unfold pickR
  rw [← List.take_append_getElem hk, List.filterMap_append]
  congr 1
  simp [hx]
theorem pickR_len (l : List Ru) (T : List Nat) : (pickR l T).length ≤ T.length := List.length_filterMap_le ..
def PickR (w : World) (R : List Ru) (e : Ending) (w' : World) : Prop := ∃ A c, e = .returned (.slice A R.length c) ∧ Slc w' Ru.cells 8 A R ∧ Below w.heap.size w w'
set_option maxRecDepth 100000 in
set_option maxHeartbeats 6400000 in
theorem pick_any (A B : Option Addr) (c cb : Nat) (l : List Ru) (T : List Nat) (w : World) (hl : Slc w Ru.cells 8 A l) (hT : Slc w nc 1 B T) (hall : ∀ i ∈ T, i < l.length) (hL : l.length < 1000) (hTl : T.length < 1000) :
    Calls Try.prog 47 #[.slice A l.length c, .slice B T.length cb] w (PickR w (pickR l T)) := by
  have HL := Lib.hid hl
  have HT := Lib.hid hT
  have HAll := Lib.hid hall
  clear hl hT hall
  go_enter Try.func47, Try.ntmps47
  go_wp2_with fail
  have HO1 := Lib.hid (Own.madeH (α := Ru) w w.heap.size 42 Ru.cells 8 (Nat.le_refl _) w.heap.size rfl)
  go_loopw [5, 6] (fun v i W => ∃ k : Nat, k ≤ T.length ∧ i = .int .i64 k ∧ Own W w.heap.size 42 Ru.cells 8 v (pickR l (T.take k)) ∧ Below w.heap.size w W) (fun _ i _ => T.length - (intOf i).toNat)
  case atStart => exact ⟨0, Nat.zero_le _, rfl, HO1.out, ext_alloc (ext_refl _) _⟩
  case round =>
    obtain ⟨k, hk, rfl, hO, hB⟩ := hrel
    clear HO1
    by_cases hlt : k < T.length
    rotate_left
    · obtain rfl : k = T.length := by omega
      rw [List.take_length] at hO
      have HO2 := Lib.hid hO
      have E := Lib.hid hB
      obtain ⟨A5, c5, rfl, hc, -, -⟩ := hO.form
      clear hO hB
      go_wp2_with fail
      go_ret
      exact ⟨A5, c5, rfl, HO2.out.slc (fun _ => rfl) (by decide), E.out⟩
    · obtain ⟨i, b1, o1, hi, rfl, hb1, hd⟩ := (HT.out.ext hB).at_ hlt
      have d0 : wr.cell? ⟨b1, o1 + k, none⟩ = some (.int .i64 i) := by have := hd 0 _ rfl; simpa using this
      clear hd
      have hil : i < l.length := HAll.out i (List.mem_of_getElem? hi)
      obtain ⟨x, b2, o2, hx, rfl, hb2, hd⟩ := (HL.out.ext hB).at_ hil
      have e0 := hd 0 _ rfl
      have e1 := hd 1 _ rfl
      have e2 := hd 2 _ rfl
      have e3 := hd 3 _ rfl
      have e4 := hd 4 _ rfl
      have e5 := hd 5 _ rfl
      have e6 := hd 6 _ rfl
      have e7 := hd 7 _ rfl
      simp only [Nat.add_zero] at e0
      clear hd
      have HSt := Lib.hid (pickR_step hi hx)
      clear hi hx
      have hil' : (i : Int) < l.length := by omega
      have hlt' : (k : Int) < T.length := by omega
      obtain ⟨A5, c5, rfl, hc, -, -⟩ := hO.form
      have hS := slc_litH wr [x] #[.int .i64 x.k, .string x.sc, .string x.sa, .int .i64 x.cl, .int .i64 x.ap, .int .i64 x.n, .int .i64 x.f, .int .i64 x.t] 42 (enc := Ru.cells) (sz := 8) (fun _ => rfl) rfl wr.heap.size rfl
      have hl5 : (pickR l (T.take (k + 1))).length ≤ 1000 := by have := pickR_len l (T.take (k + 1)); simp only [List.length_take] at this; omega
      obtain ⟨v', w5, hrun, A6, c6, hv6, hO6, hB5, -, -, -⟩ := Own.append_k (w0 := w) I29 29 (hO.alloc (.cells #[.int .i64 x.k, .string x.sc, .string x.sa, .int .i64 x.cl, .int .i64 x.ap, .int .i64 x.n, .int .i64 x.f, .int .i64 x.t] 42)) (ext_alloc hB _) (ys := [x]) (m := 1) rfl 1 hS (pickR l (T.take (k + 1))) HSt.out.symm _ rfl (by omega) (by unfold maxLen; omega)
      rw [← hv6] at hO6
      have HRUN := Lib.hid hrun
      have HO6 := Lib.hid hO6
      have HB5 := Lib.hid hB5
      clear hrun hO6 hB5 hS hv6 HSt hl5 hO
      go_wp2_with (at_builtin; refine wpList_append_run rfl (.tmp 14) (.tmp 22) 29 rfl (.slice A5 (pickR l (T.take k)).length c5) (.slice (some ⟨wr.heap.size, 0, none⟩) 1 1) rfl rfl HRUN.out ?_)
      first
        | exact ⟨⟨k + 1, hlt, by go_num, HO6.out, HB5.out⟩, by simp [intOf]; omega⟩
        | (go_roundw
           case rel => exact ⟨k + 1, hlt, by go_num, HO6.out, HB5.out⟩
           case measure => simp [intOf]; omega)
def FirR (w : World) (o : Option (List Nat)) (e : Ending) (w' : World) : Prop := match o with
  | some T => ∃ A c, e = .returned (.tuple #[.slice A T.length c, .bool true]) ∧ Slc w' nc 1 A T ∧ Below w.heap.size w w'
  | none => ∃ A n c, e = .returned (.tuple #[.slice A n c, .bool false]) ∧ Below w.heap.size w w'
def restF (l : List Ru) (k : Nat) (b : List Nat) (m : Nat) : Option (List Nat) := (List.range' m (l.length - m)).findSome? (fun i => firstG l k (b ++ [i]))
theorem restF_end {l : List Ru} {k : Nat} {b : List Nat} {m : Nat} (h : l.length ≤ m) : restF l k b m = none := by
  unfold restF; rw [show l.length - m = 0 by omega]; rfl
theorem restF_step {l : List Ru} {k : Nat} {b : List Nat} {m : Nat} (h : m < l.length) : restF l k b m = (firstG l k (b ++ [m])).or (restF l k b (m + 1)) := by
  unfold restF
  rw [show l.length - m = (l.length - (m + 1)) + 1 by omega, List.range'_succ, List.findSome?_cons]
  cases firstG l k (b ++ [m]) <;> rfl
theorem firstG_len {l : List Ru} : ∀ {k : Nat} {b T : List Nat}, firstG l k b = some T → T.length = b.length + k
  | 0, b, T, h => by
    unfold firstG at h
    split at h
    · cases h; rfl
    · cases h
  | k + 1, b, T, h => by
    rw [firstG] at h
    obtain ⟨i, -, hi⟩ := List.exists_of_findSome?_eq_some h
    have := firstG_len hi
    simp at this
    omega
set_option maxRecDepth 100000 in
set_option maxHeartbeats 6400000 in
theorem first_base (A B : Option Addr) (c cb many : Nat) (l : List Ru) (b : List Nat) (w : World) (hl : Slc w Ru.cells 8 A l) (hT : Slc w nc 1 B b) (hall : ∀ i ∈ b, i < l.length) (hL : l.length < 100) (hTl : b.length < 100) (hm : b.length = many) :
    Calls Try.prog 30 #[.slice A l.length c, .slice B b.length cb, .int .i64 many] w (FirR w (firstG l 0 b)) := by
  have HT := Lib.hid hT
  have HPk := Lib.hid (pick_any A B c cb l b w hl hT hall (by omega) (by omega))
  have hpl := pickR_len l b
  obtain ⟨q, hq⟩ : ∃ q, conB (pickR l b) = q := ⟨_, rfl⟩
  have HF := Lib.hid (show firstG l 0 b = if q = true then some b else none by rw [firstG, hq])
  rw [HF.out]
  have hmm : ((b.length : Int) == (many : Int)) = true := by simp [hm]
  obtain ⟨P, hP⟩ : ∃ P, pickR l b = P := ⟨_, rfl⟩
  rw [hP] at HPk hpl hq
  have HQ := Lib.hid hq
  clear hq hP hm HF hl hT hall
  obtain ⟨bl, hbl⟩ : ∃ n, b.length = n := ⟨_, rfl⟩
  have HBl := Lib.hid hbl
  rw [hbl] at hmm HPk hTl hpl ⊢
  clear hbl
  cases q
  · go_enter Try.func30, Try.ntmps30
    go_wp2_with fail
    refine HPk.out.mono ?_
    rintro e w1 ⟨A1, c1, rfl, hs, B1⟩
    have HC := Lib.hid (contr_any A1 c1 P w1 hs (by omega))
    rw [HQ.out] at HC
    replace HT := Lib.hid (HT.out.ext B1)
    have E := Lib.hid B1
    clear HPk hs B1
    go_wp2_with fail
    refine HC.out.mono ?_
    rintro e w2 ⟨rfl, B2⟩
    replace HT := Lib.hid (HT.out.ext B2)
    replace E := Lib.hid (ext_trans E.out B2)
    clear HC B2
    go_wp2_with fail
    refine bodyPost_ret (v := .tuple #[.slice B bl cb, .bool false]) (by simp [results, Try.results30, go_sem, *]) rfl ?_
    exact ⟨B, bl, cb, rfl, E.out⟩
  · go_enter Try.func30, Try.ntmps30
    go_wp2_with fail
    refine HPk.out.mono ?_
    rintro e w1 ⟨A1, c1, rfl, hs, B1⟩
    have HC := Lib.hid (contr_any A1 c1 P w1 hs (by omega))
    rw [HQ.out] at HC
    replace HT := Lib.hid (HT.out.ext B1)
    have E := Lib.hid B1
    clear HPk hs B1
    go_wp2_with fail
    refine HC.out.mono ?_
    rintro e w2 ⟨rfl, B2⟩
    replace HT := Lib.hid (HT.out.ext B2)
    replace E := Lib.hid (ext_trans E.out B2)
    clear HC B2
    go_wp2_with fail
    refine bodyPost_ret (v := .tuple #[.slice B bl cb, .bool true]) (by simp [results, Try.results30, go_sem, *]) rfl ?_
    exact ⟨B, cb, by rw [HBl.out], HT.out, E.out⟩
set_option maxRecDepth 100000 in
set_option maxHeartbeats 12800000 in
theorem first_any (A : Option Addr) (c many : Nat) (l : List Ru) (hL : l.length < 100) (hmany : many < 100) : ∀ (k : Nat) (b : List Nat) (B : Option Addr) (cb n : Nat) (w : World), Slc w Ru.cells 8 A l → Slc w nc 1 B b → (∀ i ∈ b, i < l.length) → b.length + k = many → n = b.length →
    Calls Try.prog 30 #[.slice A l.length c, .slice B n cb, .int .i64 many] w (FirR w (firstG l k b))
  | 0, b, B, cb, n, w, hl, hT, hall, hm, hn => by subst hn; exact first_base A B c cb many l b w hl hT hall hL (by omega) (by omega)
  | k + 1, b, B, cb, n, w, hl, hT, hall, hm, hn => by
    have HL := Lib.hid hl
    have HT := Lib.hid hT
    have HAll := Lib.hid hall
    have IH := Lib.hid (first_any A c many l hL hmany k)
    obtain ⟨o, ho⟩ : ∃ o, firstG l (k + 1) b = o := ⟨_, rfl⟩
    obtain ⟨fr, hfr⟩ : ∃ f, fromOf b = f := ⟨_, rfl⟩
    have HO := Lib.hid (show restF l k b fr = o by rw [← ho, ← hfr]; rfl)
    rw [ho]
    have hmm : ((n : Int) == (many : Int)) = false := by simp; omega
    have hmb : b.length + k + 1 = many := by omega
    clear hl hT hall ho
    have HM := Lib.hid hmb
    clear hm hmb
    go_enter Try.func30, Try.ntmps30
    rcases List.eq_nil_or_concat b with hb | ⟨b0, j, hb⟩
    · have hf0 : fr = 0 := by rw [← hfr, hb]; rfl
      subst hf0
      have hn0 : n = 0 := by rw [hn, hb]; rfl
      subst hn0
      have HN := Lib.hid hn
      have hmz : ((0 : Int) == (many : Int)) = false := by have := HM.out; simp; omega
      clear hb hfr hn hmm
      go_wp2_with fail
      go_loopw [9] (fun i W => ∃ m : Nat, 0 ≤ m ∧ m ≤ l.length ∧ i = .int .i64 m ∧ Hid (restF l k b m = o) ∧ Below w.heap.size w W) (fun i _ => l.length - (intOf i).toNat)
      case atStart => exact ⟨0, Nat.le_refl _, by omega, by first | rfl | go_num, HO.out, ext_refl _⟩
      case round =>
        obtain ⟨m, hm1, hm2, rfl, HR, hB⟩ := hrel
        have E := Lib.hid hB
        clear hB
        have hN := HN.out
        by_cases hlt : m < l.length
        rotate_left
        · obtain rfl : o = none := by rw [← HR.out]; exact restF_end (by omega)
          clear hN
          go_wp2_with fail
          refine bodyPost_ret (v := .tuple #[.slice none 0 0, .bool false]) (by simp [results, Try.results30, go_sem, *]) rfl ?_
          exact ⟨none, 0, 0, rfl, E.out⟩
        · obtain ⟨g, hg⟩ : ∃ g, firstG l k (b ++ [m]) = g := ⟨_, rfl⟩
          have HR2 := Lib.hid (show g.or (restF l k b (m + 1)) = o by rw [← hg, ← restF_step hlt]; exact HR.out)
          have hlt' : (m : Int) < l.length := by omega
          have hO0 := Own.madeH (α := Nat) wr wr.heap.size 3 nc 1 (Nat.le_refl _) wr.heap.size rfl
          obtain ⟨v1, w2, hrun1, A1, c1, hv1, hO1, hB1, -, hc1, -⟩ := Own.append_k (w0 := wr) I34 34 hO0 (ext_alloc (ext_refl wr) _) (ys := b) (m := 0) hN cb ((HT.out.ext E.out).alloc _) b rfl 0 hN.symm (by have := HM.out; omega) (by have := HM.out; unfold maxLen; omega)
          subst hv1
          have hS2 := slc_litH w2 [m] #[.int .i64 m] 3 (enc := nc) (sz := 1) (fun _ => rfl) rfl w2.heap.size rfl
          obtain ⟨v2, w4, hrun2, A2, c2, hv2, hO2, hB2, -, -, -⟩ := Own.append_k (w0 := wr) I34 34 (hO1.alloc (.cells #[.int .i64 m] 3)) (ext_alloc hB1 _) (ys := [m]) (m := 1) rfl 1 hS2 (b ++ [m]) rfl (0 + 1) (by rw [List.length_append, ← hN]; rfl) (by have := HM.out; omega) (by have := HM.out; unfold maxLen; omega)
          subst hv2
          have HRUN1 := Lib.hid hrun1
          have HRUN2 := Lib.hid hrun2
          have HC := Lib.hid (IH.out (b ++ [m]) A2 c2 (0 + 1) w4 (HL.out.ext (ext_trans E.out hB2)) (hO2.slc (fun _ => rfl) (by decide)) (fun i hi => by rcases List.mem_append.1 hi with hi | hi; exact HAll.out i hi; simp at hi; omega) (by have h9 := HM.out; rw [List.length_append]; show b.length + 1 + k = many; omega) (by rw [List.length_append, ← hN]; rfl))
          rw [hg] at HC
          replace E := Lib.hid (ext_trans E.out hB2)
          clear hrun1 hrun2 hO0 hO1 hO2 hB1 hB2 hS2 hc1 hg hN HR
          go_wp2_with (at_builtin; first | refine wpList_append_run rfl (.tmp 40) (.tmp 41) 34 rfl (.slice (some ⟨wr.heap.size, 0, none⟩) 0 0) (.slice B 0 cb) rfl rfl HRUN1.out ?_ | refine wpList_append_run rfl (.tmp 42) (.tmp 44) 34 rfl (.slice A1 0 c1) (.slice (some ⟨w2.heap.size, 0, none⟩) 1 1) rfl rfl HRUN2.out ?_)
          refine HC.out.mono ?_
          rintro e w5 h5
          clear HC
          cases g with
          | none =>
            obtain ⟨A5, n5, c5, rfl, B5⟩ := h5
            have E5 := Lib.hid (ext_trans E.out B5)
            clear B5
            go_wp2_with fail
            first
              | exact ⟨⟨m + 1, by omega, hlt, by go_num, HR2.out, E5.out⟩, by simp [intOf]; omega⟩
              | (go_roundw
                 case rel => exact ⟨m + 1, by omega, hlt, by go_num, HR2.out, E5.out⟩
                 case measure => simp [intOf]; omega)
          | some T =>
            obtain ⟨A5, c5, rfl, hs5, B5⟩ := h5
            have E5 := Lib.hid (ext_trans E.out B5)
            have HS5 := Lib.hid hs5
            clear B5 hs5
            obtain rfl : some T = o := HR2.out
            go_wp2_with fail
            refine bodyPost_ret (v := .tuple #[.slice A5 T.length c5, .bool true]) (by simp [results, Try.results30, go_sem, *]) rfl ?_
            exact ⟨A5, c5, rfl, HS5.out, E5.out⟩
    · rw [List.concat_eq_append] at hb
      have hf0 : fr = j + 1 := by rw [← hfr, hb, fromOf_snoc]
      subst hf0
      have hn1 : n = b0.length + 1 := by rw [hn, hb]; simp
      obtain ⟨n0, hn0⟩ : ∃ n0, b0.length = n0 := ⟨_, rfl⟩
      rw [hn0] at hn1
      subst hn1
      obtain ⟨y, b1, o1, hy, rfl, hb1, hd⟩ := HT.out.at_ (show n0 < b.length by rw [hb]; simp; omega)
      obtain rfl : y = j := by
        rw [hb, List.getElem?_append_right (by omega)] at hy
        simp [hn0] at hy
        exact hy.symm
      have hjl : y < l.length := HAll.out y (List.mem_of_getElem? hy)
      have d0 : w.cell? ⟨b1, o1 + n0, none⟩ = some (.int .i64 y) := by have := hd 0 _ rfl; simpa using this
      have HN := Lib.hid hn
      clear hb hfr hd hy hn0
      have hw1 : IntKind.i64.wrap (((n0 + 1 : Nat) : Int) - 1) = (n0 : Int) := by rw [IntWalk.i64_in _ (by have := HM.out; omega)]; omega
      have hmz : (((n0 : Int) + 1) == (many : Int)) = false := by have := HM.out; simp; omega
      clear hmm
      have hn9 : n0 < 100 := by have := HM.out; omega
      clear hn
      go_wp2_with fail
      go_loopw [9] (fun i W => ∃ m : Nat, (y + 1) ≤ m ∧ m ≤ l.length ∧ i = .int .i64 m ∧ Hid (restF l k b m = o) ∧ Below w.heap.size w W) (fun i _ => l.length - (intOf i).toNat)
      case atStart => exact ⟨(y + 1), Nat.le_refl _, by omega, by first | rfl | go_num, HO.out, ext_refl _⟩
      case round =>
        obtain ⟨m, hm1, hm2, rfl, HR, hB⟩ := hrel
        have E := Lib.hid hB
        clear hB
        have hN := HN.out
        by_cases hlt : m < l.length
        rotate_left
        · obtain rfl : o = none := by rw [← HR.out]; exact restF_end (by omega)
          clear hN
          go_wp2_with fail
          refine bodyPost_ret (v := .tuple #[.slice none 0 0, .bool false]) (by simp [results, Try.results30, go_sem, *]) rfl ?_
          exact ⟨none, 0, 0, rfl, E.out⟩
        · obtain ⟨g, hg⟩ : ∃ g, firstG l k (b ++ [m]) = g := ⟨_, rfl⟩
          have HR2 := Lib.hid (show g.or (restF l k b (m + 1)) = o by rw [← hg, ← restF_step hlt]; exact HR.out)
          have hlt' : (m : Int) < l.length := by omega
          have hO0 := Own.madeH (α := Nat) wr wr.heap.size 3 nc 1 (Nat.le_refl _) wr.heap.size rfl
          obtain ⟨v1, w2, hrun1, A1, c1, hv1, hO1, hB1, -, hc1, -⟩ := Own.append_k (w0 := wr) I34 34 hO0 (ext_alloc (ext_refl wr) _) (ys := b) (m := (n0 + 1)) hN cb ((HT.out.ext E.out).alloc _) b rfl (n0 + 1) hN.symm (by have := HM.out; omega) (by have := HM.out; unfold maxLen; omega)
          subst hv1
          have hS2 := slc_litH w2 [m] #[.int .i64 m] 3 (enc := nc) (sz := 1) (fun _ => rfl) rfl w2.heap.size rfl
          obtain ⟨v2, w4, hrun2, A2, c2, hv2, hO2, hB2, -, -, -⟩ := Own.append_k (w0 := wr) I34 34 (hO1.alloc (.cells #[.int .i64 m] 3)) (ext_alloc hB1 _) (ys := [m]) (m := 1) rfl 1 hS2 (b ++ [m]) rfl ((n0 + 1) + 1) (by rw [List.length_append, ← hN]; rfl) (by have := HM.out; omega) (by have := HM.out; unfold maxLen; omega)
          subst hv2
          have HRUN1 := Lib.hid hrun1
          have HRUN2 := Lib.hid hrun2
          have HC := Lib.hid (IH.out (b ++ [m]) A2 c2 ((n0 + 1) + 1) w4 (HL.out.ext (ext_trans E.out hB2)) (hO2.slc (fun _ => rfl) (by decide)) (fun i hi => by rcases List.mem_append.1 hi with hi | hi; exact HAll.out i hi; simp at hi; omega) (by have h9 := HM.out; rw [List.length_append]; show b.length + 1 + k = many; omega) (by rw [List.length_append, ← hN]; rfl))
          rw [hg] at HC
          replace E := Lib.hid (ext_trans E.out hB2)
          clear hrun1 hrun2 hO0 hO1 hO2 hB1 hB2 hS2 hc1 hg hN HR
          go_wp2_with (at_builtin; first | refine wpList_append_run rfl (.tmp 40) (.tmp 41) 34 rfl (.slice (some ⟨wr.heap.size, 0, none⟩) 0 0) (.slice (some ⟨b1, o1, none⟩) (n0 + 1) cb) rfl rfl HRUN1.out ?_ | refine wpList_append_run rfl (.tmp 42) (.tmp 44) 34 rfl (.slice A1 (n0 + 1) c1) (.slice (some ⟨w2.heap.size, 0, none⟩) 1 1) rfl rfl HRUN2.out ?_)
          refine HC.out.mono ?_
          rintro e w5 h5
          clear HC
          cases g with
          | none =>
            obtain ⟨A5, n5, c5, rfl, B5⟩ := h5
            have E5 := Lib.hid (ext_trans E.out B5)
            clear B5
            go_wp2_with fail
            first
              | exact ⟨⟨m + 1, by omega, hlt, by go_num, HR2.out, E5.out⟩, by simp [intOf]; omega⟩
              | (go_roundw
                 case rel => exact ⟨m + 1, by omega, hlt, by go_num, HR2.out, E5.out⟩
                 case measure => simp [intOf]; omega)
          | some T =>
            obtain ⟨A5, c5, rfl, hs5, B5⟩ := h5
            have E5 := Lib.hid (ext_trans E.out B5)
            have HS5 := Lib.hid hs5
            clear B5 hs5
            obtain rfl : some T = o := HR2.out
            go_wp2_with fail
            refine bodyPost_ret (v := .tuple #[.slice A5 T.length c5, .bool true]) (by simp [results, Try.results30, go_sem, *]) rfl ?_
            exact ⟨A5, c5, rfl, HS5.out, E5.out⟩
end Go.Proofs.Ytmgpbjpohbpgpaa
