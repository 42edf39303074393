/- The walks of the document's Make and Is. -/
import Derived.Test.YtjhclopdcbnmkaaGreatDoorAddT
set_option linter.unusedSimpArgs false
set_option linter.unusedVariables false
namespace Go.Proofs.YtjhclopdcbnmkaaGreatDoor
open Go.RowKit PX

theorem Later.only {a b c : World} (h : Later a b) {r : Nat → Prop} (ho : Only r b c) (hr : ∀ q, r q → a.heap.size ≤ q) : Later a c := Below.trans h (ho.below (Below.size h) hr)
/-- A table that is made. -/
def MadeT (S : ByteArray) (x : Rx) (w : World) (e : Ending) (w' : World) : Prop :=
  ∃ (p n : Nat) (nds : List Nd) (X : Nat → Rx) (nb nc kb kc : Nat) (kk : List Nat), e = .returned (.tuple #[.pointer (some ⟨p, 0, none⟩), .int .i64 n]) ∧ Later w w' ∧ TabS (fun _ => False) w' p S nds X nb nc kb kc kk ∧ n < nds.length ∧ X n = x ∧ w.heap.size ≤ p ∧ ∀ q ∈ kk, w.heap.size ≤ q

set_option maxRecDepth 100000 in
set_option maxHeartbeats 2000000 in
theorem make_tab (w : World) (X : RxA) (S : ByteArray) (hS : S.size ≤ 256) (hin : X.In w w.heap.size) (hc : checkR X.bare = 0) :
    Calls Tryz.prog 41 #[X.val, .string S] w (MadeT S X.bare w) := by
  obtain ⟨hform, hbig⟩ := (checkR_zero _).1 hc
  obtain ⟨W1, hW1⟩ : ∃ W1, (w.alloc (.cells X.cells.toArray 26)).alloc (.cells #[.string S, .slice none 0 0, .slice none 0 0] 118) = W1 := ⟨_, rfl⟩
  have hl1 : Later w W1 := by rw [← hW1]; exact ((Later.refl w).alloc _).alloc _
  have hb1 : W1.heap[w.heap.size]? = some (.cells X.cells.toArray 26 (0, 0)) := by rw [← hW1]; exact alloc_old (alloc_block w _) _
  have ht1 : W1.heap[w.heap.size + 1]? = some (.cells #[.string S, .slice none 0 0, .slice none 0 0] 118 (0, 0)) := by
    have := alloc_block (w.alloc (.cells X.cells.toArray 26)) (.cells #[.string S, .slice none 0 0, .slice none 0 0] 118)
    rw [World.size_alloc] at this
    rw [← hW1]; exact this
  have hA : AInv W1 (w.heap.size + 1) S [] [] [] (.slice none 0 0) (.slice none 0 0) :=
    ⟨ht1, ⟨rfl, .inl ⟨rfl, rfl⟩⟩, ⟨rfl, .inl ⟨rfl, rfl⟩⟩, (fun g h => by cases h), (fun q h => by rcases h with h | h <;> cases h), ⟨rfl, rfl⟩, (fun i nd h => by simp at h), (fun q h => by simp at h), List.nodup_nil, (fun i nd h => by simp at h), (fun i nd h => by simp at h)⟩
  have hcall := add_tab hS X W1 [] [] [] _ _ hA ((hin.below hl1 (Nat.le_refl _)).later (by omega) (fun _ _ _ => rfl)) hform (by simp; omega)
  have hcall2 := hcall.mono (R' := fun e w' => ∃ (n : Nat) (nds : List Nd) (Y : Nat → Rx) (nb nc kb kc : Nat) (kk : List Nat), e = .returned (.int .i64 n) ∧ Later w w' ∧ TabS (fun _ => False) w' (w.heap.size + 1) S nds Y nb nc kb kc kk ∧ n < nds.length ∧ Y n = X.bare ∧ ∀ q ∈ kk, w.heap.size ≤ q) (by
    rintro e w' ⟨c, mn, mx, mk, vn', vk', rfl, hc2, hA2, h1, -, hg, ho, hu⟩
    simp only [List.nil_append, List.length_nil, Nat.zero_add] at hA2 hc2 hg
    obtain ⟨nb, nc, kb, kc, htab⟩ := hA2.tab (by omega)
    refine ⟨c, mn, _, nb, nc, kb, kc, mk, rfl, ?_, htab, by omega, hg, fun q hq => ?_⟩
    · refine Below.trans hl1 (ho.below (Below.size hl1) (fun q hq => ?_))
      rcases hq with rfl | hq | hq | hq | ⟨i, nd, hi, -⟩
      · omega
      · cases hq
      · cases hq
      · cases hq
      · simp at hi
    · have := (hA2.rows q hq).1; omega)
  obtain ⟨x, hx⟩ : ∃ x, X.bare = x := ⟨_, rfl⟩
  rw [hx] at hcall2 ⊢
  clear hcall hA hin hc hform hbig ht1 hx
  obtain ⟨k, mn, mx, s0, s1, s2, s3, a, cap, l⟩ := X
  simp only [RxA.val, RxA.cells] at hcall2 hb1 hW1 ⊢
  obtain ⟨n, hn⟩ : ∃ n, l.length = n := ⟨_, rfl⟩
  rw [hn] at hcall2 hb1 hW1 ⊢
  obtain ⟨xb, hxb⟩ : ∃ xb, w.heap.size = xb := ⟨_, rfl⟩
  rw [hxb] at hcall2 hb1
  have x0 := cell_of_block hb1 0
  have x1 := cell_of_block hb1 1
  have x2 := cell_of_block hb1 2
  have x3 := cell_of_block hb1 3
  have x4 := cell_of_block hb1 4
  have x5 := cell_of_block hb1 5
  have x6 := cell_of_block hb1 6
  have x7 := cell_of_block hb1 7
  simp only [List.getElem?_toArray, List.getElem?_cons_zero, List.getElem?_cons_succ] at x0 x1 x2 x3 x4 x5 x6 x7
  have HC := Lib.hid hcall2
  have HW1 := Lib.hid hW1
  have HXB := Lib.hid hxb
  clear hcall2 hW1 hb1 hn hl1
  go_enter Tryz.func41, Tryz.ntmps41
  go_upto_region 2 with fail
  rw [HW1.out]
  clear HW1 hxb
  go_wp2_with (first
    | (go_at_call 66; (with_reducible refine HC.out.mono ?_); rintro e w2 ⟨n', nds, Y, nb, nc, kb, kc, kk, rfl, hl2, htab, hnl, hYn, hkk⟩)
    | fail)
  go_ret2
  exact ⟨xb + 1, n', nds, Y, nb, nc, kb, kc, kk, rfl, hl2, htab, hnl, hYn, by rw [HXB.out]; omega, by rw [HXB.out]; exact hkk⟩

set_option maxRecDepth 100000 in
set_option maxHeartbeats 2000000 in
theorem ris_any (w : World) (X : RxA) (S : ByteArray) (hS : S.size ≤ 256) (hin : X.In w w.heap.size) (hc : checkR X.bare = 0) :
    Calls Tryz.prog 24 #[X.val, .string S] w fun e w' => e = .returned (.bool (inB X.bare.lang S.data.toList)) ∧ Later w w' := by
  obtain ⟨w0, hw0⟩ : ∃ w0, w.alloc (.cells X.cells.toArray 26) = w0 := ⟨_, rfl⟩
  have hl0 : Later w w0 := by rw [← hw0]; exact (Later.refl w).alloc _
  have hx0 : w0.heap[w.heap.size]? = some (.cells X.cells.toArray 26 (0, 0)) := by rw [← hw0]; exact alloc_block w _
  have hmk := make_tab w0 X S hS ((hin.below hl0 (Nat.le_refl _)).later (Below.size hl0) (fun _ _ _ => rfl)) hc
  obtain ⟨x, hx⟩ : ∃ x, X.bare = x := ⟨_, rfl⟩
  rw [hx] at hmk ⊢
  clear hin hc hx
  obtain ⟨k, mn, mx, s0, s1, s2, s3, a, cap, l⟩ := X
  simp only [RxA.val, RxA.cells] at hmk hx0 hw0 ⊢
  obtain ⟨b0, hb0⟩ : ∃ b0, w.heap.size = b0 := ⟨_, rfl⟩
  obtain ⟨n, hn⟩ : ∃ n, l.length = n := ⟨_, rfl⟩
  rw [hn] at hmk hx0 hw0 ⊢
  rw [hb0] at hx0
  have x0 := cell_of_block hx0 0
  have x1 := cell_of_block hx0 1
  have x2 := cell_of_block hx0 2
  have x3 := cell_of_block hx0 3
  have x4 := cell_of_block hx0 4
  have x5 := cell_of_block hx0 5
  have x6 := cell_of_block hx0 6
  have x7 := cell_of_block hx0 7
  simp only [List.getElem?_toArray, List.getElem?_cons_zero, List.getElem?_cons_succ] at x0 x1 x2 x3 x4 x5 x6 x7
  have HM := Lib.hid hmk
  have HW0 := Lib.hid hw0
  have HL0 := Lib.hid hl0
  have hss : (S.size : Int) < (S.size : Int) + 1 := by omega
  have HSS := Lib.hid (ba_len S)
  clear hmk hw0 hx0 hn hl0
  go_enter Tryz.func24, Tryz.ntmps24
  go_upto_region 1 with fail
  rw [HW0.out]
  clear HW0 hb0
  go_wp2_with (first
    | (go_at_call 41; (with_reducible refine HM.out.mono ?_); rintro e w1 ⟨p, n', nds, Y, nb, nc, kb, kc, kk, rfl, hl1, htab, hnl, hYn, hpp, hkk⟩; have hen : Calls Tryz.prog 42 #[.pointer (some ⟨p, 0, none⟩), .int .i64 n', .int .i64 0] w1 (EndsPost S p nds Y nb nc kb kc kk (fun _ => False) n' 0 w1) := ends_all hS n' hnl (fun _ => False) w1 0 htab (Nat.zero_le _); have HEN := Lib.hid hen; clear hen; have HL1 := Lib.hid hl1; have HY := Lib.hid hYn; have HKK := Lib.hid hkk; have HZ : Hid (w0.heap.size ≤ w1.heap.size) := Lib.hid (Below.size hl1); clear hl1 htab hnl hYn hpp hkk)
    | (go_at_call 42; (with_reducible refine HEN.out.mono ?_); rintro e w2 ⟨g, bs, rfl, hob, hes, -, hon, -, -⟩; obtain ⟨bb, hbb⟩ : ∃ bb, bs[S.size]? = some bb := ⟨_, List.getElem?_eq_getElem (by rw [hes.1, ba_len]; omega)⟩; have cb := hob.cell hbb; have HES := Lib.hid hes; have HON := Lib.hid hon; have HBB := Lib.hid hbb; clear hob hes hon hbb)
    | fail)
  go_ret
  refine ⟨?_, ?_⟩
  · have h1 := HES.out.2 S.size (by rw [ba_len]; exact Nat.le_refl _)
    rw [HBB.out, HY.out] at h1
    have : bb = inB x.lang S.data.toList := by
      rw [Bool.eq_iff_iff, inB_iff]
      have hs : sub S.data.toList 0 S.size = S.data.toList := by rw [← ba_len]; exact sub_all _
      rw [hs] at h1
      constructor
      · intro h; exact (h1.1 (by rw [h])).2
      · intro h; exact Option.some.inj (h1.2 ⟨Nat.zero_le _, h⟩)
    rw [← this]
    rfl
  · exact (HL0.out.trans HL1.out).only HON.out (fun q hq => by
      have h1 := HKK.out q hq
      have h2 := Below.size HL0.out
      omega)
end Go.Proofs.YtjhclopdcbnmkaaGreatDoor
