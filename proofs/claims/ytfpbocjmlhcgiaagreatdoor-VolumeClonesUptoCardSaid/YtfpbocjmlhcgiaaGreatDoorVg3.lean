/- Vg3, merged: VM7 VM8 VM9 VM10 VM11. -/
import Derived.Test.YtfpbocjmlhcgiaaGreatDoorVg2
import Derived.Test.YtfpbocjmlhcgiaaGreatDoorJW
import Derived.Lib.SplitLaws
set_option linter.unusedSimpArgs false
set_option linter.unusedVariables false
/- The volume's Path: strings.Split at a slash. -/
namespace Go.Proofs.YtfpbocjmlhcgiaaGreatDoor
open Go.RowKit PJ Go.Maps Go.Shelf

theorem ixB_spec : ∀ l : List UInt8, (Lib.indexByte l 47 = -1 ∧ ∀ c ∈ l, c ≠ 47) ∨ ∃ a r, l = a ++ 47 :: r ∧ (∀ c ∈ a, c ≠ 47) ∧ Lib.indexByte l 47 = (a.length : Int)
  | [] => .inl ⟨rfl, fun c hc => by cases hc⟩
  | b :: l => by
    unfold Lib.indexByte
    by_cases h : b = 47
    · subst h
      exact .inr ⟨[], l, rfl, (fun c hc => by cases hc), by simp⟩
    · have hb : (b == 47) = false := by simpa using h
      rw [hb]
      rcases ixB_spec l with ⟨h1, h2⟩ | ⟨a, r, h1, h2, h3⟩
      · refine .inl ⟨by rw [h1]; rfl, fun c hc => ?_⟩
        rcases List.mem_cons.1 hc with rfl | hc
        · exact h
        · exact h2 c hc
      · refine .inr ⟨b :: a, r, by rw [h1]; rfl, fun c hc => ?_, ?_⟩
        · rcases List.mem_cons.1 hc with rfl | hc
          · exact h
          · exact h2 c hc
        · rw [h3]
          have h4 : ((a.length : Int) == -1) = false := by simp <;> omega
          rw [h4]
          simp
theorem splitK_eq : ∀ (k : Nat) (s : List UInt8), s.count 47 = k → Lib.splitK [47] 0 k s = splitS s
  | 0, s, h => by
    have h1 := List.count_eq_zero.1 h
    rw [splitS_none (fun c hc e => h1 (e ▸ hc))]
    rfl
  | k + 1, s, h => by
    unfold Lib.splitK
    rw [Lib.index_one]
    rcases ixB_spec s with ⟨h1, h2⟩ | ⟨a, r, rfl, h2, h3⟩
    · exfalso
      have : s.count 47 = 0 := List.count_eq_zero.2 (fun hc => h2 47 hc rfl)
      omega
    · rw [h3]
      have h4 : ((a.length : Int) == -1) = false := by simp <;> omega
      have h5 : a.count 47 = 0 := List.count_eq_zero.2 (fun hc => h2 47 hc rfl)
      rw [List.count_append, h5, List.count_cons] at h
      have h6 : r.count 47 = k := by simpa using h
      rw [h4, splitS_at a r h2, ← splitK_eq k r h6]
      simp
theorem splitB_eq (s : ByteArray) : (Lib.splitB ⟨#[47]⟩ 0 (Lib.countB s ⟨#[47]⟩) s).map (·.data.toList) = splitS s.data.toList := by
  rw [Lib.splitB_data]
  exact splitK_eq _ _ (Lib.count_one 47 s.data.toList).symm
set_option maxRecDepth 100000 in
set_option maxHeartbeats 1000000 in
theorem vsplit_any (w : World) (s : ByteArray) (hs : s.size < 4294967281) :
    Calls Tryz.prog 80 #[.string s, .string ⟨#[47]⟩] w fun e w' => ∃ ps : List ByteArray, ps.map (·.data.toList) = splitS s.data.toList ∧ e = .returned (.slice (some ⟨w.heap.size, 0, none⟩) ps.length ps.length) ∧ w' = w.alloc (.cells (ps.map Value.string).toArray 9) := by
  have h1 : 1 ≤ (⟨#[47]⟩ : ByteArray).size := Nat.le_refl _
  have hle := Lib.countB_le ⟨#[47]⟩ h1 s.size s (Nat.le_refl _)
  have hlen := Lib.splitB_all ⟨#[47]⟩ h1 0 _ s rfl
  have L := Tryz.lays221
  have c := Any.strings_genSplit_core L (by kernel_rfl) s ⟨#[47]⟩ 0 (-1) (Lib.countB s ⟨#[47]⟩ + 1) w hs h1 (Nat.zero_le _)
    (fun x c hx => (Any.strings_Index_one { L with } x 47 _).mono fun e w' ⟨he, hw⟩ => ⟨by rw [he]; show _ = Ending.returned (Value.int .i64 (Lib.index x.data.toList [47])); rw [Lib.index_one], hw⟩)
    ((Any.strings_Count_one { L with } s 47 w).mono fun e w' ⟨he, hw⟩ => ⟨by rw [he]; show _ = Ending.returned (Value.int .i64 ((Lib.count s.data.toList [47] : Nat) : Int)); rw [Lib.count_one]; rfl, hw⟩)
    (by decide) (by decide) (by rw [if_pos (by decide)]; omega)
  rw [Nat.add_sub_cancel, hlen] at c
  have e2 : Lib.cellsOf (Lib.splitB ⟨#[47]⟩ 0 (Lib.countB s ⟨#[47]⟩) s) (Lib.countB s ⟨#[47]⟩ + 1) = ((Lib.splitB ⟨#[47]⟩ 0 (Lib.countB s ⟨#[47]⟩) s).map Value.string).toArray := by rw [← hlen]; exact Lib.cellsOf_full _
  rw [e2] at c
  have hps := splitB_eq s
  obtain ⟨ps, hpe⟩ : ∃ ps, Lib.splitB ⟨#[47]⟩ 0 (Lib.countB s ⟨#[47]⟩) s = ps := ⟨_, rfl⟩
  obtain ⟨n, hn⟩ : ∃ n, Lib.countB s ⟨#[47]⟩ + 1 = n := ⟨_, rfl⟩
  rw [hpe, hn] at hlen
  rw [hpe] at hps
  rw [hpe, hn] at c
  have HC := Lib.hid (show Calls Tryz.prog 144 #[.string s, .string ⟨#[47]⟩, .int .i64 0, .int .i64 (-1)] w fun e w' => e = .returned (.slice (some ⟨w.heap.size, 0, none⟩) n n) ∧ w' = w.alloc (.cells (ps.map Value.string).toArray 9) from c)
  have HP := Lib.hid (And.intro hps hlen)
  clear c e2 hpe hn hps hlen hle h1 L
  go_enter Tryz.func80, Tryz.ntmps80
  go_wp2_with (first
    | (go_at_call 144; (with_reducible refine HC.out.mono ?_); rintro e w2 ⟨rfl, hw2⟩; have HW2 := Lib.hid hw2; clear hw2)
    | fail)
  go_ret
  exact ⟨ps, HP.out.1, by rw [HP.out.2]; rfl, HW2.out⟩
end Go.Proofs.YtfpbocjmlhcgiaaGreatDoor
/- The volume's Path: IndexFunc and ContainsFunc over texts. -/
namespace Go.Proofs.YtfpbocjmlhcgiaaGreatDoor
open Go.RowKit PJ Go.Maps Go.Shelf

set_option maxRecDepth 100000 in
set_option maxHeartbeats 1000000 in
/-- Texts searched by a closure K that tells q. -/
theorem sidx_any (K : Nat) (hK : ∀ args w, (callFunc K args).run Tryz.prog w = .ok (.enter K args) w) (cp : Array Value) (q : ByteArray → Bool) (w : World) (g off cap : Nat) (xs : List ByteArray) (hx : xs.length ≤ 140737488355328) (hc : ∀ j x, xs[j]? = some x → w.cell? ⟨g, off + j, none⟩ = some (.string x))
    (hq : ∀ w1, LJ w w1 → ∀ x ∈ xs, Calls Tryz.prog K (#[.string x] ++ cp) w1 fun e w' => e = .returned (.bool (q x)) ∧ LJ w1 w') :
    Calls Tryz.prog 145 #[.slice (some ⟨g, off, none⟩) xs.length cap, .func (.func K) #[] cp] w fun e w' => ∃ r : Int, e = .returned (.int .i64 r) ∧ decide (0 ≤ r) = xs.any q ∧ LJ w w' := by
  have HC := Lib.hid hc
  have HQ := Lib.hid hq
  clear hc hq
  go_enter Tryz.func145, Tryz.ntmps145
  go_wp2_with fail
  go_loopw [8] (fun v wr => ∃ j : Nat, j ≤ xs.length ∧ v = .int .i64 (j : Int) ∧ Hid (∀ m, m < j → ∀ k, xs[m]? = some k → q k = false) ∧ Hid (LJ w wr)) (fun v _ => xs.length - (intOf v).toNat)
  case atStart => exact ⟨0, by omega, rfl, Lib.hid (fun m hm => absurd hm (by omega)), Lib.hid (LJ.refl _)⟩
  case round =>
    obtain ⟨j, hj, rfl, HNO, HB⟩ := hrel
    by_cases hlt : j < xs.length
    · obtain ⟨x, hxj⟩ : ∃ x, xs[j]? = some x := ⟨_, List.getElem?_eq_getElem hlt⟩
      have r1 := LJ.cell HB.out (HC.out j x hxj)
      have HP := HQ.out wr HB.out x (List.mem_of_getElem? hxj)
      have HXJ := Lib.hid hxj
      clear hxj
      cases hat : q x with
      | true =>
        rw [hat] at HP
        have HP' := Lib.hid HP
        have HAT := Lib.hid hat
        clear hat HP
        go_wp2_with (first
          | (go_at_fn K; (with_reducible refine HP'.out.mono ?_); rintro e w1 ⟨rfl, hb1⟩)
          | fail)
        go_ret
        refine ⟨(j : Int), rfl, ?_, HB.out.trans hb1⟩
        rw [decide_eq_true (by omega)]
        exact (List.any_eq_true.2 ⟨x, List.mem_of_getElem? HXJ.out, HAT.out⟩).symm
      | false =>
        rw [hat] at HP
        have HP' := Lib.hid HP
        have HAT := Lib.hid hat
        clear hat HP
        go_wp2_with (first
          | (go_at_fn K; (with_reducible refine HP'.out.mono ?_); rintro e w1 ⟨rfl, hb1⟩)
          | fail)
        refine ⟨⟨j + 1, by omega, by simp, Lib.hid (fun m hm y hy => ?_), Lib.hid (HB.out.trans hb1)⟩, by simp only [intOf]; omega⟩
        by_cases hmj : m = j
        · subst hmj
          have := HXJ.out
          rw [hy] at this
          rw [Option.some.inj this]
          exact HAT.out
        · exact HNO.out m (by omega) y hy
    · have HE := Lib.hid (show j = xs.length from by omega)
      go_wp2_with fail
      go_ret
      refine ⟨-1, rfl, ?_, HB.out⟩
      rw [decide_eq_false (by omega), eq_comm, List.any_eq_false]
      intro x hx
      obtain ⟨m, hm, he⟩ := List.mem_iff_getElem.1 hx
      have h1 := HNO.out m (by rw [HE.out]; exact hm) x (by rw [List.getElem?_eq_getElem hm, he])
      rw [h1]
      simp
set_option maxRecDepth 100000 in
set_option maxHeartbeats 1000000 in
theorem scont_any (K : Nat) (hK : ∀ args w, (callFunc K args).run Tryz.prog w = .ok (.enter K args) w) (cp : Array Value) (q : ByteArray → Bool) (w : World) (g off cap : Nat) (xs : List ByteArray) (hx : xs.length ≤ 140737488355328) (hc : ∀ j x, xs[j]? = some x → w.cell? ⟨g, off + j, none⟩ = some (.string x))
    (hq : ∀ w1, LJ w w1 → ∀ x ∈ xs, Calls Tryz.prog K (#[.string x] ++ cp) w1 fun e w' => e = .returned (.bool (q x)) ∧ LJ w1 w') :
    Calls Tryz.prog 81 #[.slice (some ⟨g, off, none⟩) xs.length cap, .func (.func K) #[] cp] w fun e w' => e = .returned (.bool (xs.any q)) ∧ LJ w w' := by
  have HI := Lib.hid (sidx_any K hK cp q w g off cap xs hx hc hq)
  obtain ⟨n, hn⟩ : ∃ n, xs.length = n := ⟨_, rfl⟩
  obtain ⟨B, hB⟩ : ∃ B, xs.any q = B := ⟨_, rfl⟩
  rw [hn, hB] at HI
  rw [hn, hB]
  clear hn hB hc hq hx
  go_enter Tryz.func81, Tryz.ntmps81
  go_wp2_with (first
    | (go_at_call 145; (with_reducible refine HI.out.mono ?_); rintro e w2 ⟨r, rfl, hr, hl2⟩; have HR := Lib.hid hr; have HL2 := Lib.hid hl2; clear hl2 hr)
    | fail)
  go_ret
  exact ⟨by rw [← HR.out]; rfl, HL2.out⟩
end Go.Proofs.YtfpbocjmlhcgiaaGreatDoor
/- The volume's Path. -/
namespace Go.Proofs.YtfpbocjmlhcgiaaGreatDoor
open Go.RowKit PJ Go.Maps Go.Shelf

theorem splitS_le : ∀ (s p : List UInt8), p ∈ splitS s → p.length ≤ s.length
  | [], p, h => by
    rw [splitS, List.mem_singleton] at h
    rw [h]
    exact Nat.le_refl _
  | c :: r, p, h => by
    unfold splitS at h
    rw [List.length_cons]
    split at h
    · rcases List.mem_cons.1 h with rfl | h
      · exact Nat.zero_le _
      · have := splitS_le r p h
        omega
    · split at h
      · rw [List.mem_singleton.1 h, List.length_singleton]
        omega
      · rename_i x t e
        rcases List.mem_cons.1 h with rfl | h
        · have := splitS_le r x (by rw [e]; exact List.mem_cons_self ..)
          rw [List.length_cons]
          omega
        · have := splitS_le r p (by rw [e]; exact List.mem_cons_of_mem _ h)
          omega
set_option maxRecDepth 100000 in
set_option maxHeartbeats 2000000 in
theorem vpath_any (w : World) (s : ByteArray) (hs : s.size < 4294967281) :
    Calls Tryz.prog 28 #[.string s] w fun e w' => e = .returned (.bool (pathB s.data.toList)) ∧ LJ w w' := by
  have HS := Lib.hid (vsplit_any w s hs)
  obtain ⟨l, hl⟩ : ∃ l, s.data.toList = l := ⟨_, rfl⟩
  have hsl : s.toList = l := by rw [ByteArray.toList_eq, hl]
  have hlen : s.size = l.length := by rw [← hl, Array.length_toList]; rfl
  rw [hl] at HS ⊢
  by_cases h0 : l = [47]
  · subst h0
    clear HS hl hs
    go_enter Tryz.func28, Tryz.ntmps28
    go_wp2_with fail
    go_ret
    exact ⟨rfl, LJ.refl _⟩
  have HP := Lib.hid (show pathB l = (decide (l.length ≤ 48) && (decide (1 < (splitS l).length) && ((splitS l).head? == some [] && (splitS l).tail.all nameB))) from by
    unfold pathB
    rw [show (l == [47]) = false from by simpa using h0]
    rfl)
  have h0b : (l == [47]) = false := by simpa using h0
  obtain ⟨PB, hPB⟩ : ∃ B, pathB l = B := ⟨_, rfl⟩
  rw [hPB]
  have HBE := Lib.hid hPB
  clear hl h0 hPB
  go_enter Tryz.func28, Tryz.ntmps28
  go_upto_region 4 with (first
    | (go_at_call 80; (with_reducible refine HS.out.mono ?_); rintro e w2 ⟨ps, hps, rfl, hw2⟩
       have HW2 := Lib.hid hw2
       have HPS := Lib.hid hps
       clear hps hw2)
    | fail)
  have HL2 := Lib.hid (show LJ w w2 from by rw [HW2.out]; exact (LJ.refl w).alloc _)
  obtain ⟨g, hg⟩ : ∃ g, w.heap.size = g := ⟨_, rfl⟩
  have HC := Lib.hid (show ∀ (j : Nat) x, ps[j]? = some x → w2.cell? ⟨g, j, none⟩ = some (.string x) from fun j x hj => by
    have hb : w2.heap[g]? = some (.cells (ps.map Value.string).toArray 9 (0, 0)) := by rw [HW2.out, ← hg]; exact alloc_blk w _
    have hjl := (List.getElem?_eq_some_iff.1 hj)
    exact (cell_blk hb j).trans (by simp [hj]))
  rw [hg]
  have HPL := Lib.hid (show ps.length = (splitS l).length from by rw [← HPS.out, List.length_map])
  have HPX := Lib.hid (show ∀ p ∈ ps, p.size < 4294967281 from fun p hp => by
    have h1 := splitS_le l p.data.toList (by rw [← HPS.out]; exact List.mem_map.2 ⟨p, hp, rfl⟩)
    rw [Array.length_toList] at h1
    have h2 : p.size = p.data.size := rfl
    omega)
  clear hg
  by_cases h3 : (l.length : Int) ≤ 48
  · have hd3 : decide (l.length ≤ 48) = true := decide_eq_true (by omega)
    rcases ps with _ | ⟨p0, _ | ⟨p1, r⟩⟩
    · exact absurd HPS.out.symm (splitS_ne l)
    · have hf : pathB l = false := by
        rw [HP.out, ← HPL.out]
        simp
      have HFB := Lib.hid (HBE.out.symm.trans hf)
      clear hf hd3
      go_wp2_with fail
      go_ret
      exact ⟨by rw [HFB.out]; rfl, HL2.out⟩
    · have hps : [] = p0.data.toList ∨ ¬ p0.data.toList = [] := by by_cases e : p0.data.toList = [] <;> simp [e]
      obtain ⟨n, hn⟩ : ∃ n, (p1 :: r).length = n := ⟨_, rfl⟩
      have hn1 : (p0 :: p1 :: r).length = n + 1 := by rw [← hn]; rfl
      have hS : splitS l = p0.data.toList :: (p1 :: r).map (·.data.toList) := HPS.out.symm
      have c0 : w2.cell? ⟨g, 0, none⟩ = some (.string p0) := HC.out 0 p0 rfl
      have HF : pathB l = (p0.toList.isEmpty && !(p1 :: r).any fun p => !nameB p.data.toList) := by
        rw [HP.out, hd3, hS, Bool.true_and, decide_eq_true (show 1 < (p0.data.toList :: (p1 :: r).map (·.data.toList)).length by simp), Bool.true_and, ByteArray.toList_eq, List.head?_cons, List.tail_cons, List.all_map, List.not_any_eq_all_not]
        congr 1
        · cases p0.data.toList <;> rfl
        · congr 1
          funext p
          simp
      have HCF := Lib.hid (scont_any 82 (enters_of Tryz.func82 (by kernel_rfl) rfl) #[] (fun p => !nameB p.data.toList) w2 g 1 n (p1 :: r) (by have h1 := HPL.out; have h2 := splitS_len l; have h4 : slashes l ≤ l.length := List.countP_le_length; rw [← h1, hn1] at h2; omega) (fun j x hj => by rw [Nat.add_comm]; exact HC.out (j + 1) x hj) (fun w1 hl x hx => vpath1_any w1 x (by have := HPX.out x (List.mem_cons_of_mem _ hx); omega)))
      obtain ⟨B, hB⟩ : ∃ B, (p1 :: r).any (fun p => !nameB p.data.toList) = B := ⟨_, rfl⟩
      rw [hB, hn] at HCF
      have HFB := Lib.hid (show PB = (p0.toList.isEmpty && !B) from by rw [← HBE.out, HF, hB])
      rw [hn1]
      have hn0 : 1 ≤ n := by rw [← hn]; simp
      have hgt : ¬ (n : Int) + 1 ≤ 1 := by omega
      have hgt2 : (1 : Int) < (n : Int) + 1 := by omega
      have hgt3 : decide ((1 : Int) < (n : Int) + 1) = true := decide_eq_true hgt2
      have hn1' : n + 1 - 1 = n := by omega
      clear HF hS hps hd3 hB hn hn1
      cases hpe : p0.toList.isEmpty with
      | true =>
        go_wp2_with (first
          | (go_at_call 81; (with_reducible refine HCF.out.mono ?_); rintro e w3 ⟨rfl, hl3⟩; have HL3 := Lib.hid hl3; clear hl3)
          | fail)
        go_ret
        exact ⟨by rw [HFB.out, hpe]; rfl, HL2.out.trans HL3.out⟩
      | false =>
        go_wp2_with fail
        go_ret
        exact ⟨by rw [HFB.out, hpe]; rfl, HL2.out⟩
  · have hf : pathB l = false := by
      rw [HP.out, decide_eq_false (show ¬ l.length ≤ 48 by omega)]
      rfl
    have HFB := Lib.hid (HBE.out.symm.trans hf)
    clear hf
    go_wp2_with fail
    go_ret
    exact ⟨by rw [HFB.out]; rfl, HL2.out⟩
end Go.Proofs.YtfpbocjmlhcgiaaGreatDoor
/- The document's Up. -/
namespace Go.Proofs.YtfpbocjmlhcgiaaGreatDoor
open Go.RowKit PJ Go.Maps Go.Shelf

def upR (s : List UInt8) : List UInt8 := if lastS s < 1 then [47] else s.take (lastS s).toNat
theorem lastS_is {s : List UInt8} {k : Nat} (hk : k < s.length) (h : s[k]? = some 47) (hb : ∀ j, k < j → j < s.length → s[j]? ≠ some 47) : lastS s = (k : Int) := by
  rcases lastS_spec s with ⟨h1, h2⟩ | ⟨i, h1, h2, h3, h4⟩
  · exact absurd h (h2 k hk)
  · rw [h2]
    rcases Nat.lt_trichotomy i k with e | e | e
    · exact absurd h (h4 k e hk)
    · rw [e]
    · exact absurd h3 (hb i e h1)
theorem lastS_low {s : List UInt8} (hb : ∀ j, 0 < j → j < s.length → s[j]? ≠ some 47) : lastS s < 1 := by
  rcases lastS_spec s with ⟨h1, h2⟩ | ⟨i, h1, h2, h3, h4⟩
  · omega
  · rcases Nat.eq_zero_or_pos i with e | e
    · omega
    · exact absurd h3 (hb i e h1)
theorem get_iff {s : ByteArray} {k : Nat} (hk : k < s.size) : s.data.toList[k]? = some (s.data.toList.getD k 0) := by
  have h : k < s.data.toList.length := by rw [Array.length_toList]; exact hk
  rw [List.getD_eq_getElem?_getD, List.getElem?_eq_getElem h]
  rfl
set_option maxRecDepth 100000 in
set_option maxHeartbeats 2000000 in
theorem rup_any (w : World) (s : ByteArray) (h1 : 1 ≤ s.size) (hs : s.size < 4611686018427387904) :
    Calls Tryz.prog 41 #[.string s] w fun e w' => e = .returned (.string ⟨(upR s.data.toList).toArray⟩) ∧ w = w' := by
  have hl : s.data.toList.length = s.size := by rw [Array.length_toList]; rfl
  have HL := Lib.hid hl
  have hwi : IntKind.i64.wrap ((s.size : Int) - 1) = ((s.size - 1 : Nat) : Int) := by rw [IntKind.wrap_i64]; omega
  obtain ⟨m0, hm0⟩ : ∃ m, s.size - 1 = m := ⟨_, rfl⟩
  rw [hm0] at hwi
  clear hl
  go_enter Tryz.func41, Tryz.ntmps41
  go_wp2_with fail
  go_loop [3] (fun v3 => ∃ k : Nat, k < s.size ∧ v3 = .int .i64 (k : Int) ∧ Hid (∀ j, k < j → j < s.data.toList.length → s.data.toList[j]? ≠ some 47)) (fun v3 => (intOf v3).toNat)
  case atStart => exact ⟨m0, by omega, rfl, Lib.hid (fun j h2 h3 => by rw [HL.out] at h3; omega)⟩
  case round =>
    obtain ⟨k, hk, rfl, HB⟩ := hrel
    by_cases hk0 : 0 < k
    · have hki : (0 : Int) < (k : Int) := by omega
      obtain ⟨u, hu⟩ : ∃ u, s.data.toList.getD k 0 = u := ⟨_, rfl⟩
      have HG := Lib.hid (show s.data.toList[k]? = some u from by rw [← hu]; exact get_iff hk)
      obtain ⟨c, hc⟩ : ∃ c : Int, (u.toNat : Int) = c := ⟨_, rfl⟩
      have hix : ∀ W : World, (Instr.index 9 (.string s) (.int .i64 (k : Int))).run Tryz.prog W = .ok (.int .u8 c) W := by
        intro W
        rw [← hc, ← hu]
        exact str_byte s hk W
      have HCE := Lib.hid hc
      clear hu hc
      by_cases hc47 : c = 47
      · have HU := Lib.hid (show u = 47 from UInt8.toNat_inj.1 (by have := HCE.out; show u.toNat = 47; omega))
        have hlt : ¬ (k : Int) < 1 := by omega
        have hki1 : (k : Int) ≤ (s.size : Int) := by omega
        have hk00 : (0 : Int) ≤ (k : Int) := by omega
        have hkt : (k : Int).toNat = k := by omega
        have hkl : k ≤ s.size := by omega
        subst hc47
        go_wp2_with fail
        go_ret
        refine ⟨ret_str ?_, rfl⟩
        have hlast := lastS_is (s := s.data.toList) (k := k) (by rw [HL.out]; exact hk) (by rw [HG.out, HU.out]) HB.out
        unfold upR
        rw [if_neg (by omega), hlast, Int.toNat_natCast]
        have h2 : (s.extract 0 k).data.toList = s.data.toList.take k := by rw [ex_list]; simp
        rw [← h2]
      · have hw1 : IntKind.i64.wrap ((k : Int) - 1) = ((k - 1 : Nat) : Int) := by rw [IntKind.wrap_i64]; omega
        have hcb : (c != 47) = true := by simpa using hc47
        have HNE := Lib.hid (show u ≠ 47 from fun e => hc47 (by have := HCE.out; rw [e] at this; exact this.symm))
        obtain ⟨k1, hk1⟩ : ∃ k1, k - 1 = k1 := ⟨_, rfl⟩
        rw [hk1] at hw1
        go_wp2_with fail
        refine ⟨⟨k1, by omega, rfl, Lib.hid (fun j h2 h3 => ?_)⟩, by simp only [intOf]; omega⟩
        rcases Nat.lt_or_ge k j with e | e
        · exact HB.out j e h3
        · rw [show j = k from by omega, HG.out]
          intro e2
          exact HNE.out (Option.some.inj e2)
    · have hk0' : k = 0 := by omega
      subst hk0'
      have HLO := Lib.hid (lastS_low HB.out)
      go_wp2_with fail
      go_ret
      exact ⟨ret_str (by unfold upR; rw [if_pos HLO.out]), rfl⟩
end Go.Proofs.YtfpbocjmlhcgiaaGreatDoor
/- The document's names. -/
namespace Go.Proofs.YtfpbocjmlhcgiaaGreatDoor
open Go.RowKit PJ Go.Maps Go.Shelf

theorem okC_int (u : UInt8) (c : Int) (h : (u.toNat : Int) = c) : okC u = true ↔ (97 ≤ c ∧ c ≤ 122) ∨ (48 ≤ c ∧ c ≤ 57) ∨ c = 46 ∨ c = 95 ∨ c = 45 := by
  have e : ∀ k : UInt8, u = k ↔ (u.toNat : Int) = (k.toNat : Int) := fun k => by
    rw [← UInt8.toNat_inj]
    omega
  unfold okC
  simp only [Bool.or_eq_true, Bool.and_eq_true, decide_eq_true_eq, beq_iff_eq, e, UInt8.le_iff_toNat_le, h]
  have h97 : (97 : UInt8).toNat = 97 := rfl
  have h122 : (122 : UInt8).toNat = 122 := rfl
  have h48 : (48 : UInt8).toNat = 48 := rfl
  have h57 : (57 : UInt8).toNat = 57 := rfl
  have h46 : (46 : UInt8).toNat = 46 := rfl
  have h95 : (95 : UInt8).toNat = 95 := rfl
  have h45 : (45 : UInt8).toNat = 45 := rfl
  rw [h97, h122, h48, h57, h46, h95, h45]
  omega
set_option maxRecDepth 100000 in
set_option maxHeartbeats 2000000 in
theorem rname_any (w : World) (s : ByteArray) (hs : s.size < 4611686018427387904) :
    Calls Tryz.prog 106 #[.string s] w fun e w' => e = .returned (.bool (nameB s.data.toList)) ∧ w = w' := by
  obtain ⟨l, hl⟩ : ∃ l, s.data.toList = l := ⟨_, rfl⟩
  have hsl : s.toList = l := by rw [ByteArray.toList_eq, hl]
  have hlen : s.size = l.length := by rw [← hl, Array.length_toList]; rfl
  rw [hl]
  have HLE := Lib.hid hl
  have HLN := Lib.hid hlen
  obtain ⟨NB, hNB⟩ : ∃ B, nameB l = B := ⟨_, rfl⟩
  rw [hNB]
  have HNB := Lib.hid hNB
  clear hl hNB
  go_enter Tryz.func106, Tryz.ntmps106
  go_wp2_with fail
  go_loop [3] (fun v3 => ∃ k : Nat, k ≤ s.size ∧ v3 = .int .i64 (k : Int) ∧ Hid ((l.take k).all okC = true)) (fun v3 => s.size - (intOf v3).toNat)
  case atStart => exact ⟨0, by omega, rfl, Lib.hid rfl⟩
  case round =>
    obtain ⟨k, hk, rfl, HB⟩ := hrel
    by_cases hlt : k < s.size
    · have hki : (k : Int) < (s.size : Int) := by omega
      obtain ⟨u, hu⟩ : ∃ u, s.data.toList.getD k 0 = u := ⟨_, rfl⟩
      have HG := Lib.hid (show l[k]? = some u from by rw [← HLE.out, ← hu]; exact get_iff hlt)
      obtain ⟨c, hc⟩ : ∃ c : Int, (u.toNat : Int) = c := ⟨_, rfl⟩
      have hix : ∀ W : World, (Instr.index 9 (.string s) (.int .i64 (k : Int))).run Tryz.prog W = .ok (.int .u8 c) W := by
        intro W
        rw [← hc, ← hu]
        exact str_byte s hlt W
      have HOK := Lib.hid (okC_int u c hc)
      have hw1 : IntKind.i64.wrap ((k : Int) + 1) = (k : Int) + 1 := by rw [IntKind.wrap_i64]; omega
      have HIN := Lib.hid (fun (h : okC u = true) => show (l.take (k + 1)).all okC = true from by
        rw [List.take_add_one, HG.out, Option.toList_some, List.all_append, HB.out]
        simp [h])
      have HOUT := Lib.hid (fun (h : ¬ okC u = true) => show NB = false from by
        rw [← HNB.out]
        have h2 : l.all okC = false := by
          rw [List.all_eq_false]
          exact ⟨u, List.mem_of_getElem? HG.out, h⟩
        unfold nameB
        rw [h2]
        simp)
      have HKS := Lib.hid hlt
      have HWW := Lib.hid hw1
      clear hu hc hlen hsl
      by_cases h45 : c = 45
      · have hb45 : (c != 45) = false := by simp [h45]
        go_wp2_with fail
        all_goals first
          | (refine ⟨⟨k + 1, HKS.out, by simp [HWW.out], Lib.hid (HIN.out (HOK.out.2 (by omega)))⟩, by have h8 := HKS.out; have h9 := HWW.out; simp only [intOf]; (try rw [h9]); omega⟩)
          | (go_ret
             exact ⟨by rw [HOUT.out (fun e => by have := HOK.out.1 e; omega)]; rfl, rfl⟩)
      · have hb45 : (c != 45) = true := by simpa using h45
        go_wp2_with fail
        all_goals first
          | (refine ⟨⟨k + 1, HKS.out, by simp [HWW.out], Lib.hid (HIN.out (HOK.out.2 (by omega)))⟩, by have h8 := HKS.out; have h9 := HWW.out; simp only [intOf]; (try rw [h9]); omega⟩)
          | (go_ret
             exact ⟨by rw [HOUT.out (fun e => by have := HOK.out.1 e; omega)]; rfl, rfl⟩)
    · have hks : k = s.size := by omega
      have hall : l.all okC = true := by
        have h1 := HB.out
        rw [hks, hlen, List.take_of_length_le (Nat.le_refl _)] at h1
        exact h1
      have HNF := Lib.hid (show NB = (!l.isEmpty && (decide (l.length ≤ 12) && (l != [46] && (l != [46, 46] && true)))) from by rw [← HNB.out]; unfold nameB; rw [hall])
      have hnk : ¬ (k : Int) < (s.size : Int) := by omega
      clear hks hall hlt
      by_cases h0 : l = []
      · have hz : s.size = 0 := by rw [hlen, h0]; rfl
        have HF := Lib.hid (show NB = false from by rw [HNF.out, h0]; rfl)
        go_wp2_with fail
        go_ret
        exact ⟨by rw [HF.out]; rfl, rfl⟩
      · have hp := List.length_pos_iff.2 h0
        have hz : (1 : Int) ≤ (s.size : Int) := by omega
        have hz1 : (1 : Int) ≤ (l.length : Int) := by omega
        have hle : l.isEmpty = false := List.isEmpty_eq_false_iff.2 h0
        have hnl : ¬ (k : Int) < (l.length : Int) := by omega
        by_cases h1 : l = [46]
        · subst h1
          have hnl1 : ¬ (k : Int) < 1 := by simpa using hnl
          have HF := Lib.hid (show NB = false from by rw [HNF.out]; rfl)
          clear h0 hle hp
          go_wp2_with fail
          go_ret
          exact ⟨by rw [HF.out]; rfl, rfl⟩
        by_cases h2 : l = [46, 46]
        · subst h2
          have hnl1 : ¬ (k : Int) < 2 := by simpa using hnl
          have HF := Lib.hid (show NB = false from by rw [HNF.out]; rfl)
          clear h0 h1 hle hp
          go_wp2_with fail
          go_ret
          exact ⟨by rw [HF.out]; rfl, rfl⟩
        by_cases h3 : (l.length : Int) ≤ 12
        · have HF := Lib.hid (show NB = true from by
            rw [HNF.out, hle, decide_eq_true (show l.length ≤ 12 by omega), show (l != [46]) = true from by simpa using h1, show (l != [46, 46]) = true from by simpa using h2]
            rfl)
          have hb1 : (l == [46]) = false := by simpa using h1
          have hb2 : (l == [46, 46]) = false := by simpa using h2
          clear h0 hp
          go_wp2_with fail
          go_ret
          exact ⟨by rw [HF.out]; rfl, rfl⟩
        · have HF := Lib.hid (show NB = false from by
            rw [HNF.out, decide_eq_false (show ¬ l.length ≤ 12 by omega), hle]
            rfl)
          clear h0 hp h1 h2
          go_wp2_with fail
          go_ret
          exact ⟨by rw [HF.out]; rfl, rfl⟩
end Go.Proofs.YtfpbocjmlhcgiaaGreatDoor
