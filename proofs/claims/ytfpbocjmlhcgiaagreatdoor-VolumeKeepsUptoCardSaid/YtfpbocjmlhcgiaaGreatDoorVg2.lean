/- Vg2, merged: VM1 VM2 VM3 VM4 VM5 VM6. -/
import Derived.Test.YtfpbocjmlhcgiaaGreatDoorVg1
import Derived.Test.YtfpbocjmlhcgiaaGreatDoorJS
import Derived.Deep.AppendLies
import Derived.Test.YtfpbocjmlhcgiaaGreatDoorJg18
import Derived.Lib.LastIndexByte
import Derived.Shelf.Strings.SlTrimAscii
import Derived.Test.YtfpbocjmlhcgiaaGreatDoorJg19
set_option linter.unusedSimpArgs false
set_option linter.unusedVariables false
/- The volume's put; the keys of a map of entries, sorted. -/
namespace Go.Proofs.YtfpbocjmlhcgiaaGreatDoor
open Go.RowKit PJ Go.Maps Go.Sort Go.Shelf

set_option maxRecDepth 100000 in
set_option maxHeartbeats 2000000 in
theorem vput_any (w : World) (n k : Nat) (hn : n < 9223372036854775808) (hk : k ≤ 8) (hk1 : 1 ≤ k) :
    Calls Tryz.prog 161 #[.int .i64 n, .int .i64 k] w fun e w' => e = .returned (.string ⟨(be n k).toArray⟩) ∧ Below w.heap.size w w' := by
  obtain ⟨iU, hiU, hz0, hz1, hz2⟩ := info_parts info_u8
  have hki : (k : Int) ≤ 8 := by omega
  go_enter Tryz.func161, Tryz.ntmps161
  go_wp2_with (first
    | (refine wpList_make_full w rfl (.tmp 7) (.tmp 7) 99 rfl w.heap.size 5 iU (.int .u8 0) 1 Tryz.underlying99 hiU hz0 hz1 .i64 .i64 (k : Int) (k : Int) k rfl rfl rfl rfl (by rw [hz2]; omega) (by unfold maxLen; omega) (Nat.le_refl _) ?_; intro w1 hown1 hgrow1)
    | fail)
  have HO1 := Lib.hid hown1
  have hb1 : Below w.heap.size w w1 := Below.grown (Below.refl _ _) hgrow1 (Nat.le_refl _) (fun q hq => by cases hq)
  clear hown1 hgrow1
  go_loopw [6, 11] (fun v6 v11 wr => ∃ (j : Nat) (cs : List Value), j ≤ k ∧ v11 = .int .i64 (j : Int) ∧ wr.ownsRow w.heap.size 5 1 (.slice (some ⟨w.heap.size, 0, none⟩) k k) k cs ∧ Hid (cs.take j = bys ((be n k).take j)) ∧ Below w.heap.size w wr) (fun _ v11 _ => k - (intOf v11).toNat)
  case atStart => exact ⟨0, _, by omega, rfl, HO1.out, Lib.hid (by simp [bys]), hb1⟩
  case round =>
    obtain ⟨j, cs, hj, rfl, hown, HT, hbel⟩ := hrel
    have HO := Lib.hid hown
    clear hown
    by_cases hlt : j < k
    · have hcl : cs.length = k := by have := HO.out.1; omega
      have c1 : wr.cell? ⟨w.heap.size, j, none⟩ = some (cs[j]'(by omega)) := by
        rw [HO.out.cellAt j (by omega), List.getElem?_eq_getElem (by omega)]
      have f1 := HO.out.frozenAt j
      obtain ⟨i, hi⟩ : ∃ i : Nat, (k : Int) - 1 - j = i := ⟨k - 1 - j, by omega⟩
      have hi7 : i ≤ 7 := by omega
      have HI := Lib.hid hi
      clear hi
      go_wp2_with fail
      go_roundw
      case rel =>
        refine ⟨j + 1, cs.set j _, by omega, by simp, (HO.out.stored j _).1, Lib.hid ?_, hbel.setCell (Nat.le_refl _) _⟩
        rw [be_get n k j hlt, bys_snoc, ← HT.out, List.take_add_one, List.getElem?_set_self (by omega), List.take_set_of_le (Nat.le_refl _), UInt8.toNat_ofNat', byte_div]
        rfl
      case measure => simp [intOf]; omega
    · obtain rfl : j = k := by omega
      have hcs : cs = bys (be n j) := by
        have := HT.out
        rw [List.take_of_length_le (by have := HO.out.1; omega), List.take_of_length_le (by rw [be_len]; exact Nat.le_refl _)] at this
        exact this
      have ho := HO.out
      rw [hcs] at ho
      have ho2 : wr.ownsRow w.heap.size 5 1 (.slice (some ⟨w.heap.size, 0, none⟩) j j) (be n j).length (bys (be n j)) := by rw [be_len]; exact ho
      obtain ⟨g, cap, he, hcv⟩ := own_conv ho2 (be_len n j) hk1
      rw [← he] at hcv
      obtain ⟨OUT, hO⟩ : ∃ OUT : ByteArray, (⟨(be n j).toArray⟩ : ByteArray) = OUT := ⟨_, rfl⟩
      rw [hO] at hcv
      have HOUT := Lib.hid hO
      clear ho ho2 he hcs hO
      go_wp2_with fail
      go_ret
      exact ⟨ret_str HOUT.out.symm, hbel⟩
theorem esorts_any (m : Nat) : AnyZ.SortsIn Tryz.prog Tryz.esortedA_ren Fence.wide m :=
  ⟨fun blk off cap ss W hH hblk hsz => callsIn_wide.2 (AnyM.slices_Sort_string Tryz.esortA blk off cap ss W hH hblk hsz),
   fun p cap W => callsIn_wide.2 (AnyM.slices_Sort_string_none Tryz.esortA p cap W)⟩
theorem ekeys_any (mb : Option Nat) (W : World) : Calls Tryz.prog 149 #[.map mb] W fun e w' => e = .returned (.func (.func 207) #[] #[.pointer (some ⟨W.heap.size, 0, none⟩)]) ∧ w' = W.alloc (.cells #[.map mb] 141) :=
  (callsIn_wide (n := 5)).1 (AnyZ.keys_in Tryz.ekeysA Fence.wide 5 trivial rfl mb W)
set_option maxHeartbeats 1000000 in
theorem esorted_any (b : Nat) (l : List Ent) (w W : World) (hW : W = w.alloc (.cells #[.map (some b)] 141)) (h : EMap w b l) (hl : l.length ≤ 4096) :
    Calls Tryz.prog 148 #[.func (.func 207) #[] #[.pointer (some ⟨w.heap.size, 0, none⟩)]] W fun e w' => ∃ v : Value, e = .returned v ∧
      w'.ownsRow W.heap.size 9 1 v l.length ((l.map (·.p)).map Go.Proofs.encStr) ∧ Below W.heap.size W w' := by
  subst hW
  have h0 := h
  obtain ⟨nn, D0, hown, hm, -⟩ := h
  have hbl := hown.lt
  have hsz := hm.size
  have hseq : SeqGives Fence.wide 2 Tryz.prog 207 #[.pointer (some ⟨w.heap.size, 0, none⟩)] encStr (fun ss => ss.Perm (strKeys D0)) (Maps.size D0) (w.alloc (.cells #[.map (some b)] 141)) :=
    AnyZ.keys_gives (ρ := Tryz.ekeysA_ren) { Tryz.ekeysA with } Fence.wide _ trivial rfl (by omega) w.heap.size b nn D0 _ (by simp) (by simp) (by
      obtain ⟨es, clock, hb, Ft, hs, hD⟩ := hown
      exact ⟨es, clock, (Below.heap_alloc _ _ b hbl).trans hb, Ft, hs, hD⟩)
  have cS := AnyZ.sorted_in Tryz.esortedA Fence.wide 5 trivial trivial trivial trivial rfl (by omega) (esorts_any _) (enters_of Tryz.func206 (by kernel_rfl) rfl) 207 #[.pointer (some ⟨w.heap.size, 0, none⟩)] trivial (enters_of Tryz.func207 (by kernel_rfl) rfl) _ _ (by rw [hsz]; unfold maxLen; omega) (by rw [hsz]; omega) _ hseq
  change CallsIn _ _ Tryz.prog 148 _ _ _ at cS
  refine ((callsIn_wide (n := 5)).1 cS).mono ?_
  rintro e w' ⟨v, ss, rfl, hS, hrow, -, hb⟩
  have hp : ss.Perm (l.map (·.p)) := hS.trans (h0.keys hown hm).symm
  have hlen : ss.length = l.length := by rw [hp.length_eq, List.length_map]
  rw [paths_sorted hm.rise hp, hlen] at hrow
  exact ⟨v, rfl, hrow, hb⟩
end Go.Proofs.YtfpbocjmlhcgiaaGreatDoor
/- The volume's sorted: the entries of a map by rising paths. -/
namespace Go.Proofs.YtfpbocjmlhcgiaaGreatDoor
open Go.RowKit PJ Go.Maps

def entsC (l : List Ent) : List Value := l.flatMap fun x => x.cells.toList
theorem entsC_snoc (l : List Ent) (x : Ent) : entsC (l ++ [x]) = entsC l ++ x.cells.toList := by simp [entsC]
theorem entsC_len : ∀ l : List Ent, (entsC l).length = l.length * 3
  | [] => rfl
  | x :: r => by
    have := entsC_len r
    unfold entsC at this ⊢
    rw [List.flatMap_cons, List.length_append, this]
    simp only [Ent.cells, List.length_cons, List.length_nil]
    omega
theorem info_ent : (Tryz.prog.info? 74).map (fun i => (i.zero, i.size, i.bytes)) = some (some (.agg #[.string ⟨#[]⟩, .bool false, .string ⟨#[]⟩]), 3, 40) := by kernel_rfl
/-- Rows of two element types lie in two blocks. -/
theorem rows_two {w : World} {B B' : Nat} {T T' : TypeId} {s s' n n' : Nat} {v v' : Value} {xs xs' : List Value} (hT : T ≠ T') (h : w.ownsRow B T s v n xs) (h' : w.ownsRow B' T' s' v' n' xs') : ∀ q, v.ownBlock = some q → v'.ownBlock ≠ some q := by
  intro q hq hq'
  rcases h.2 with ⟨e, -⟩ | ⟨g, cap, cur, e, -, e2, -⟩
  · rw [e] at hq; cases hq
  · rcases h'.2 with ⟨e', -⟩ | ⟨g', cap', cur', e', -, e2', -⟩
    · rw [e'] at hq'; cases hq'
    · rw [e] at hq
      rw [e'] at hq'
      obtain rfl : g = q := Option.some.inj hq
      obtain rfl : g' = g := Option.some.inj hq'
      rw [e2] at e2'
      simp only [Option.some.injEq, Obj.cells.injEq] at e2'
      exact hT e2'.2.1
set_option maxRecDepth 100000 in
set_option maxHeartbeats 4000000 in
theorem vsorted_any (w : World) (mb : Nat) (l : List Ent) (h : EMap w mb l) (hl : l.length ≤ 1000) (hp : ∀ x ∈ l, x.p.length ≤ 1000000) :
    Calls Tryz.prog 88 #[.map (some mb)] w fun e w' => ∃ v, e = .returned v ∧ w'.ownsRow w.heap.size 74 3 v l.length (entsC l) ∧ LJ w w' := by
  obtain ⟨iE, hiE, hzE, hsE, hbE⟩ := info_parts info_ent
  obtain ⟨n, hn⟩ : ∃ n, l.length = n := ⟨_, rfl⟩
  have hlen : ∀ ty, (Builtin.len_ #[141] ty #[.map (some mb)]).run Tryz.prog w = .ok (.int .i64 (n : Int)) w := fun ty => by rw [← hn]; exact h.len ty
  obtain ⟨w1, hmk, hown1, hgr1⟩ := run_make_own (P := Tryz.prog) w w.heap.size 67 74 iE _ 3 Tryz.underlying67 hiE hzE hsE .i64 .i64 n (by rw [hbE]; omega) (by unfold maxLen; omega) (Nat.le_refl _)
  have hl1 : LJ w w1 := ⟨hgr1.os, hgr1.tape, hgr1.output, hgr1.size, fun k hk => hgr1.block k hk (by simp)⟩
  have HMK := Lib.hid hown1
  have HL1 := Lib.hid hl1
  have H1 := Lib.hid (h.later hl1)
  have HKY := Lib.hid (ekeys_any (some mb) w1)
  obtain ⟨w2, hw2⟩ : ∃ w2, w1.alloc (.cells #[.map (some mb)] 141) = w2 := ⟨_, rfl⟩
  have HSR := Lib.hid ((esorted_any mb l w1 w2 hw2.symm H1.out (by omega)).mono (show ∀ e w', _ → ∃ ak ck, e = .returned (.slice ak l.length ck) ∧ w'.ownsRow w2.heap.size 9 1 (.slice ak l.length ck) l.length ((l.map (·.p)).map Go.Proofs.encStr) ∧ Below w2.heap.size w2 w' from by
    rintro e w' ⟨v, rfl, h1, h2⟩
    rcases h1.2 with ⟨e, e2⟩ | ⟨g, cap, cur, e, _⟩
    · exact ⟨none, 0, by rw [e, e2], by rw [e] at h1; rw [e2] at h1 ⊢; exact h1, h2⟩
    · exact ⟨some ⟨g, 0, none⟩, cap, by rw [e], by rw [e] at h1; exact h1, h2⟩))
  have HL12 := Lib.hid (show LJ w1 w2 from by rw [← hw2]; exact (LJ.refl w1).alloc _)
  rw [hn] at HSR ⊢
  rw [hw2] at HKY
  have hn1000 : n ≤ 1000 := by omega
  have HN := Lib.hid hn
  have HP := Lib.hid hp
  have HM0 := Lib.hid h
  clear hw2 h hp hn hown1 hl1 hgr1
  go_enter Tryz.func88, Tryz.ntmps88
  go_wp2_with (first
    | (go_at_call 149; (with_reducible refine HKY.out.mono ?_); rintro e wk ⟨rfl, hwk⟩; have hwk := hwk.symm; subst hwk)
    | (go_at_call 148; (with_reducible refine HSR.out.mono ?_); rintro e w3 ⟨ak, ck, rfl, hown3, hl3⟩; have HO3 := Lib.hid hown3; have HL3 := Lib.hid hl3; clear hown3 hl3)
    | fail)
  have HL03 := Lib.hid (HL1.out.trans (HL12.out.trans HL3.out))
  have HROW0 := Lib.hid (show w3.ownsRow w.heap.size 74 3 (.slice (some ⟨w.heap.size, 0, none⟩) 0 n) 0 (entsC (l.take 0)) from own_below HMK.out (HL12.out.trans HL3.out))
  have HKS := Lib.hid (show w.heap.size ≤ w2.heap.size from Nat.le_trans (Below.size HL1.out) (Below.size HL12.out))
  have HKEY0 := Lib.hid (show w3.ownsRow w.heap.size 9 1 (.slice ak n ck) n ((l.map (·.p)).map Go.Proofs.encStr) from own_base HO3.out HKS.out)
  clear hmk hlen
  go_loopw [3, 13] (fun v3 v13 wr => ∃ (i g cap : Nat), i ≤ n ∧ v13 = .int .i64 (i : Int) ∧ v3 = .slice (some ⟨g, 0, none⟩) i cap ∧ Hid (wr.ownsRow w.heap.size 74 3 (.slice (some ⟨g, 0, none⟩) i cap) i (entsC (l.take i))) ∧ Hid (wr.ownsRow w.heap.size 9 1 (.slice ak n ck) n ((l.map (·.p)).map Go.Proofs.encStr)) ∧ Hid (LJ w wr)) (fun _ v13 _ => n - (intOf v13).toNat)
  case atStart => exact ⟨0, _, _, by omega, rfl, rfl, HROW0, HKEY0, HL03⟩
  case round =>
    obtain ⟨i, g, cap, hi, rfl, rfl, HR, HKY2, HLR⟩ := hrel
    by_cases hlt : i < n
    · have hin : (i : Int) < (n : Int) := by omega
      obtain ⟨gk, ck', hf, hgk, hgl⟩ := HKY2.out.form (by omega)
      have hf1 : ak = some ⟨gk, 0, none⟩ := by injection hf
      subst hf1
      obtain ⟨x, hx⟩ : ∃ x, l[i]? = some x := ⟨_, List.getElem?_eq_getElem (by have := HN.out; omega)⟩
      have hxm := List.mem_of_getElem? hx
      obtain ⟨P, hP⟩ : ∃ P : ByteArray, (⟨x.p.toArray⟩ : ByteArray) = P := ⟨_, rfl⟩
      obtain ⟨S, hS⟩ : ∃ S : ByteArray, (⟨x.s.toArray⟩ : ByteArray) = S := ⟨_, rfl⟩
      have ck0 : wr.cell? ⟨gk, i, none⟩ = some (.string P) := by
        have h1 := HKY2.out.cells (g := gk) rfl i (.string P) (by rw [List.getElem?_map, List.getElem?_map, hx, ← hP]; rfl)
        rw [addr_none, Nat.zero_add] at h1
        exact h1
      have hlk : (Instr.lookup 141 (.map (some mb)) (.string P) false).run Tryz.prog wr = .ok (.agg #[.string P, .bool x.d, .string S]) wr := by
        have h1 := (HM0.out.later HLR.out).look x.p (by have := HP.out x hxm; omega)
        rw [findE_of HM0.out.rise hxm, hP] at h1
        rw [h1, ← hP, ← hS]
        rfl
      have HX := Lib.hid (show x.cells = #[.string P, .bool x.d, .string S] from by rw [← hP, ← hS]; rfl)
      have HLI := Lib.hid hx
      obtain ⟨b, hb⟩ : ∃ b, x.d = b := ⟨_, rfl⟩
      rw [hb] at hlk HX
      have hbw : w.heap.size ≤ wr.heap.size := Below.size HLR.out
      clear hx hxm hP hS hb hf hgk hgl
      go_wp2_with (first
        | (at_builtin; refine wpList_append_lies _ rfl (.tmp 17) (.tmp 21) 67 rfl w.heap.size 74 iE (.agg #[.string ⟨#[]⟩, .bool false, .string ⟨#[]⟩]) 3 40 Tryz.underlying67 hiE hzE hsE hbE rfl (by decide) _ _ _ rfl (HR.out.alloc _) ⟨wr.heap.size, 0, none⟩ 1 1 [.string P, .bool b, .string S] rfl rfl (cells_newJ wr [.string P, .bool b, .string S] 74) (by intro u hu; simp only [List.mem_cons, List.not_mem_nil, or_false] at hu; rcases hu with rfl | rfl | rfl <;> rfl) (by omega) (by unfold maxLen; omega) (by omega) (by simp; omega) _ rfl ?_; intro g5 cap5 w5 hown5 hgrow5 hat5 hlt5)
        | fail)
      go_roundw
      case rel =>
        have hrt := rows_two (T := 9) (T' := 74) (by decide) HKY2.out HR.out gk rfl
        have hsz := hgrow5.size
        simp only [World.size_alloc] at hsz
        have hrow := fun q (hq : q < wr.heap.size) hne => (hgrow5.block q (by simp; omega) hne).trans (Below.heap_alloc _ _ _ hq)
        have hge := HR.out.lt g rfl
        refine ⟨i + 1, g5, cap5, by omega, by simp, rfl, Lib.hid ?_, Lib.hid ?_, Lib.hid ⟨hgrow5.os.trans HLR.out.os, hgrow5.tape.trans HLR.out.tape, hgrow5.output.trans HLR.out.output, by omega, fun q hq => (hrow q (by omega) (fun e => by have e' : q = g := Option.some.inj e; omega)).trans (Below.block HLR.out q hq)⟩⟩
        · rw [List.take_add_one, HLI.out, Option.toList_some, entsC_snoc, HX.out]
          exact hown5
        · rcases HKY2.out with ⟨h0, h | ⟨g', cap', cur, h1, h2, h3, h4⟩⟩
          · exact ⟨h0, .inl h⟩
          · have e : gk = g' := by injection h1 with e1 e2 e3; injection e1 with e1; injection e1
            exact ⟨h0, .inr ⟨g', cap', cur, h1, h2, (hrow g' (lt_blk h3) (fun e2 => hrt (by rw [e]; exact e2.symm))).trans h3, h4⟩⟩
      case measure => simp [intOf]; omega
    · have hie : i = n := by omega
      have hin : ¬ (i : Int) < (n : Int) := by omega
      have HE := Lib.hid (show wr.ownsRow w.heap.size 74 3 (.slice (some ⟨g, 0, none⟩) i cap) n (entsC l) from by
        have h1 := HR.out
        rw [hie, ← HN.out, List.take_length] at h1
        rw [hie, ← HN.out]
        exact h1)
      clear hie
      go_wp2_with fail
      go_ret
      exact ⟨_, rfl, HE.out, HLR.out⟩
end Go.Proofs.YtfpbocjmlhcgiaaGreatDoor
/- The volume's parent, its names. -/
namespace Go.Proofs.YtfpbocjmlhcgiaaGreatDoor
open Go.RowKit PJ Go.Maps Go.Shelf

theorem lastS_spec (s : List UInt8) : (lastS s = -1 ∧ ∀ j : Nat, j < s.length → s[j]? ≠ some 47) ∨ ∃ i : Nat, i < s.length ∧ lastS s = (i : Int) ∧ s[i]? = some 47 ∧ ∀ j, i < j → j < s.length → s[j]? ≠ some 47 := by
  induction s using snoc_ind with
  | h0 => exact .inl ⟨rfl, fun j hj => absurd hj (Nat.not_lt_zero _)⟩
  | h1 l a ih =>
    rw [lastS_snoc, List.length_append]
    by_cases ha : a = 47
    · rw [if_pos ha]
      refine .inr ⟨l.length, by simp, rfl, by simp [ha], fun j h1 h2 => ?_⟩
      simp only [List.length_cons, List.length_nil] at h2
      omega
    · rw [if_neg ha]
      have hget : ∀ j, j < l.length + 1 → (∀ j, j < l.length → l[j]? ≠ some 47 → (l ++ [a])[j]? ≠ some 47) := fun _ _ j hj h => by rw [List.getElem?_append_left hj]; exact h
      have hlast : (l ++ [a])[l.length]? ≠ some 47 := by simp; exact ha
      rcases ih with ⟨h1, h2⟩ | ⟨i, h1, h2, h3, h4⟩
      · refine .inl ⟨h1, fun j hj => ?_⟩
        simp only [List.length_cons, List.length_nil] at hj
        rcases Nat.lt_or_ge j l.length with h | h
        · rw [List.getElem?_append_left h]; exact h2 j h
        · rw [show j = l.length from by omega]; exact hlast
      · refine .inr ⟨i, by omega, h2, by rw [List.getElem?_append_left h1]; exact h3, fun j h5 hj => ?_⟩
        simp only [List.length_cons, List.length_nil] at hj
        rcases Nat.lt_or_ge j l.length with h | h
        · rw [List.getElem?_append_left h]; exact h4 j h5 h
        · rw [show j = l.length from by omega]; exact hlast
theorem byte_at {s : ByteArray} {j : Nat} (hj : j < s.size) : ((s.data[j]!).toNat : Int) = 47 ↔ s.data.toList[j]? = some 47 := by
  have hj' : j < s.data.size := hj
  rw [Array.getElem?_toList, Array.getElem?_eq_getElem hj', getElem!_pos s.data j hj']
  constructor
  · intro h
    congr 1
    apply UInt8.toNat_inj.1
    have : (s.data[j]).toNat = 47 := by omega
    rw [this]
    rfl
  · intro h
    rw [Option.some.inj h]
    rfl
theorem lastI_eq (s : ByteArray) : Lib.lastIndexByte s 47 = lastS s.data.toList := by
  have hl : s.data.toList.length = s.size := by rw [Array.length_toList]; rfl
  have h1 := Lib.lastIdx_spec s 47 s.size
  have h2 := lastS_spec s.data.toList
  rw [hl] at h2
  show Lib.lastIdx s 47 s.size = _
  rcases h1 with ⟨a1, a2⟩ | ⟨i, a1, a2, a3, a4⟩
  · rcases h2 with ⟨b1, b2⟩ | ⟨k, b1, b2, b3, b4⟩
    · rw [a1, b1]
    · exact absurd ((byte_at b1).2 b3) (a2 k b1)
  · rcases h2 with ⟨b1, b2⟩ | ⟨k, b1, b2, b3, b4⟩
    · exact absurd ((byte_at a1).1 a3) (b2 i a1)
    · rw [a2, b2]
      rcases Nat.lt_trichotomy i k with h | h | h
      · exact absurd ((byte_at b1).2 b3) (a4 k h b1)
      · rw [h]
      · exact absurd ((byte_at a1).1 a3) (b4 i h a1)
set_option maxRecDepth 100000 in
theorem vparent_any (w : World) (s : ByteArray) (h1 : 1 ≤ s.size) (hs : s.size < 4611686018427387904) :
    Calls Tryz.prog 89 #[.string s] w fun e w' => e = .returned (.string ⟨(upP s.data.toList).toArray⟩) ∧ w' = w := by
  have hl : s.data.toList.length = s.size := by rw [Array.length_toList]; rfl
  have hb := lastS_bd s.data.toList
  obtain ⟨L, hL⟩ : ∃ L, lastS s.data.toList = L := ⟨_, rfl⟩
  have HLI := Lib.hid (fun W => show Calls Tryz.prog 107 #[.string s, .int .u8 47] W fun e w' => e = .returned (.int .i64 L) ∧ w' = W from by
    have h := Any.strings_LastIndexByte Tryz.lays149 s 47 hs W
    rw [lastI_eq, hL] at h
    exact h)
  rw [hL, hl] at hb
  obtain ⟨m, hm⟩ : ∃ m : Nat, max 1 L = (m : Int) := ⟨(max 1 L).toNat, by omega⟩
  have hms : m ≤ s.size := by
    rcases hb with hb | ⟨hb, -⟩
    · omega
    · rw [hb] at hl
      simp at hl
      omega
  have h0m : (0 : Int) ≤ (m : Int) := by omega
  have hmi : (m : Int) ≤ (s.size : Int) := by omega
  have hmt : (m : Int).toNat = m := by omega
  have HOUT := Lib.hid (show (s.extract 0 m) = ⟨(upP s.data.toList).toArray⟩ from by
    unfold upP
    rw [hL, hm, hmt]
    have h2 : (s.extract 0 m).data.toList = s.data.toList.take m := by rw [ex_list]; simp
    rw [← h2])
  clear hb hl
  go_enter Tryz.func89, Tryz.ntmps89
  go_wp2_with (first
    | (go_at_call 107; (with_reducible refine (HLI.out _).mono ?_); rintro e w2 ⟨rfl, hw2⟩; subst hw2)
    | fail)
  go_ret
  exact ⟨ret_str HOUT.out, rfl⟩
end Go.Proofs.YtfpbocjmlhcgiaaGreatDoor
/- The volume's names. -/
namespace Go.Proofs.YtfpbocjmlhcgiaaGreatDoor
open Go.RowKit PJ Go.Maps Go.Shelf

/-- The bytes of names, as the program has them. -/
def setC : List UInt8 := [97, 98, 99, 100, 101, 102, 103, 104, 105, 106, 107, 108, 109, 110, 111, 112, 113, 114, 115, 116, 117, 118, 119, 120, 121, 122, 48, 49, 50, 51, 52, 53, 54, 55, 56, 57, 46, 95, 45]
theorem setC_ok (c : UInt8) : setC.contains c = okC c := by
  have key : ∀ n : Nat, n < 256 → setC.contains (UInt8.ofNat n) = okC (UInt8.ofNat n) := by decide +kernel
  have h := key c.toNat c.toNat_lt
  rw [UInt8.ofNat_toNat] at h
  exact h
theorem dropW_nil {α : Type} {p : α → Bool} : ∀ {l : List α}, l.dropWhile p = [] ↔ l.all p = true
  | [] => by simp
  | a :: r => by
    rw [List.dropWhile_cons, List.all_cons]
    by_cases h : p a = true
    · rw [if_pos h, h, Bool.true_and]
      exact dropW_nil
    · rw [if_neg h]
      simp [h]
theorem trim_nil (l : List UInt8) : Lib.trimS l setC = [] ↔ l.all okC = true := by
  have hp : (setC.contains · : UInt8 → Bool) = okC := funext setC_ok
  unfold Lib.trimS Lib.trimLeftS Lib.trimRightS
  rw [hp, dropW_nil]
  constructor
  · intro h
    by_cases h2 : l.reverse.dropWhile okC = []
    · rw [dropW_nil, List.all_reverse] at h2
      exact h2
    · exfalso
      obtain ⟨a, r, e⟩ := List.exists_cons_of_ne_nil h2
      have h3 := List.head?_dropWhile_not okC l.reverse
      rw [e] at h3 h
      rw [List.all_reverse] at h
      simp only [List.head?_cons] at h3
      simp only [List.all_cons, Bool.and_eq_true] at h
      rw [h.1] at h3
      cases h3
  · intro h
    have h2 : l.reverse.dropWhile okC = [] := by rw [dropW_nil, List.all_reverse]; exact h
    rw [h2]
    rfl
set_option maxRecDepth 100000 in
theorem vname_any (w : World) (s : ByteArray) (hs : s.size ≤ 9223372036854775807) :
    Calls Tryz.prog 83 #[.string s] w fun e w' => e = .returned (.bool (nameB s.data.toList)) ∧ LJ w w' := by
  have HTR := Lib.hid (fun W => show Calls Tryz.prog 130 #[.string s, .string ⟨#[97, 98, 99, 100, 101, 102, 103, 104, 105, 106, 107, 108, 109, 110, 111, 112, 113, 114, 115, 116, 117, 118, 119, 120, 121, 122, 48, 49, 50, 51, 52, 53, 54, 55, 56, 57, 46, 95, 45]⟩] W fun e w' => e = .returned (.string ⟨(Lib.trimS s.data.toList setC).toArray⟩) ∧ LJ W w' from
    Any.strings_Trim_laid Tryz.lays160 (by kernel_rfl) s _ W hs (by decide) (ascii_of_all (by decide)))
  obtain ⟨T, hT⟩ : ∃ T : ByteArray, (⟨(Lib.trimS s.data.toList setC).toArray⟩ : ByteArray) = T := ⟨_, rfl⟩
  rw [hT] at HTR
  have hTl : T.toList = Lib.trimS s.data.toList setC := by rw [← hT, ByteArray.toList_eq]
  obtain ⟨l, hl⟩ : ∃ l, s.data.toList = l := ⟨_, rfl⟩
  have hsl : s.toList = l := by rw [ByteArray.toList_eq, hl]
  have hlen : s.size = l.length := by rw [← hl, Array.length_toList]; rfl
  rw [hl] at hTl ⊢
  have htn : T.toList.isEmpty = l.all okC := by
    rw [hTl]
    by_cases h : l.all okC = true
    · rw [h, (trim_nil l).2 h]; rfl
    · have h2 : Lib.trimS l setC ≠ [] := fun e => h ((trim_nil l).1 e)
      rw [Bool.not_eq_true] at h
      rw [h, List.isEmpty_eq_false_iff]
      exact h2
  clear hT hTl hs
  by_cases h0 : l = []
  · subst h0
    have hse : s.toList.isEmpty = true := by rw [hsl]; rfl
    go_enter Tryz.func83, Tryz.ntmps83
    go_wp2_with fail
    go_ret
    exact ⟨rfl, LJ.refl _⟩
  · have hse : s.toList.isEmpty = false := by rw [hsl]; exact List.isEmpty_eq_false_iff.2 h0
    have hle : l.isEmpty = false := List.isEmpty_eq_false_iff.2 h0
    have HNB := Lib.hid (show nameB l = (decide (l.length ≤ 12) && (l != [46] && (l != [46, 46] && l.all okC))) from by unfold nameB; rw [hle]; rfl)
    clear hl
    by_cases h1 : l = [46]
    · subst h1
      clear h0 hle HNB
      go_enter Tryz.func83, Tryz.ntmps83
      go_wp2_with fail
      go_ret
      exact ⟨rfl, LJ.refl _⟩
    by_cases h2 : l = [46, 46]
    · subst h2
      clear h0 h1 hle HNB
      go_enter Tryz.func83, Tryz.ntmps83
      go_wp2_with fail
      go_ret
      exact ⟨rfl, LJ.refl _⟩
    by_cases h3 : (l.length : Int) ≤ 12
    · have hn : nameB l = l.all okC := by
        rw [HNB.out, decide_eq_true (show l.length ≤ 12 by omega), show (l != [46]) = true from by simpa using h1, show (l != [46, 46]) = true from by simpa using h2]
        rfl
      rw [hn]
      clear hn HNB h0
      go_enter Tryz.func83, Tryz.ntmps83
      go_wp2_with (first
        | (go_at_call 130; (with_reducible refine (HTR.out _).mono ?_); rintro e w2 ⟨rfl, hl2⟩; have HL2 := Lib.hid hl2; clear hl2)
        | fail)
      go_ret
      exact ⟨rfl, HL2.out⟩
    · have hn : nameB l = false := by
        rw [HNB.out, decide_eq_false (show ¬ l.length ≤ 12 by omega)]
        rfl
      rw [hn]
      clear hn HNB h0 h1 h2
      go_enter Tryz.func83, Tryz.ntmps83
      go_wp2_with fail
      go_ret
      exact ⟨rfl, LJ.refl _⟩
end Go.Proofs.YtfpbocjmlhcgiaaGreatDoor
/- The volume's reader: take; Path's closure. -/
namespace Go.Proofs.YtfpbocjmlhcgiaaGreatDoor
open Go.RowKit PJ Go.Maps Go.Shelf

set_option maxRecDepth 100000 in
theorem vpath1_any (w : World) (s : ByteArray) (hs : s.size ≤ 9223372036854775807) :
    Calls Tryz.prog 82 #[.string s] w fun e w' => e = .returned (.bool (!nameB s.data.toList)) ∧ LJ w w' := by
  have HN := Lib.hid (vname_any w s hs)
  obtain ⟨B, hB⟩ : ∃ B, nameB s.data.toList = B := ⟨_, rfl⟩
  rw [hB] at HN ⊢
  clear hB
  go_enter Tryz.func82, Tryz.ntmps82
  go_wp2_with (first
    | (go_at_call 83; (with_reducible refine HN.out.mono ?_); rintro e w2 ⟨rfl, hl2⟩; have HL2 := Lib.hid hl2; clear hl2)
    | fail)
  go_ret
  exact ⟨rfl, HL2.out⟩
/-- A reader in memory. -/
def RdAt (w : World) (R : Nat) (S : ByteArray) (lost : Bool) : Prop := w.heap[R]? = some (.cells #[.string S, .bool lost] 208 (0, 0))
/-- What is taken, what is left, whether the reader is lost. -/
def takeB (S : ByteArray) (lost : Bool) (n : Nat) : ByteArray × ByteArray × Bool := if lost = true ∨ S.size < n then (⟨#[]⟩, S, true) else (S.extract 0 n, S.extract n S.size, false)
set_option maxRecDepth 100000 in
set_option maxHeartbeats 2000000 in
theorem vtake_any (w : World) (R : Nat) (S : ByteArray) (lost : Bool) (n : Nat) (h : RdAt w R S lost) :
    Calls Tryz.prog 164 #[.pointer (some ⟨R, 0, none⟩), .int .i64 n] w fun e w' => e = .returned (.string (takeB S lost n).1) ∧ RdAt w' R (takeB S lost n).2.1 (takeB S lost n).2.2 ∧ OnlyJ (fun q => q = R) w w' := by
  have hb : w.heap[R]? = some (.cells #[.string S, .bool lost] 208 (0, 0)) := h
  have c0 : w.cell? ⟨R, 0, none⟩ = some (.string S) := cell_blk hb 0
  have c1 : w.cell? ⟨R, 1, none⟩ = some (.bool lost) := cell_blk hb 1
  have f0 := free_blk hb 0
  have f1 := free_blk hb 1
  have HB := Lib.hid hb
  clear h hb
  cases lost with
  | true =>
    go_enter Tryz.func164, Tryz.ntmps164
    go_wp2_with fail
    go_ret
    exact ⟨rfl, heap_setCell_same _ _ 1 _ _ (.bool true) HB.out, setCell_only _ _ _ _⟩
  | false =>
    by_cases hn : S.size < n
    · have hni : (S.size : Int) < (n : Int) := by omega
      have ht : takeB S false n = (⟨#[]⟩, S, true) := if_pos (.inr hn)
      rw [ht]
      clear ht
      go_enter Tryz.func164, Tryz.ntmps164
      go_wp2_with fail
      go_ret
      exact ⟨rfl, heap_setCell_same _ _ 1 _ _ (.bool true) HB.out, setCell_only _ _ _ _⟩
    · have hni : ¬ (S.size : Int) < (n : Int) := by omega
      have hn0 : (0 : Int) ≤ (n : Int) := by omega
      have hn1 : (n : Int) ≤ (S.size : Int) := by omega
      have hnt : (n : Int).toNat = n := by omega
      have hnl : n ≤ S.size := by omega
      have ht : takeB S false n = (S.extract 0 n, S.extract n S.size, false) := if_neg (by rintro (e | e); cases e; exact hn e)
      rw [ht]
      clear ht
      go_enter Tryz.func164, Tryz.ntmps164
      go_wp2_with fail
      go_ret
      exact ⟨rfl, heap_setCell_same _ _ 0 _ _ (.string (S.extract n S.size)) HB.out, setCell_only _ _ _ _⟩
end Go.Proofs.YtfpbocjmlhcgiaaGreatDoor
/- The volume's reader: number. -/
namespace Go.Proofs.YtfpbocjmlhcgiaaGreatDoor
open Go.RowKit PJ Go.Maps Go.Shelf

theorem of_step_i {n c : Int} (hn : 0 ≤ n) (hn2 : n < 281474976710656) (hc : 0 ≤ c ∧ c ≤ 255) : Go.bits .or .i64 (n * 256) c = n * 256 + c := by
  unfold Go.bits
  simp only
  have ha : (BitVec.ofInt IntKind.i64.bits (n * 256)).toNat = n.toNat * 256 := by
    rw [BitVec.toNat_ofInt]
    show ((n * 256) % (2 ^ 64 : Nat)).toNat = _
    omega
  have hb : (BitVec.ofInt IntKind.i64.bits c).toNat = c.toNat := by
    rw [BitVec.toNat_ofInt]
    show (c % (2 ^ 64 : Nat)).toNat = _
    omega
  have hor : (n.toNat * 256 ||| c.toNat) = n.toNat * 256 + c.toNat := by
    rw [Nat.mul_comm]
    exact (Nat.two_pow_add_eq_or_of_lt (i := 8) (by show c.toNat < 256; omega) n.toNat).symm
  rw [BitVec.toNat_or, ha, hb, hor, IntKind.wrap_i64]
  omega
theorem takeB_size (S : ByteArray) (lost : Bool) (n : Nat) : (takeB S lost n).1.size ≤ n := by
  unfold takeB
  split
  · exact Nat.zero_le _
  · rw [ByteArray.size_extract]
    omega
set_option maxRecDepth 100000 in
set_option maxHeartbeats 2000000 in
theorem vnumber_any (w : World) (R : Nat) (S : ByteArray) (lost : Bool) (k : Nat) (hk2 : k ≤ 2) (h : RdAt w R S lost) :
    Calls Tryz.prog 163 #[.pointer (some ⟨R, 0, none⟩), .int .i64 k] w fun e w' => e = .returned (.int .i64 (ofL (takeB S lost k).1.data.toList)) ∧ RdAt w' R (takeB S lost k).2.1 (takeB S lost k).2.2 ∧ OnlyJ (fun q => q = R) w w' := by
  have HT := Lib.hid (vtake_any w R S lost k h)
  have hts := takeB_size S lost k
  obtain ⟨T, hT⟩ : ∃ T, (takeB S lost k).1 = T := ⟨_, rfl⟩
  obtain ⟨S2, hS2⟩ : ∃ T, (takeB S lost k).2.1 = T := ⟨_, rfl⟩
  obtain ⟨l2, hl2⟩ : ∃ T, (takeB S lost k).2.2 = T := ⟨_, rfl⟩
  rw [hT] at hts
  rw [hT, hS2, hl2] at HT ⊢
  have hconv : ∀ W : World, (convert 9 99 (.string T)).run Tryz.prog W = .ok (.slice (some ⟨W.heap.size, 0, none⟩) T.size (grownCap W T.size 0 5)) (Lib.bytesWorld W 5 T) :=
    fun W => Lib.run_convert_string_bytes W _ _ _ T Tryz.underlying9 Tryz.underlying99 Tryz.underlying5
  clear hT hS2 hl2 h
  go_enter Tryz.func163, Tryz.ntmps163
  go_wp2_with (first
    | (go_at_call 164; (with_reducible refine HT.out.mono ?_); rintro e w2 ⟨rfl, hr2, ho2⟩
       have HR2 := Lib.hid hr2
       have HO2 := Lib.hid ho2
       clear hr2 ho2)
    | fail)
  obtain ⟨cap, hcap⟩ : ∃ cap, grownCap w2 T.size 0 5 = cap := ⟨_, rfl⟩
  have hge : T.size ≤ cap := by rw [← hcap]; exact grownCap_ge _ _ _ _
  obtain ⟨g, hg⟩ : ∃ g, w2.heap.size = g := ⟨_, rfl⟩
  obtain ⟨w3, hw3⟩ : ∃ w3, Lib.bytesWorld w2 5 T = w3 := ⟨_, rfl⟩
  have HCE := Lib.hid (show ∀ j, j < T.size → w3.cell? ⟨g, j, none⟩ = some (.int .u8 (T.data.toList.getD j 0).toNat) from fun j hj => by rw [← hw3, ← hg]; exact Lib.bytesWorld_cell _ _ _ _ hj)
  have HL3 := Lib.hid (show LJ w2 w3 from by rw [← hw3]; exact below_bytes _ _ _)
  rw [hcap, hg, hw3]
  clear hcap hg hw3 hconv
  go_loopw [5, 13] (fun v5 v13 wr => ∃ (n j : Nat), j ≤ T.size ∧ v13 = .int .i64 (j : Int) ∧ v5 = .int .i64 (n : Int) ∧ Hid (n = ofL (T.data.toList.take j)) ∧ wr = w3) (fun _ v13 _ => T.size - (intOf v13).toNat)
  case atStart => exact ⟨0, 0, by omega, rfl, rfl, Lib.hid rfl, rfl⟩
  case round =>
    obtain ⟨n, j, hj, rfl, rfl, HN, hwr⟩ := hrel
    subst hwr
    by_cases hlt : j < T.size
    · have HTK := Lib.hid (get_take T hlt)
      have hnb : n < 281474976710656 := by
        have h1 := ofL_lt (T.data.toList.take j)
        rw [← HN.out, List.length_take] at h1
        have h2 : 256 ^ min j T.data.toList.length ≤ 256 ^ 6 := Nat.pow_le_pow_right (by omega) (by omega)
        have h3 : (256 : Nat) ^ 6 = 281474976710656 := by decide
        omega
      have hce := HCE.out j hlt
      obtain ⟨u, hu⟩ : ∃ u, T.data.toList.getD j 0 = u := ⟨_, rfl⟩
      rw [hu] at HTK hce
      obtain ⟨c, hc⟩ : ∃ c : Int, (u.toNat : Int) = c := ⟨_, rfl⟩
      have hc0 : 0 ≤ c ∧ c ≤ 255 := by have := UInt8.toNat_lt u; omega
      rw [hc] at hce
      have hji : (j : Int) < (T.size : Int) := by omega
      have hwj : IntKind.i64.wrap ((j : Int) + 1) = (j : Int) + 1 := by rw [IntKind.wrap_i64]; omega
      have hw1 : IntKind.i64.wrap ((n : Int) * 256) = (n : Int) * 256 := by rw [IntKind.wrap_i64]; omega
      have hw2 : IntKind.i64.wrap (256 * (n : Int)) = 256 * (n : Int) := by rw [IntKind.wrap_i64]; omega
      have hwc : IntKind.i64.wrap c = c := by rw [IntKind.wrap_i64]; omega
      have hst : Go.bits .or .i64 ((n : Int) * 256) c = (n : Int) * 256 + c := of_step_i (by omega) (by omega) hc0
      have hst2 : Go.bits .or .i64 (256 * (n : Int)) c = (n : Int) * 256 + c := by rw [Int.mul_comm]; exact hst
      have HC := Lib.hid hc
      clear hu hc
      go_wp2_with fail
      go_roundw
      case rel =>
        refine ⟨n * 256 + u.toNat, j + 1, by omega, by simp, ?_, Lib.hid ?_, trivial⟩
        · show Value.int .i64 _ = Value.int .i64 _
          congr 1
          have := HC.out
          omega
        · rw [HTK.out, ofL_snoc, ← HN.out]
      case measure => simp [intOf]; omega
    · have hjs : j = T.size := by omega
      have hnji : ¬ (j : Int) < (T.size : Int) := by omega
      have HE := Lib.hid (show n = ofL T.data.toList from by rw [HN.out, hjs, take_all])
      clear hjs
      go_wp2_with fail
      go_ret
      exact ⟨by rw [← HE.out]; rfl, HL3.out.block HR2.out, HO2.out.trans (OnlyJ.of_below HL3.out)⟩
end Go.Proofs.YtfpbocjmlhcgiaaGreatDoor
