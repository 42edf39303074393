/- The walk of the document's Ends: a row. (Printed by wip/gen_ends.py.) -/
import Derived.Test.YtjhclopdcbnmkaaGreatDoorEnds
set_option linter.unusedSimpArgs false
set_option linter.unusedVariables false
namespace Go.Proofs.YtjhclopdcbnmkaaGreatDoor
open Go.RowKit PX

section
variable {S : ByteArray} {p : Nat} {nds : List Nd} {X : Nat → Rx} {nb nc kb kc : Nat} {kk : List Nat} {n : Nat}
theorem PX.IsEnds.congr {L L' : List UInt8 → Prop} {s : List UInt8} {i : Nat} {bs : List Bool} (h : IsEnds L s i bs) (e : ∀ t, L t ↔ L' t) : IsEnds L' s i bs :=
  ⟨h.1, fun k hk => (h.2 k hk).trans (and_congr Iff.rfl (e _))⟩
set_option maxRecDepth 100000 in
set_option maxHeartbeats 4000000 in
theorem ends_seq {F : Nat → Prop} {w : World} {a q : Nat} {nd : Nd} (hS : S.size ≤ 256) (hT : TabS F w p S nds X nb nc kb kc kk) (ha : a ≤ S.size) (hq : kk[n]? = some q) (hnd : nds[n]? = some nd) (hc : w.cell? ⟨q, a, none⟩ = some (.slice none 0 0)) (hk : nd.k = 1)
    (hTH : ∀ c ∈ nd.kids, ThroughOK S p nds X nb nc kb kc kk c) (hEN : ∀ c ∈ nd.kids, EndsOK S p nds X nb nc kb kc kk c) :
    Calls Tryz.prog 42 #[.pointer (some ⟨p, 0, none⟩), .int .i64 n, .int .i64 a] w (EndsPost S p nds X nb nc kb kc kk F n a w) := by
  obtain ⟨c0, c1, c2, c3⟩ := hT.reads hq
  obtain ⟨d0, d1, d2, d3, d4, d5, d6, d7, d8⟩ := hT.nodeAt hnd
  have hn : n < nds.length := by rw [← hT.len]; exact (List.getElem?_eq_some_iff.1 hq).1
  have hcaps := hT.caps
  unfold maxLen at hcaps
  obtain ⟨ZB, hzb⟩ : ∃ ZB : Array Value, ((List.replicate (S.size + 1) false).map Value.bool).toArray = ZB := ⟨_, rfl⟩
  have hEW := endW hT nd ZB hzb
  obtain ⟨k, mn, mx, s0, s1, s2, s3, na, ln, cap, la, kcp, kids⟩ := nd
  simp only at d0 d1 d2 d3 d4 d5 d6 d7 d8 hk hTH hEN
  subst hk
  obtain ⟨W2, hW2⟩ : ∃ W2, (w.alloc (.cells (Nd.mk 1 mn mx s0 s1 s2 s3 na ln cap la kcp kids).cells.toArray 122)).alloc (.cells ZB 4) = W2 := ⟨_, rfl⟩
  rw [hW2] at hEW
  simp only [Nd.cells] at hW2
  obtain ⟨N, hN⟩ : ∃ N, nds.length = N := ⟨_, rfl⟩
  rw [hN] at c1 c2 hn hcaps
  have hnN : (n : Int) < N := by omega
  have haS : (a : Int) < (S.size : Int) + 1 := by omega
  have hmx : N ≤ 9223372036854775807 := by omega
  have hmk := fun W => make_bools W S.size (by omega)
  rw [hzb] at hmk
  have hne := fun W a n c => run_neq_slice_nil_any (P := Tryz.prog) W 90 4 a n c 0 0 Tryz.underlying90
  have HT := Lib.hid hT
  have HEW := Lib.hid hEW
  obtain ⟨m, hm⟩ : ∃ m, kids.length = m := ⟨_, rfl⟩
  rw [hm] at d8
  have HM := Lib.hid hm
  have c0a : (w.alloc (.cells #[.int .i64 1, .int .i64 mn, .int .i64 mx, .int .u64 s0, .int .u64 s1, .int .u64 s2, .int .u64 s3, .slice na ln cap, .slice la m kcp] 122)).cell? ⟨p, 0, none⟩ = some (.string S) := ((Later.refl w).alloc _).cell c0
  rw [hm] at hW2
  have HW2 := Lib.hid hW2
  have HQ := Lib.hid hq
  have HGOOD := Lib.hid (hT.good n _ hnd)
  have HN := Lib.hid hN
  have HLANG := Lib.hid (hT.lang n _ hnd).1
  have HKLT := Lib.hid (hT.lang n _ hnd).2
  have HKID := Lib.hid (hT.kid n _ hnd)
  have HTH := Lib.hid hTH
  have HEN := Lib.hid hEN
  have HZB := Lib.hid hzb
  have HND := Lib.hid hnd
  clear hN hT hcaps hEW hW2 hnd hq hzb hm hTH hEN
  go_enter Tryz.func42, Tryz.ntmps42
  go_upto_region 5 with fail
  rw [HW2.out]
  clear c0a HW2 c0 c1 c2 c3 d0 d1 d2 d3 d4 d5 d6 d7 d8 hc
  obtain ⟨hz, hz1⟩ := HEW.out.size
  obtain ⟨xb, hxb⟩ : ∃ xb, w.heap.size = xb := ⟨_, rfl⟩
  rw [hxb] at HEW ⊢
  have HXB := Lib.hid hxb; clear hxb hz hz1
  have hgF : ¬ F (xb + 1) := fun h => by
    have h1 := (HT.out.fill (xb + 1) h).1
    have h2 := HEW.out.size
    omega
  have HGF := Lib.hid hgF; clear hgF
  have HGK := Lib.hid HEW.out.gk
  have HXK := Lib.hid HEW.out.xk
  have HBOX := Lib.hid HEW.out.box
  have HOW := Lib.hid HEW.out.row
  have HSZ2 : Hid (xb + 1 < W2.heap.size) := Lib.hid HEW.out.row.lt
  have HN2 : Hid (Only (fun q => q ∈ kk) w W2) := Lib.hid (Only.of_below HEW.out.later)
  obtain ⟨hkid1, hkid2, hkid3⟩ := HKID.out
  simp only at hkid1 hkid2 hkid3
  rw [HM.out] at hkid1
  have hmm : m ≤ 9223372036854775807 := by unfold maxLen at hkid2; omega
  clear hkid1 hkid2 hkid3
  have x0 := cell_of_block HBOX.out 0
  simp only [Nd.cells, List.getElem?_toArray, List.getElem?_cons_zero, List.getElem?_cons_succ] at x0
  have hrow : (List.replicate (S.size + 1) false)[a]? = some false := by rw [List.getElem?_replicate, if_pos (by omega)]
  have rc := HOW.out.cell hrow
  have rf := HOW.out.free a
  obtain ⟨w3, hw3⟩ : ∃ w3, W2.setCell ⟨xb + 1, a, none⟩ (.bool true) = w3 := ⟨_, rfl⟩
  have hon3 : Only (fun q => q = xb + 1) W2 w3 := by rw [← hw3]; exact (Only.refl (fun q => q = xb + 1) W2).setCell (.inl rfl) _
  have hob3 := HOW.out.set a true
  rw [hw3] at hob3
  have HT3 := Lib.hid (HEW.out.tab.only hon3 (fun q _ hq => .inr hq))
  have HO3 := Lib.hid hob3
  have hbox3 : w3.heap[xb]? = some (.cells (Nd.mk 1 mn mx s0 s1 s2 s3 na ln cap la kcp kids).cells.toArray 122 (0, 0)) := (hon3.block xb (lt_of_block HBOX.out) (fun (h : xb = xb + 1) => by omega)).trans HBOX.out
  have HBOX3 := Lib.hid hbox3
  have HN3 : Hid (Only (fun q => q ∈ kk) w w3) := Lib.hid (HN2.out.trans (hon3.mono (fun q hq h => .inr (by subst h; have := HXB.out; omega))))
  have HW3 := Lib.hid hw3
  have HSZ3 : Hid (W2.heap.size ≤ w3.heap.size) := Lib.hid hon3.size
  clear hw3 hon3 hob3 hbox3 hrow
  go_upto_region 30 with fail
  rw [HW3.out]
  clear rc rf x0 HW3
  go_wp2_with fail
  go_loopw [8, 9] (fun v_ i_ wx => ∃ (i g : Nat) (bs : List Bool), i ≤ m ∧ i_ = .int .i64 i ∧ v_ = .slice (some ⟨g, 0, none⟩) (S.size + 1) (S.size + 1) ∧ OwnB wx g bs ∧ IsEnds (langSeq ((kids.take i).map X)) S.data.toList a bs ∧ TabS (fun q => F q ∨ q = g) wx p S nds X nb nc kb kc kk ∧ Only (fun q => q ∈ kk) w3 wx ∧ ¬ F g ∧ g ∉ kk) (fun _ i_ _ => m - (intOf i_).toNat)
  case atStart =>
    refine ⟨0, xb + 1, _, by omega, rfl, rfl, HO3.out, ?_, HT3.out, Only.refl _ _, HGF.out, HGK.out⟩
    refine isEnds_nil S.data.toList a (by rw [ba_len]; exact ha) _ (by simp [ba_len]) (fun k hk => ?_)
    rw [getElem?_set_iff (by simp; omega), List.getElem?_replicate]
    constructor
    · rintro (⟨h, -⟩ | ⟨-, h⟩)
      · exact h
      · split at h <;> cases h
    · rintro rfl; exact .inl ⟨rfl, rfl⟩
  case round =>
    obtain ⟨i, g, bs, hi, rfl, rfl, hob, hie, htab, hon, hgF, hgk⟩ := hrel
    have hbox : wr.heap[xb]? = _ := (hon.block xb (lt_of_block HBOX3.out) HXK.out).trans HBOX3.out
    have x8 := cell_of_block hbox 8
    simp only [Nd.cells, List.getElem?_toArray, List.getElem?_cons_zero, List.getElem?_cons_succ] at x8
    rw [HM.out] at x8
    have HOB := Lib.hid hob; clear hob
    have HIE := Lib.hid hie; clear hie
    have HTAB := Lib.hid htab; clear htab
    have HON := Lib.hid hon; clear hon hbox
    have HGF2 := Lib.hid hgF; clear hgF
    have HGK2 := Lib.hid hgk; clear hgk
    by_cases him : i = m
    · subst him
      have hie := HIE.out
      rw [List.take_of_length_le (by rw [HM.out]; exact Nat.le_refl _)] at hie
      have hXl : (X n).lang = langSeq (kids.map X) := by rw [HLANG.out]; funext t; simp only [Rx.lang, show ¬ ((1 : Int) = 0) by decide, if_false, if_true]
      rw [← hXl] at hie
      have HIE2 := Lib.hid hie; clear hie hXl
      have HNN : Hid (Only (fun q => q ∈ kk) w wr) := Lib.hid (HN3.out.trans (HON.out.mono (fun _ _ h => .inl h)))
      obtain ⟨e0, e1, e2, e3⟩ := HTAB.out.reads HQ.out
      rw [HN.out] at e1 e2
      obtain ⟨v, ev, ef⟩ := HTAB.out.slot HQ.out ha
      go_wp2_with fail
      go_ret
      exact ends_fin HTAB.out HNN.out HOB.out HIE2.out HGF2.out HGK2.out HQ.out ha
    · have him2 : (i : Int) < m := by omega
      have him3 : i < kids.length := by rw [HM.out]; omega
      obtain ⟨c, hcc⟩ : ∃ c, kids[i]? = some c := ⟨_, List.getElem?_eq_getElem him3⟩
      have hne2 : kids ≠ [] := by rintro rfl; simp at him3
      obtain ⟨lb, hla, hlb⟩ := ((HTAB.out.kid n _ HND.out).2.2).resolve_left hne2
      simp only at hla
      rw [hla] at x8
      have hlc := hlb i c hcc
      have HLA := Lib.hid hla
      clear hlb hla
      have hth := HTH.out c (List.mem_of_getElem? hcc) (fun q => F q ∨ q = g) wr g bs HTAB.out HOB.out (by rw [HIE.out.1, ba_len]) HGK2.out
      have HCALL := Lib.hid hth; clear hth
      have HCC := Lib.hid hcc; clear hcc hne2
      go_wp2_with (first
        | (go_at_call 68; (with_reducible refine HCALL.out.mono ?_); rintro e w4 ⟨g', cs, rfl, hgw, hoc, hcl, hcs, htab4, hon4, hgk4⟩; have HOC := Lib.hid hoc; have HCS := Lib.hid hcs; have HT4 := Lib.hid htab4; have HO4 := Lib.hid hon4; have HGK4 := Lib.hid hgk4; clear hoc hcs htab4 hon4 hgk4)
        | fail)
      refine ⟨⟨i + 1, g', cs, by omega, by simp, rfl, HOC.out, ?_, HT4.out.weaken (fun x hx => ?_), HON.out.trans (HO4.out.mono (fun _ _ h => .inl h)), fun hF => ?_, HGK4.out⟩, by simp only [intOf]; omega⟩
      · have h1 := isEnds_through HIE.out (by rw [hcl, ba_len]) (fun k hk => HCS.out k (by rw [ba_len] at hk; exact hk))
        refine h1.congr (fun t => ?_)
        rw [List.take_add_one, HCC.out, Option.toList_some, List.map_append, List.map_singleton, langSeq_append]
        refine exists_congr fun u => exists_congr fun v => and_congr Iff.rfl (and_congr Iff.rfl ?_)
        simp only [langSeq]
        constructor
        · intro h; exact ⟨v, [], by simp, h, rfl⟩
        · rintro ⟨v', e, rfl, h, rfl⟩; rw [List.append_nil]; exact h
      · rcases hx with hx | hx
        · exact .inl (.inl hx)
        · exact .inr hx
      · have := (HTAB.out.fill g' (.inl hF)).1
        omega
end
end Go.Proofs.YtjhclopdcbnmkaaGreatDoor
