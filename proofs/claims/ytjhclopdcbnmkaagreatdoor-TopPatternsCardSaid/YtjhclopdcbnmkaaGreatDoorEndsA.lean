/- The walk of the document's Ends: an alternative. (Printed by wip/gen_ends.py.) -/
import Derived.Test.YtjhclopdcbnmkaaGreatDoorEndsS
set_option linter.unusedSimpArgs false
set_option linter.unusedVariables false
namespace Go.Proofs.YtjhclopdcbnmkaaGreatDoor
open Go.RowKit PX

section
variable {S : ByteArray} {p : Nat} {nds : List Nd} {X : Nat → Rx} {nb nc kb kc : Nat} {kk : List Nat} {n : Nat}
theorem langAlt_snoc : ∀ (l : List Rx) (x : Rx) (t : List UInt8), langAlt (l ++ [x]) t ↔ langAlt l t ∨ x.lang t
  | [], x, t => by simp [langAlt]
  | y :: l, x, t => by simp only [List.cons_append, langAlt, langAlt_snoc l x t, or_assoc]
set_option maxRecDepth 100000 in
set_option maxHeartbeats 4000000 in
theorem ends_alt {F : Nat → Prop} {w : World} {a q : Nat} {nd : Nd} (hS : S.size ≤ 256) (hT : TabS F w p S nds X nb nc kb kc kk) (ha : a ≤ S.size) (hq : kk[n]? = some q) (hnd : nds[n]? = some nd) (hc : w.cell? ⟨q, a, none⟩ = some (.slice none 0 0)) (hk : nd.k = 2)
    (hTH : ∀ c ∈ nd.kids, ThroughOK S p nds X nb nc kb kc kk c) (hEN : ∀ c ∈ nd.kids, EndsOK S p nds X nb nc kb kc kk c) :
    Calls Tryz.prog 42 #[.pointer (some ⟨p, 0, none⟩), .int .i64 n, .int .i64 a] w (EndsPost S p nds X nb nc kb kc kk F n a w) := by
  obtain ⟨c0, c1, c2, c3⟩ := hT.reads hq
  obtain ⟨d0, d1, d2, d3, d4, d5, d6, d7, d8⟩ := hT.nodeAt hnd
  have hn : n < nds.length := by rw [← hT.len]; exact (List.getElem?_eq_some_iff.1 hq).1
  have hcaps := hT.caps
  unfold maxLen at hcaps
  obtain ⟨ZB, hzb⟩ : ∃ ZB : Array Value, ((List.replicate (S.size + 1) false).map Value.bool).toArray = ZB := ⟨_, rfl⟩
  have hEW := endW hT nd ZB hzb
  obtain ⟨k, mn, mx, s0, s1, s2, s3, na, ln, cap, la, kcp, kids⟩ := nd
  simp only at d0 d1 d2 d3 d4 d5 d6 d7 d8 hk hTH hEN
  subst hk
  obtain ⟨W2, hW2⟩ : ∃ W2, (w.alloc (.cells (Nd.mk 2 mn mx s0 s1 s2 s3 na ln cap la kcp kids).cells.toArray 122)).alloc (.cells ZB 4) = W2 := ⟨_, rfl⟩
  rw [hW2] at hEW
  simp only [Nd.cells] at hW2
  obtain ⟨N, hN⟩ : ∃ N, nds.length = N := ⟨_, rfl⟩
  rw [hN] at c1 c2 hn hcaps
  have hnN : (n : Int) < N := by omega
  have haS : (a : Int) < (S.size : Int) + 1 := by omega
  have hmx : N ≤ 9223372036854775807 := by omega
  have hmk := fun W => make_bools W S.size (by omega)
  rw [hzb] at hmk
  have hne := fun W a n c => run_neq_slice_nil_any (P := Tryz.prog) W 90 4 a n c 0 0 Tryz.underlying90
  have HT := Lib.hid hT
  have HEW := Lib.hid hEW
  obtain ⟨m, hm⟩ : ∃ m, kids.length = m := ⟨_, rfl⟩
  rw [hm] at d8
  have HM := Lib.hid hm
  have c0a : (w.alloc (.cells #[.int .i64 2, .int .i64 mn, .int .i64 mx, .int .u64 s0, .int .u64 s1, .int .u64 s2, .int .u64 s3, .slice na ln cap, .slice la m kcp] 122)).cell? ⟨p, 0, none⟩ = some (.string S) := ((Later.refl w).alloc _).cell c0
  rw [hm] at hW2
  have HW2 := Lib.hid hW2
  have HQ := Lib.hid hq
  have HGOOD := Lib.hid (hT.good n _ hnd)
  have HN := Lib.hid hN
  have HLANG := Lib.hid (hT.lang n _ hnd).1
  have HKLT := Lib.hid (hT.lang n _ hnd).2
  have HKID := Lib.hid (hT.kid n _ hnd)
  have HTH := Lib.hid hTH
  have HEN := Lib.hid hEN
  have HZB := Lib.hid hzb
  have HND := Lib.hid hnd
  clear hN hT hcaps hEW hW2 hnd hq hzb hm hTH hEN
  go_enter Tryz.func42, Tryz.ntmps42
  go_upto_region 5 with fail
  rw [HW2.out]
  clear c0a HW2 c0 c1 c2 c3 d0 d1 d2 d3 d4 d5 d6 d7 d8 hc
  obtain ⟨hz, hz1⟩ := HEW.out.size
  obtain ⟨xb, hxb⟩ : ∃ xb, w.heap.size = xb := ⟨_, rfl⟩
  rw [hxb] at HEW ⊢
  have HXB := Lib.hid hxb; clear hxb hz hz1
  have hgF : ¬ F (xb + 1) := fun h => by
    have h1 := (HT.out.fill (xb + 1) h).1
    have h2 := HEW.out.size
    omega
  have HGF := Lib.hid hgF; clear hgF
  have HGK := Lib.hid HEW.out.gk
  have HXK := Lib.hid HEW.out.xk
  have HBOX := Lib.hid HEW.out.box
  have HOW := Lib.hid HEW.out.row
  have HSZ2 : Hid (xb + 1 < W2.heap.size) := Lib.hid HEW.out.row.lt
  have HN2 : Hid (Only (fun q => q ∈ kk) w W2) := Lib.hid (Only.of_below HEW.out.later)
  obtain ⟨hkid1, hkid2, hkid3⟩ := HKID.out
  simp only at hkid1 hkid2 hkid3
  rw [HM.out] at hkid1
  have hmm : m ≤ 9223372036854775807 := by unfold maxLen at hkid2; omega
  clear hkid1 hkid2 hkid3
  have x0 := cell_of_block HBOX.out 0
  simp only [Nd.cells, List.getElem?_toArray, List.getElem?_cons_zero, List.getElem?_cons_succ] at x0
  go_wp2_with fail
  clear x0
  go_loopw [10] (fun i_ wx => ∃ (i : Nat) (bs : List Bool), i ≤ m ∧ i_ = .int .i64 i ∧ OwnB wx (xb + 1) bs ∧ bs.length = S.size + 1 ∧ (∀ k, k ≤ S.size → (bs[k]? = some true ↔ a ≤ k ∧ langAlt ((kids.take i).map X) (sub S.data.toList a k))) ∧
      TabS (fun q => F q ∨ q = xb + 1) wx p S nds X nb nc kb kc kk ∧ Only (fun q => q ∈ kk ∨ q = xb + 1) W2 wx) (fun i_ _ => m - (intOf i_).toNat)
  case atStart =>
    refine ⟨0, _, by omega, rfl, HOW.out, by simp, fun k hk => ?_, HEW.out.tab, Only.refl _ _⟩
    rw [List.getElem?_replicate]
    constructor
    · intro h; split at h <;> cases h
    · rintro ⟨-, h⟩; simp [langAlt] at h
  case round =>
    obtain ⟨i, bs, hi, rfl, hob, hbl, hbs, htab, hon⟩ := hrel
    have hbox : wr.heap[xb]? = _ := (hon.block xb (lt_of_block HBOX.out) (by rintro (h | h); exact HXK.out h; omega)).trans HBOX.out
    have x8 := cell_of_block hbox 8
    simp only [Nd.cells, List.getElem?_toArray, List.getElem?_cons_zero, List.getElem?_cons_succ] at x8
    rw [HM.out] at x8
    have HOB := Lib.hid hob; clear hob
    have HBS := Lib.hid hbs; clear hbs
    have HTAB := Lib.hid htab; clear htab
    have HON := Lib.hid hon; clear hon hbox
    by_cases him : i = m
    · subst him
      have hie : IsEnds (X n).lang S.data.toList a bs := by
        refine ⟨by rw [hbl, ba_len], fun k hk => ?_⟩
        rw [HBS.out k (by rw [ba_len] at hk; exact hk), List.take_of_length_le (by rw [HM.out]; exact Nat.le_refl _), HLANG.out]
        simp only [Rx.lang, show ¬ ((2 : Int) = 0) by decide, show ¬ ((2 : Int) = 1) by decide, if_false, if_true]
      have HIE2 := Lib.hid hie; clear hie
      have HNN : Hid (Only (fun q => q ∈ kk) w wr) := Lib.hid (HN2.out.trans (HON.out.mono (fun q hq h => by
        rcases h with h | h
        · exact .inl h
        · exact .inr (by subst h; have := HXB.out; omega))))
      obtain ⟨e0, e1, e2, e3⟩ := HTAB.out.reads HQ.out
      rw [HN.out] at e1 e2
      obtain ⟨v, ev, ef⟩ := HTAB.out.slot HQ.out ha
      go_wp2_with fail
      go_ret
      exact ends_fin HTAB.out HNN.out HOB.out HIE2.out HGF.out HGK.out HQ.out ha
    · have him2 : (i : Int) < m := by omega
      have him3 : i < kids.length := by rw [HM.out]; omega
      obtain ⟨c, hcc⟩ : ∃ c, kids[i]? = some c := ⟨_, List.getElem?_eq_getElem him3⟩
      have hne2 : kids ≠ [] := by rintro rfl; simp at him3
      obtain ⟨lb, hla, hlb⟩ := ((HTAB.out.kid n _ HND.out).2.2).resolve_left hne2
      simp only at hla
      rw [hla] at x8
      have hlc := hlb i c hcc
      have HLA := Lib.hid hla
      clear hlb hla
      have hth := HEN.out c (List.mem_of_getElem? hcc) (fun q => F q ∨ q = xb + 1) wr a HTAB.out ha
      have HCALL := Lib.hid hth; clear hth
      have HCC := Lib.hid hcc; clear hcc hne2
      go_wp2_with (first
        | (go_at_call 42; (with_reducible refine HCALL.out.mono ?_); rintro e w4 ⟨ge, es, rfl, hoe, hes, htab4, hon4, hgk4, hgf4⟩; have HOE := Lib.hid hoe; have HES := Lib.hid hes; have HT4 := Lib.hid htab4; have HO4 := Lib.hid hon4; have HGEK := Lib.hid hgk4; have HGEF := Lib.hid hgf4; clear hoe hes htab4 hon4 hgk4 hgf4)
        | fail)
      have HOB3 := Lib.hid (HOB.out.later HO4.out HGK.out)
      have hgeo : ge ≠ xb + 1 := fun h => HGEF.out (.inr h)
      clear x8 hlc
      go_loopw [12] (fun k_ wx => ∃ (k : Nat) (cs : List Bool), a ≤ k ∧ k ≤ S.size + 1 ∧ k_ = .int .i64 k ∧ OwnB wx (xb + 1) cs ∧ cs.length = S.size + 1 ∧ (∀ m, m ≤ S.size → (cs[m]? = some true ↔ bs[m]? = some true ∨ (a ≤ m ∧ m < k ∧ es[m]? = some true))) ∧ Only (fun q => q = xb + 1) w4 wx) (fun k_ _ => S.size + 1 - (intOf k_).toNat)
      case atStart =>
        exact ⟨a, bs, Nat.le_refl _, by omega, rfl, HOB3.out, hbl, fun m hm => ⟨fun h => .inl h, fun h => by rcases h with h | h; exact h; omega⟩, Only.refl _ _⟩
      case round =>
        obtain ⟨k, cs, hik, hks, rfl, hoc, hcl, hcs, honk⟩ := hrel
        have HOC := Lib.hid hoc; clear hoc
        have HCS := Lib.hid hcs; clear hcs
        have HONK := Lib.hid honk; clear honk
        by_cases hke : k = S.size + 1
        · subst hke
          go_wp2_with fail
          go_roundw
          case measure => simp only [intOf]; omega
          case rel =>
            refine ⟨i + 1, cs, by omega, by simp, HOC.out, hcl, fun k hk => ?_, HT4.out.only HONK.out (fun q _ hq => .inr hq), ?_⟩
            · rw [HCS.out k hk, HBS.out k hk, List.take_add_one, HCC.out, Option.toList_some, List.map_append, List.map_singleton, langAlt_snoc]
              constructor
              · rintro (⟨h1, h2⟩ | ⟨h1, -, h2⟩)
                · exact ⟨h1, .inl h2⟩
                · exact ⟨h1, .inr ((HES.out.2 k (by rw [ba_len]; exact hk)).1 h2).2⟩
              · rintro ⟨h1, h2 | h2⟩
                · exact .inl ⟨h1, h2⟩
                · exact .inr ⟨h1, by omega, (HES.out.2 k (by rw [ba_len]; exact hk)).2 ⟨h1, h2⟩⟩
            · exact (HON.out.trans (HO4.out.mono (fun q _ h => .inl (.inl h)))).trans (HONK.out.mono (fun q _ h => .inl (.inr h)))
        · have hks2 : (k : Int) < (S.size : Int) + 1 := by omega
          have hks3 : k < S.size + 1 := by omega
          obtain ⟨c, hc⟩ : ∃ c, cs[k]? = some c := ⟨_, List.getElem?_eq_getElem (by omega)⟩
          obtain ⟨d, hd⟩ : ∃ d, es[k]? = some d := ⟨_, List.getElem?_eq_getElem (by rw [HES.out.1]; rw [ba_len]; exact hks3)⟩
          have hoe := HOE.out.later HONK.out hgeo
          have cc := HOC.out.cell hc
          have cd := hoe.cell hd
          have cfz := HOC.out.free k
          have HC := Lib.hid hc; clear hc
          have HD := Lib.hid hd; clear hd hoe
          cases c <;> cases d <;> (
            go_wp2_with fail
            go_roundw
            case measure => simp only [intOf]; omega
            case rel =>
              refine ⟨k + 1, _, by omega, by omega, by simp, HOC.out.set k _, by rw [List.length_set]; exact hcl, fun m hm => ?_, HONK.out.setCell (.inl rfl) _⟩
              rw [getElem?_set_iff (by omega), HCS.out m hm]
              by_cases hmk : m = k
              · subst hmk
                have h1 := HCS.out m hm
                rw [HC.out] at h1
                have h2 := HD.out
                simp_all <;> omega
              · have : (m < k + 1) ↔ (m < k) := by omega
                simp [hmk, this])
end
end Go.Proofs.YtjhclopdcbnmkaaGreatDoor
