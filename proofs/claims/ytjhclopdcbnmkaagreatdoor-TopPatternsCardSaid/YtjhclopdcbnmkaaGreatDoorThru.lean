/- The walk of the document's through. -/
import Derived.Test.YtjhclopdcbnmkaaGreatDoorTb
set_option linter.unusedSimpArgs false
set_option linter.unusedVariables false
namespace Go.Proofs.YtjhclopdcbnmkaaGreatDoor
open Go.RowKit PX

theorem info_bool : (Tryz.prog.info? 4).map (fun i => (i.zero, i.size, i.bytes)) = some (some (.bool false), 1, 1) := by kernel_rfl
/-- A new row of as many places as a text has. -/
theorem make_bools (W : World) (n : Nat) (hn : n ≤ 1000) : (Instr.makeSlice 90 (.int .i64 ((n : Int) + 1)) (.int .i64 ((n : Int) + 1))).run Tryz.prog W = .ok (.slice (some ⟨W.heap.size, 0, none⟩) (n + 1) (n + 1)) (W.alloc (.cells ((List.replicate (n + 1) false).map Value.bool).toArray 4)) := by
  obtain ⟨i0, hi, hz0, hz1, hz2⟩ := info_parts info_bool
  have h := run_makeSlice (P := Tryz.prog) W 90 4 i0 (.bool false) Tryz.underlying90 hi hz0 .i64 .i64 ((n : Int) + 1) ((n : Int) + 1) (by omega) (by omega) (by rw [hz1]; omega) (by rw [hz2]; omega) (by omega)
  have e : ((n : Int) + 1).toNat = n + 1 := by omega
  have e2 : madeCells (Value.bool false).cells ((n + 1) * 1) = ((List.replicate (n + 1) false).map Value.bool).toArray := by
    apply Array.toList_inj.1
    rw [show (Value.bool false).cells = #[.bool false] from rfl, toList_madeCells_one, Nat.mul_one, List.map_replicate]
  rw [hz1, e, e2] at h
  exact h

theorem getElem?_set_iff {bs : List Bool} {k j : Nat} {b : Bool} (hk : k < bs.length) : (bs.set k b)[j]? = some true ↔ (j = k ∧ b = true) ∨ (j ≠ k ∧ bs[j]? = some true) := by
  rw [List.getElem?_set]
  by_cases h : k = j
  · subst h; simp [hk]
  · have h' : ¬ j = k := fun e => h e.symm
    simp [h, h']

section
variable {S : ByteArray} {p : Nat} {nds : List Nd} {X : Nat → Rx} {nb nc kb kc : Nat} {kk : List Nat} {n : Nat}
set_option maxRecDepth 100000 in
set_option maxHeartbeats 4000000 in
theorem through_any (hS : S.size ≤ 256) (hE : EndsOK S p nds X nb nc kb kc kk n) : ThroughOK S p nds X nb nc kb kc kk n := by
  intro F w gf fs hT hf hfl hgf
  obtain ⟨ZB, hzb⟩ : ∃ ZB : Array Value, ((List.replicate (S.size + 1) false).map Value.bool).toArray = ZB := ⟨_, rfl⟩
  obtain ⟨w1, hw1⟩ : ∃ w1, w.alloc (.cells ZB 4) = w1 := ⟨_, rfl⟩
  have hl1 : Later w w1 := by rw [← hw1]; exact (Later.refl w).alloc _
  have hb1 : OwnB w1 w.heap.size (List.replicate (S.size + 1) false) := by rw [← hw1, ← hzb]; exact ownB_new w _
  have hT1 := hT.fresh hl1 w.heap.size (Nat.le_refl _) hb1.lt
  have hgog : gf ≠ w.heap.size := by have := hf.lt; omega
  have hfill := hT1.fill w.heap.size (.inr rfl)
  obtain ⟨go, hgo⟩ : ∃ go, w.heap.size = go := ⟨_, rfl⟩
  rw [hgo] at hb1 hT1 hgog hfill
  have hf1 : OwnB w1 gf fs := hf.later (r := fun _ => False) (Only.of_below hl1) (fun h => h)
  have hgo1 : go ∉ kk := hfill.2.1
  have hmk := fun W => make_bools W S.size (by omega)
  rw [hzb] at hmk
  have c0 := cell_of_block hT.top 0
  simp only [List.getElem?_toArray, List.getElem?_cons_zero] at c0
  have HE := Lib.hid hE; clear hE
  have HT1 := Lib.hid hT1; clear hT1 hT hfill
  have HB1 := Lib.hid hb1; clear hb1
  have HF1 := Lib.hid hf1; clear hf1 hf
  have HL1 := Lib.hid hl1; clear hl1
  have HW1 := Lib.hid hw1; clear hw1
  have HFL := Lib.hid hfl; clear hfl
  have HGO := Lib.hid hgo1; clear hgo1
  have HGF := Lib.hid hgf; clear hgf hzb
  go_enter Tryz.func68, Tryz.ntmps68
  go_wp2_with fail
  rw [HW1.out]
  have HGOE := Lib.hid hgo
  clear HW1 hmk hgo
  go_loopw [8] (fun i_ wx => ∃ (i : Nat) (bs : List Bool), i ≤ S.size + 1 ∧ i_ = .int .i64 i ∧ OwnB wx go bs ∧ bs.length = S.size + 1 ∧ (∀ k, k ≤ S.size → (bs[k]? = some true ↔ ∃ j, j < i ∧ j ≤ k ∧ fs[j]? = some true ∧ (X n).lang (sub S.data.toList j k))) ∧
      TabS (fun q => F q ∨ q = go) wx p S nds X nb nc kb kc kk ∧ Only (fun q => q ∈ kk ∨ q = go) w1 wx) (fun i_ _ => S.size + 1 - (intOf i_).toNat)
  case atStart =>
    refine ⟨0, _, by omega, rfl, HB1.out, by simp, fun k hk => ?_, HT1.out, Only.refl _ _⟩
    rw [List.getElem?_replicate]
    constructor
    · intro h; split at h <;> cases h
    · rintro ⟨j, hj, -⟩; omega
  case round =>
    obtain ⟨i, bs, hi, rfl, hob, hbl, hbs, htab, hon⟩ := hrel
    have hogf : OwnB wr gf fs := HF1.out.later hon (by rintro (h | h); exact HGF.out h; exact hgog h)
    have HON := Lib.hid hon; clear hon
    have HTAB := Lib.hid htab; clear htab
    have HBS := Lib.hid hbs; clear hbs
    have HOB := Lib.hid hob; clear hob
    by_cases hie : i = S.size + 1
    · subst hie
      go_wp2_with fail
      go_ret
      refine ⟨go, bs, rfl, by rw [HGOE.out]; exact Nat.le_refl _, HOB.out, hbl, fun k hk => ?_, HTAB.out, ?_, HGO.out⟩
      · rw [HBS.out k hk]
        exact exists_congr fun j => ⟨fun h => ⟨h.2.1, h.2.2⟩, fun h => ⟨by omega, h⟩⟩
      · have h1 : Only (fun q => q ∈ kk) w w1 := Only.of_below HL1.out
        exact h1.trans (HON.out.mono (fun q hq h => by
          rcases h with h | rfl
          · exact .inl h
          · exact .inr (by rw [HGOE.out]; exact Nat.le_refl _)))
    · have his : (i : Int) < (S.size : Int) + 1 := by omega
      have his2 : i < S.size + 1 := by omega
      obtain ⟨f, hfi⟩ : ∃ f, fs[i]? = some f := ⟨_, List.getElem?_eq_getElem (by rw [HFL.out]; exact his2)⟩
      have cf := hogf.cell hfi
      have HFI := Lib.hid hfi; clear hfi
      have HOGF := Lib.hid hogf; clear hogf
      cases f with
      | false =>
        go_wp2_with fail
        go_roundw
        case measure => simp only [intOf]; omega
        case rel =>
          refine ⟨i + 1, bs, by omega, by simp, HOB.out, hbl, fun k hk => ?_, HTAB.out, HON.out⟩
          rw [HBS.out k hk]
          constructor
          · rintro ⟨j, h1, h2⟩; exact ⟨j, by omega, h2⟩
          · rintro ⟨j, h1, h2, h3, h4⟩
            refine ⟨j, ?_, h2, h3, h4⟩
            by_cases hji : j = i
            · subst hji; rw [HFI.out] at h3; cases h3
            · omega
      | true =>
        have hcall := HE.out (fun q => F q ∨ q = go) wr i HTAB.out (by omega)
        have HCALL := Lib.hid hcall; clear hcall
        go_wp2_with (first
          | (go_at_call 42; (with_reducible refine HCALL.out.mono ?_); rintro e w3 ⟨ge, es, rfl, hoe, hes, htab3, hon3, hgek, hgeF⟩; have HOE := Lib.hid hoe; have HES := Lib.hid hes; have HT3 := Lib.hid htab3; have HO3 := Lib.hid hon3; have HGEK := Lib.hid hgek; have HGEF := Lib.hid hgeF; clear hoe hes htab3 hon3 hgek hgeF)
          | fail)
        have hob3 := HOB.out.later HO3.out HGO.out
        have HOB3 := Lib.hid hob3; clear hob3
        have hgeo : ge ≠ go := fun h => HGEF.out (.inr h)
        go_loopw [10] (fun k_ wx => ∃ (k : Nat) (cs : List Bool), i ≤ k ∧ k ≤ S.size + 1 ∧ k_ = .int .i64 k ∧ OwnB wx go cs ∧ cs.length = S.size + 1 ∧ (∀ m, m ≤ S.size → (cs[m]? = some true ↔ bs[m]? = some true ∨ (i ≤ m ∧ m < k ∧ es[m]? = some true))) ∧ Only (fun q => q = go) w3 wx) (fun k_ _ => S.size + 1 - (intOf k_).toNat)
        case atStart =>
          exact ⟨i, bs, Nat.le_refl _, by omega, rfl, HOB3.out, hbl, fun m hm => ⟨fun h => .inl h, fun h => by rcases h with h | h; exact h; omega⟩, Only.refl _ _⟩
        case round =>
          obtain ⟨k, cs, hik, hks, rfl, hoc, hcl, hcs, honk⟩ := hrel
          have HOC := Lib.hid hoc; clear hoc
          have HCS := Lib.hid hcs; clear hcs
          have HONK := Lib.hid honk; clear honk
          by_cases hke : k = S.size + 1
          · subst hke
            go_wp2_with fail
            go_roundw
            case measure => simp only [intOf]; omega
            case rel =>
              refine ⟨i + 1, cs, by omega, by simp, HOC.out, hcl, fun m hm => ?_, HT3.out.only HONK.out (fun q _ hq => .inr hq), ?_⟩
              · rw [HCS.out m hm, HBS.out m hm]
                constructor
                · rintro (⟨j, h1, h2⟩ | ⟨h1, -, h2⟩)
                  · exact ⟨j, by omega, h2⟩
                  · exact ⟨i, by omega, h1, HFI.out, ((HES.out.2 m hm).1 h2).2⟩
                · rintro ⟨j, h1, h2, h3, h4⟩
                  by_cases hji : j = i
                  · subst hji; exact .inr ⟨h2, by omega, (HES.out.2 m hm).2 ⟨h2, h4⟩⟩
                  · exact .inl ⟨j, by omega, h2, h3, h4⟩
              · exact (HON.out.trans (HO3.out.mono (fun q _ h => .inl (.inl h)))).trans (HONK.out.mono (fun q _ h => .inl (.inr h)))
          · have hks2 : (k : Int) < (S.size : Int) + 1 := by omega
            have hks3 : k < S.size + 1 := by omega
            obtain ⟨c, hc⟩ : ∃ c, cs[k]? = some c := ⟨_, List.getElem?_eq_getElem (by omega)⟩
            obtain ⟨d, hd⟩ : ∃ d, es[k]? = some d := ⟨_, List.getElem?_eq_getElem (by rw [HES.out.1]; rw [ba_len]; exact hks3)⟩
            have hoe := HOE.out.later HONK.out hgeo
            have cc := HOC.out.cell hc
            have cd := hoe.cell hd
            have cfz := HOC.out.free k
            have HC := Lib.hid hc; clear hc
            have HD := Lib.hid hd; clear hd hoe
            cases c <;> cases d <;> (
              go_wp2_with fail
              go_roundw
              case measure => simp only [intOf]; omega
              case rel =>
                refine ⟨k + 1, _, by omega, by omega, by simp, HOC.out.set k _, by rw [List.length_set]; exact hcl, fun m hm => ?_, HONK.out.setCell (.inl rfl) _⟩
                rw [getElem?_set_iff (by omega), HCS.out m hm]
                by_cases hmk : m = k
                · subst hmk
                  have h1 := HCS.out m hm
                  rw [HC.out] at h1
                  have h2 := HD.out
                  simp_all <;> omega
                · have : (m < k + 1) ↔ (m < k) := by omega
                  simp [hmk, this])
end
end Go.Proofs.YtjhclopdcbnmkaaGreatDoor
