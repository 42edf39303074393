/- The walk of the guard's Decide. -/
import Derived.Test.YtjhclopdcbnmkaaGreatDoorG4
import Derived.Deep.RegionHeld3
set_option linter.unusedSimpArgs false
set_option linter.unusedVariables false
namespace Go.Proofs.YtjhclopdcbnmkaaGreatDoor
open Go.RowKit PX

theorem is_in (w : World) (p : Nat) (x : Rx) (h : MX w p x) (S : ByteArray) (hs : S.size ≤ 256) :
    Calls Tryz.prog 37 #[.pointer (some ⟨p, 0, none⟩), .string S] w fun e w' => e = .returned (.tuple #[.bool (inB x.lang S.data.toList), .int .i64 0]) ∧ Later w w' := by
  refine (is_any w p x S h.m h.t).mono ?_
  rintro e w' ⟨hb, ⟨h1, rfl⟩ | ⟨h1, r, rfl, hr⟩⟩
  · omega
  · refine ⟨?_, hb⟩
    rw [show r = inB x.lang S.data.toList from by rw [Bool.eq_iff_iff, hr, inB_iff]]
theorem keep5 {w : World} {ub db : Nat} {v0 v1 v2 v3 v4 : Value} (h : w.cell? ⟨ub, 0, none⟩ = some v0 ∧ w.cell? ⟨ub, 1, none⟩ = some v1 ∧ w.cell? ⟨ub, 2, none⟩ = some v2 ∧ w.cell? ⟨ub, 3, none⟩ = some v3 ∧ w.cell? ⟨ub, 4, none⟩ = some v4) (hne : db ≠ ub) (x y z : Value) :
    let w' := ((w.setCell ⟨db, 0, none⟩ x).setCell ⟨db, 1, none⟩ y).setCell ⟨db, 2, none⟩ z
    w'.cell? ⟨ub, 0, none⟩ = some v0 ∧ w'.cell? ⟨ub, 1, none⟩ = some v1 ∧ w'.cell? ⟨ub, 2, none⟩ = some v2 ∧ w'.cell? ⟨ub, 3, none⟩ = some v3 ∧ w'.cell? ⟨ub, 4, none⟩ = some v4 := by
  have hf : ∀ (o : Nat), (((w.setCell ⟨db, 0, none⟩ x).setCell ⟨db, 1, none⟩ y).setCell ⟨db, 2, none⟩ z).cell? ⟨ub, o, none⟩ = w.cell? ⟨ub, o, none⟩ := by
    intro o
    rw [World.cell?_setCell_far _ _ _ _ (by exact hne), World.cell?_setCell_far _ _ _ _ (by exact hne), World.cell?_setCell_far _ _ _ _ (by exact hne)]
  exact ⟨(hf 0).trans h.1, (hf 1).trans h.2.1, (hf 2).trans h.2.2.1, (hf 3).trans h.2.2.2.1, (hf 4).trans h.2.2.2.2⟩
theorem hlx_of {w w' : World} {k : Nat} {o : Obj} (h : w.heap[k]? = some o) (hl : Later w w') : w'.heap[k]? = some o := hl.block h
/-- What Decide tells. -/
def DecSays (d : Int × Int × List UInt8 × Int) (w : World) (e : Ending) (w' : World) : Prop :=
  e = .returned (.tuple #[.agg #[.int .i64 d.1, .int .i64 d.2.1, .string ⟨d.2.2.1.toArray⟩], .int .i64 d.2.2.2]) ∧ Later w w'
theorem decide_bad {l : List Rul} {fr tu : Int} {s : List UInt8} (h : checkG l 8 ≠ 0) : decideG l fr tu s = (0, 0, [], checkG l 8) := by unfold decideG; rw [if_pos h]
theorem decide_long {l : List Rul} {fr tu : Int} {s : List UInt8} (h : checkG l 8 = 0) (hs : 200 < s.length) : decideG l fr tu s = (0, 0, [], 201) := by unfold decideG; rw [if_neg (by simp [h]), if_pos hs]
theorem decide_none {l : List Rul} {fr tu : Int} {s : List UInt8} (h : checkG l 8 = 0) (hs : s.length ≤ 200) (hf : firstG fr tu s 0 l = none) : decideG l fr tu s = (-1, 0, [], 0) := by
  unfold decideG; rw [if_neg (by simp [h]), if_neg (by omega), hf]
theorem decide_some {l : List Rul} {fr tu : Int} {s : List UInt8} {i : Nat} {r : Rul} (h : checkG l 8 = 0) (hs : s.length ≤ 200) (hf : firstG fr tu s 0 l = some (i, r)) : decideG l fr tu s = ((i : Int), r.act, outG r s, 0) := by
  unfold decideG; rw [if_neg (by simp [h]), if_neg (by omega), hf]
theorem checkG_all {l : List Rul} {n : Int} (h : checkG l n = 0) : l.length ≤ 32 ∧ ∀ r ∈ l, r.okB n = true := by
  unfold checkG at h
  split at h
  · cases h
  · split at h
    · rename_i h1
      simp only [Bool.and_eq_true, List.all_eq_true, decide_eq_true_eq] at h1
      exact ⟨h1.2, h1.1⟩
    · cases h
theorem okB_parts {r : Rul} {n : Int} (h : r.okB n = true) : (0 ≤ r.act ∧ r.act ≤ 2) ∧ (∃ x, parseR r.pat = .inl x) ∧ (r.act = 2 → ∃ x, parseR r.wth = .inl x) := by
  unfold Rul.okB at h
  simp only [Bool.and_eq_true, decide_eq_true_eq] at h
  obtain ⟨⟨h1, h2⟩, h3⟩ := h
  refine ⟨⟨h1.2.2.2.2.2.1, h1.2.2.2.2.2.2⟩, isRead_iff.1 h2, fun ha => ?_⟩
  rw [if_pos ha] at h3
  exact isRead_iff.1 h3

theorem ret_dec (S : ByteArray) (k : Nat) : Ending.returned (.tuple #[.agg #[.int .i64 k, .int .i64 1, .string S], .int .i64 0]) = Ending.returned (.tuple #[.agg #[.int .i64 ((k : Int), (1 : Int), S.data.toList, (0 : Int)).1, .int .i64 ((k : Int), (1 : Int), S.data.toList, (0 : Int)).2.1, .string ⟨((k : Int), (1 : Int), S.data.toList, (0 : Int)).2.2.1.toArray⟩], .int .i64 ((k : Int), (1 : Int), S.data.toList, (0 : Int)).2.2.2]) := by
  have : (⟨S.data.toList.toArray⟩ : ByteArray) = S := by simp
  simp only [this]
theorem results_c1 {fn : Func} {p q : Tmp} {ty : TypeId} (h : fn.results = #[.cell p ty, .tmp q]) (tmps : Array Value) (P : Program) (w : World) (g : Nat) (t : TypeId) (cs : Array Value) (fr : Nat × Nat) (fs : Array Field)
    (hp : tmps.getD p undef = .pointer (some ⟨g, 0, none⟩)) (hg : w.heap[g]? = some (.cells cs t fr))
    (hu : P.underlying ty = some (.struct fs)) (hi : (P.info? ty).map (·.size) = some cs.size) :
    (results fn tmps).run P w = .ok (.tuple #[.agg cs, tmps.getD q undef]) w := by
  have hp' : tmps[p]?.getD undef = .pointer (some ⟨g, 0, none⟩) := by simpa using hp
  simp [results, h, hp', asAddr, run_loadVar_row w g t ty cs fr (.struct fs) hg hu rfl hi]
theorem set3 {w : World} {nb : Nat} {a b c : Value} (h : w.heap[nb]? = some (.cells #[a, b, c] 42 (0, 0))) (x y z : Value) :
    (((w.setCell ⟨nb, 0, none⟩ x).setCell ⟨nb, 1, none⟩ y).setCell ⟨nb, 2, none⟩ z).heap[nb]? = some (.cells #[x, y, z] 42 (0, 0)) := by
  rw [setCell_block (setCell_block (setCell_block h 0 x) 1 y) 2 z]
  rfl
theorem below_set3 {B nb : Nat} {a w : World} (h : Below B a w) (hb : B ≤ nb) (x y z : Value) : Below B a (((w.setCell ⟨nb, 0, none⟩ x).setCell ⟨nb, 1, none⟩ y).setCell ⟨nb, 2, none⟩ z) :=
  ((h.setCell (by exact hb) x).setCell (by exact hb) y).setCell (by exact hb) z
theorem info_dec : (Tryz.prog.info? 42).map (·.size) = some 3 := by kernel_rfl
theorem firstG_step {fr tu : Int} {s : List UInt8} {L : List Rul} {k : Nat} {r : Rul} (hk : L[k]? = some r) (h : r.takes fr tu s = false) : firstG fr tu s k (L.drop k) = firstG fr tu s (k + 1) (L.drop (k + 1)) := by
  obtain ⟨hl, hr⟩ := List.getElem?_eq_some_iff.1 hk
  rw [List.drop_eq_getElem_cons hl, hr]
  simp [firstG, h]
theorem firstG_hit {fr tu : Int} {s : List UInt8} {L : List Rul} {k : Nat} {r : Rul} (hk : L[k]? = some r) (h : r.takes fr tu s = true) : firstG fr tu s k (L.drop k) = some (k, r) := by
  obtain ⟨hl, hr⟩ := List.getElem?_eq_some_iff.1 hk
  rw [List.drop_eq_getElem_cons hl, hr]
  simp [firstG, h]
theorem takes_no {r : Rul} {fr tu : Int} {s : List UInt8} (h : r.fr ≠ fr ∨ r.tu ≠ tu) : r.takes fr tu s = false := by
  unfold Rul.takes
  rcases h with h | h <;> simp [h]
theorem takes_is {r : Rul} {fr tu : Int} {s : List UInt8} {x : Rx} (h1 : r.fr = fr) (h2 : r.tu = tu) (hx : parseR r.pat = .inl x) : r.takes fr tu s = inB x.lang s := by
  unfold Rul.takes
  rw [decide_eq_true h1, decide_eq_true h2, langP_eq hx]
  rfl

set_option maxRecDepth 100000 in
set_option maxHeartbeats 4000000 in
theorem decide_any (w : World) (a : Option Addr) (cap : Nat) (l : List RuV) (fr tu : Int) (S : ByteArray) (h : RulesIn w a cap l) (hT : TabAt 0 Lib.deBruijn64tab w) :
    Calls Tryz.prog 17 #[.slice a l.length cap, .int .i64 fr, .int .i64 tu, .string S] w fun e w' => DecSays (decideG (l.map RuV.bare) fr tu S.data.toList) w e w' := by
  have hlen : S.data.toList.length = S.size := by rw [Array.length_toList]; rfl
  obtain ⟨nb, hnb⟩ : ∃ nb, w.heap.size = nb := ⟨_, rfl⟩
  obtain ⟨m, hm⟩ : ∃ m, l.length = m := ⟨_, rfl⟩
  have hl1 := h.1
  have hl2 := h.2.1
  have hck := fun w1 (h1 : Later w w1) => check_any w1 a cap l 8 (h.later h1)
  rw [hm] at hl1 hck ⊢
  have HM := Lib.hid hm
  have HH := Lib.hid h
  have HT := Lib.hid hT
  have HNB := Lib.hid hnb
  have HLEN := Lib.hid hlen
  obtain ⟨c, hc⟩ : ∃ c, checkG (l.map RuV.bare) 8 = c := ⟨_, rfl⟩
  rw [hc] at hck
  have HCK := Lib.hid hck
  have HN := Lib.hid (show (w.alloc (.cells #[.int .i64 0, .int .i64 0, .string ⟨#[]⟩] 42)).heap[nb]? = _ from alloc_block' _ _ _ hnb)
  clear h hm hT hnb hlen hck
  by_cases hc0 : c = 0
  · subst hc0
    by_cases hs : S.size ≤ 200
    · have hg : ¬ (200 : Int) < S.size := by omega
      obtain ⟨D, hD⟩ : ∃ D, decideG (l.map RuV.bare) fr tu S.data.toList = D := ⟨_, rfl⟩
      rw [hD]
      have HD := Lib.hid hD
      have HC := Lib.hid hc
      clear hD hc
      go_enter Tryz.func17, Tryz.ntmps17
      go_wp2_with fail
      go_step3
      rw [HNB.out]
      go_wp2_with (first
        | (go_at_call 19; refine (HCK.out _ ((Later.refl w).alloc _)).mono ?_; rintro e w1 ⟨rfl, hl1⟩; have hN1 := hl1.block HN.out; obtain ⟨d0, d1, d2, z0, z1, z2⟩ : w1.cell? ⟨nb, 0, none⟩ = some (.int .i64 0) ∧ w1.cell? ⟨nb, 1, none⟩ = some (.int .i64 0) ∧ w1.cell? ⟨nb, 2, none⟩ = some (.string ⟨#[]⟩) ∧ w1.frozen? ⟨nb, 0, none⟩ = false ∧ w1.frozen? ⟨nb, 1, none⟩ = false ∧ w1.frozen? ⟨nb, 2, none⟩ = false := ⟨cell_of_block hN1 0, cell_of_block hN1 1, cell_of_block hN1 2, free_of_block hN1 0, free_of_block hN1 1, free_of_block hN1 2⟩; have HN1 := Lib.hid hN1; clear hN1)
        | fail)
      go_step3
      go_wp2_with fail
      obtain ⟨db, hdb⟩ : ∃ db, w1.heap.size = db := ⟨_, rfl⟩
      obtain ⟨Wl, hWl⟩ : ∃ Wl, w1.alloc (.cells #[.int .i64 (-1), .int .i64 0, .string ⟨#[]⟩] 42) = Wl := ⟨_, rfl⟩
      have hll : Later w Wl := by rw [← hWl]; exact (Later.trans ((Later.refl w).alloc _) hl1).alloc _
      have hnbl : Wl.heap[nb]? = some (.cells #[.int .i64 0, .int .i64 0, .string ⟨#[]⟩] 42 (0, 0)) := by rw [← hWl]; exact alloc_old HN1.out _
      have hdbl : Wl.heap[db]? = some (.cells #[.int .i64 (-1), .int .i64 0, .string ⟨#[]⟩] 42 (0, 0)) := by rw [← hWl]; exact alloc_block' _ _ _ hdb
      have hnd : nb < db := by rw [← hdb]; exact lt_of_block HN1.out
      rw [hdb]
      rw [hWl]
      have HLL := Lib.hid hll
      have HNL := Lib.hid hnbl
      have HDL := Lib.hid hdbl
      clear hll hnbl hdbl hWl hdb d0 d1 d2 z0 z1 z2
      obtain ⟨hm32, hok⟩ := checkG_all HC.out
      have HOK := Lib.hid hok
      have hm64 : m ≤ 32 := by have := HM.out; rw [List.length_map] at hm32; omega
      clear hm32 hok
      go_loopw [31] (fun v wr => ∃ k : Nat, k ≤ m ∧ v = .int .i64 k ∧ Later Wl wr ∧ firstG fr tu S.data.toList 0 (l.map RuV.bare) = firstG fr tu S.data.toList k ((l.map RuV.bare).drop k)) (fun v _ => m - (intOf v).toNat)
      case atStart => exact ⟨0, by omega, rfl, Later.refl _, rfl⟩
      case round =>
        obtain ⟨k, hk, rfl, hlr, hfi⟩ := hrel
        have HFI := Lib.hid hfi; clear hfi
        by_cases hlt : k < m
        · have hkl : k < l.length := by have := HM.out; omega
          obtain ⟨b, o, rfl, c0, c1, c2, c3, c4⟩ := rules_at ((HH.out.later HLL.out).later hlr) hkl
          obtain ⟨r, hr⟩ : ∃ r, l[k] = r := ⟨_, rfl⟩
          have hbk : (l.map RuV.bare)[k]? = some r.bare := by rw [List.getElem?_map, List.getElem?_eq_getElem hkl, hr]; rfl
          rw [hr] at c0 c1 c2 c3 c4
          have hokr := okB_parts (HOK.out r.bare (List.mem_of_getElem? hbk))
          have HBK := Lib.hid hbk
          clear hbk hr hkl
          obtain ⟨rf, rt, ra, rp, rw_⟩ := r
          obtain ⟨⟨ha0, ha2⟩, ⟨x, hx⟩, hw⟩ := hokr
          simp only [RuV.bare] at ha0 ha2 hx hw
          simp only at c0 c1 c2 c3 c4
          by_cases hf : rf = fr
          · by_cases ht : rt = tu
            · have hfe : (rf != fr) = false := by simp [hf]
              have hte : (rt != tu) = false := by simp [ht]
              have htk := takes_is (s := S.data.toList) (r := RuV.bare ⟨rf, rt, ra, rp, rw_⟩) hf ht hx
              have HT3 := Lib.hid (fun w1 (h1 : Later Wl w1) => TabAt.below HT.out (HLL.out.trans h1))
              have HOF := Lib.hid (fun w1 => of_good w1 rp x hx (by obtain ⟨h1, h2⟩ := parseR_form hx; unfold checkR; rw [if_pos h1, if_neg (by omega)]))
              have HIS := Lib.hid (fun w1 p (h : MX w1 p x) => is_in w1 p x h S (by omega))
              obtain ⟨wx, hwx⟩ : ∃ wx, wr.alloc (.cells #[.int .i64 rf, .int .i64 rt, .int .i64 ra, .string rp, .string rw_] 56) = wx := ⟨_, rfl⟩
              obtain ⟨ub, hub⟩ : ∃ ub, wr.heap.size = ub := ⟨_, rfl⟩
              have hux : wx.heap[ub]? = some (.cells #[.int .i64 rf, .int .i64 rt, .int .i64 ra, .string rp, .string rw_] 56 (0, 0)) := by rw [← hwx]; exact alloc_block' _ _ _ hub
              have hlx : Later Wl wx := by rw [← hwx]; exact hlr.alloc _
              have HSX := Lib.hid (fun w' (h' : Later wx w') => show w'.cell? ⟨ub, 0, none⟩ = some (.int .i64 rf) ∧ w'.cell? ⟨ub, 1, none⟩ = some (.int .i64 rt) ∧ w'.cell? ⟨ub, 2, none⟩ = some (.int .i64 ra) ∧ w'.cell? ⟨ub, 3, none⟩ = some (.string rp) ∧ w'.cell? ⟨ub, 4, none⟩ = some (.string rw_) from
                ⟨cell_of_block (h'.block hux) 0, cell_of_block (h'.block hux) 1, cell_of_block (h'.block hux) 2, cell_of_block (h'.block hux) 3, cell_of_block (h'.block hux) 4⟩)
              have HDX := Lib.hid (fun w' (h' : Later wx w') => show w'.cell? ⟨db, 0, none⟩ = some (.int .i64 (-1)) ∧ w'.cell? ⟨db, 1, none⟩ = some (.int .i64 0) ∧ w'.cell? ⟨db, 2, none⟩ = some (.string ⟨#[]⟩) ∧ w'.frozen? ⟨db, 0, none⟩ = false ∧ w'.frozen? ⟨db, 1, none⟩ = false ∧ w'.frozen? ⟨db, 2, none⟩ = false from by
                have h := h'.block (hlx.block HDL.out)
                exact ⟨cell_of_block h 0, cell_of_block h 1, cell_of_block h 2, free_of_block h 0, free_of_block h 1, free_of_block h 2⟩)
              have HWX := Lib.hid hwx
              have HUB := Lib.hid hub
              have HLX := Lib.hid hlx
              have HHIT := Lib.hid htk
              have HW := Lib.hid hw
              clear htk hf ht hx hw hwx hub hux
              obtain ⟨bi, hbi⟩ : ∃ bi, inB x.lang S.data.toList = bi := ⟨_, rfl⟩
              rw [hbi] at HIS HHIT
              clear hbi
              go_upto_region 11 with fail
              rw [HWX.out, HUB.out]
              clear c0 c1 c2 c3 c4
              obtain ⟨q0, q1, q2, q3, q4⟩ := HSX.out wx (Later.refl _)
              go_upto_if 58 with (first
                | (go_at_call 36; (with_reducible refine (HOF.out _).mono ?_); rintro e w2 ⟨p, rfl, hpl, hmm, hb2⟩; have hl2 := Later.of hb2; have HM2 := Lib.hid (MX.mk hmm (HT3.out _ (by repeat (first | assumption | exact Later.refl _ | refine Later.alloc ?_ _ | refine Later.drew ?_ | refine Later.drewN ?_ _ | refine Later.trans ?_ (by assumption))))); clear hb2 hmm hpl)
                | (go_at_call 37; (with_reducible refine (HIS.out _ p HM2.out).mono ?_); rintro e w3 ⟨rfl, hl3⟩)
                | fail)
              clear q0 q1 q2 q3 q4
              cases bi with
              | false =>
                have HTK := Lib.hid (HFI.out.trans (firstG_step HBK.out HHIT.out))
                go_wp2_with fail
                exact ⟨⟨k + 1, by omega, by simp, (by repeat (first | assumption | exact Later.refl _ | refine Later.alloc ?_ _ | refine Later.drew ?_ | refine Later.drewN ?_ _ | refine Later.trans ?_ (by assumption))), HTK.out⟩, by simp only [intOf]; omega⟩
              | true =>
                have hd := decide_some (fr := fr) (tu := tu) (s := S.data.toList) HC.out (by have := HLEN.out; omega) (HFI.out.trans (firstG_hit HBK.out HHIT.out))
                rw [HD.out] at hd
                have HDD := Lib.hid hd
                clear hd
                have hra : ra = 0 ∨ ra = 1 ∨ ra = 2 := by omega
                have HACT := Lib.hid (fun w1 => actions_any w1)
                have hnlx := hlx_of HNL.out HLX.out
                have hdu : db ≠ ub := by have h1 := lt_of_block HDL.out; have h2 := Below.size hlr; have h3 := HUB.out; omega
                rcases hra with rfl | rfl | rfl
                · skip
                  have HFN := Lib.hid (fun w1 => drop_any w1 ⟨rf, rt, 0, rp, rw_⟩ S)
                  simp only [RuV.val] at HFN
                  have hout : outG (RuV.bare ⟨rf, rt, 0, rp, rw_⟩) S.data.toList = [] := by
                    unfold outG
                    rfl
                  have HOUT := Lib.hid hout
                  clear hout
                  go_upto_region 14 with fail
                  have hix : ∀ w : World, (Instr.index 83 (.agg #[(.func (.func 59) #[] #[]), (.func (.func 60) #[] #[]), (.func (.func 61) #[] #[])]) (.int .i64 0)).run Tryz.prog w = .ok (.agg #[(.func (.func 59) #[] #[])]) w := fun w => by kernel_rfl
                  have hfd : ∀ w : World, (Instr.field 82 (.agg #[(.func (.func 59) #[] #[])]) 0).run Tryz.prog w = .ok (.func (.func 59) #[] #[]) w := fun w => by kernel_rfl
                  go_region_held3 (fun w' => w'.cell? ⟨ub, 0, none⟩ = some (.int .i64 rf) ∧ w'.cell? ⟨ub, 1, none⟩ = some (.int .i64 rt) ∧ w'.cell? ⟨ub, 2, none⟩ = some (.int .i64 0) ∧ w'.cell? ⟨ub, 3, none⟩ = some (.string rp) ∧ w'.cell? ⟨ub, 4, none⟩ = some (.string rw_))
                    (first | exact keep5 (HSX.out w5 (by repeat (first | assumption | exact Later.refl _ | refine Later.alloc ?_ _ | refine Later.drew ?_ | refine Later.drewN ?_ _ | refine Later.trans ?_ (by assumption)))) hdu _ _ _ | exact HSX.out _ (by repeat (first | assumption | exact Later.refl _ | refine Later.alloc ?_ _ | refine Later.drew ?_ | refine Later.drewN ?_ _ | refine Later.trans ?_ (by assumption))))
                    (first
                      | (go_at_call 38; (with_reducible refine (HACT.out _).mono ?_); rintro e w4 ⟨rfl, hl4⟩)
                      | (go_at_call 59; (with_reducible refine (HFN.out _).mono ?_); rintro e w5 ⟨rfl, hl5⟩; obtain ⟨t0, t1, t2, z0, z1, z2⟩ := HDX.out w5 (by repeat (first | assumption | exact Later.refl _ | refine Later.alloc ?_ _ | refine Later.drew ?_ | refine Later.drewN ?_ _ | refine Later.trans ?_ (by assumption))))
                      | fail)
                  rename (_ ∧ _) => hjunk
                  clear hjunk
                  have h5 : Later Wl w5 := (by repeat (first | assumption | exact Later.refl _ | refine Later.alloc ?_ _ | refine Later.drew ?_ | refine Later.drewN ?_ _ | refine Later.trans ?_ (by assumption)))
                  have hdw : (((w5.setCell ⟨db, 0, none⟩ (.int .i64 k)).setCell ⟨db, 1, none⟩ (.int .i64 0)).setCell ⟨db, 2, none⟩ (.string ⟨#[]⟩)).heap[db]? = some (.cells #[.int .i64 k, .int .i64 0, .string ⟨#[]⟩] 42 (0, 0)) := set3 (h5.block HDL.out) _ _ _
                  have hnw : (((w5.setCell ⟨db, 0, none⟩ (.int .i64 k)).setCell ⟨db, 1, none⟩ (.int .i64 0)).setCell ⟨db, 2, none⟩ (.string ⟨#[]⟩)).heap[nb]? = some (.cells #[.int .i64 0, .int .i64 0, .string ⟨#[]⟩] 42 (0, 0)) := by
                    rw [Below.heap_setCell _ _ _ _ (by show nb ≠ db; omega), Below.heap_setCell _ _ _ _ (by show nb ≠ db; omega), Below.heap_setCell _ _ _ _ (by show nb ≠ db; omega)]
                    exact h5.block HNL.out
                  have hbw : Below w.heap.size w (((w5.setCell ⟨db, 0, none⟩ (.int .i64 k)).setCell ⟨db, 1, none⟩ (.int .i64 0)).setCell ⟨db, 2, none⟩ (.string ⟨#[]⟩)) := below_set3 (HLL.out.trans h5) (by have := HNB.out; omega) _ _ _
                  obtain ⟨W6, hW6⟩ : ∃ W6, (((w5.setCell ⟨db, 0, none⟩ (.int .i64 k)).setCell ⟨db, 1, none⟩ (.int .i64 0)).setCell ⟨db, 2, none⟩ (.string ⟨#[]⟩)) = W6 := ⟨_, rfl⟩
                  rw [hW6] at hdw hnw hbw
                  rw [hW6]
                  obtain ⟨d0, d1, d2⟩ : W6.cell? ⟨db, 0, none⟩ = some (.int .i64 k) ∧ W6.cell? ⟨db, 1, none⟩ = some (.int .i64 0) ∧ W6.cell? ⟨db, 2, none⟩ = some (.string ⟨#[]⟩) := ⟨cell_of_block hdw 0, cell_of_block hdw 1, cell_of_block hdw 2⟩
                  obtain ⟨e0, e1, e2, y0, y1, y2⟩ : W6.cell? ⟨nb, 0, none⟩ = some (.int .i64 0) ∧ W6.cell? ⟨nb, 1, none⟩ = some (.int .i64 0) ∧ W6.cell? ⟨nb, 2, none⟩ = some (.string ⟨#[]⟩) ∧ W6.frozen? ⟨nb, 0, none⟩ = false ∧ W6.frozen? ⟨nb, 1, none⟩ = false ∧ W6.frozen? ⟨nb, 2, none⟩ = false := ⟨cell_of_block hnw 0, cell_of_block hnw 1, cell_of_block hnw 2, free_of_block hnw 0, free_of_block hnw 1, free_of_block hnw 2⟩
                  have HNW := Lib.hid hnw
                  have HBW := Lib.hid hbw
                  clear hW6 hdw hnw hbw t0 t1 t2 z0 z1 z2 hix hfd
                  go_wp2_with fail
                  try rw [Exit.noGoto_ret]
                  refine bodyPost_ret (results_c1 rfl _ _ _ nb 42 #[.int .i64 k, .int .i64 0, .string ⟨#[]⟩] (0, 0) _ rfl (set3 HNW.out _ _ _) Tryz.underlying42 info_dec) rfl ?_
                  rw [HDD.out]
                  refine ⟨?_, below_set3 HBW.out (by have := HNB.out; omega) _ _ _⟩
                  rw [HOUT.out]
                  rfl
                · skip
                  have HFN := Lib.hid (fun w1 => pass_any w1 ⟨rf, rt, 1, rp, rw_⟩ S)
                  simp only [RuV.val] at HFN
                  have hout : outG (RuV.bare ⟨rf, rt, 1, rp, rw_⟩) S.data.toList = S.data.toList := by
                    unfold outG
                    rfl
                  have HOUT := Lib.hid hout
                  clear hout
                  go_upto_region 14 with fail
                  have hix : ∀ w : World, (Instr.index 83 (.agg #[(.func (.func 59) #[] #[]), (.func (.func 60) #[] #[]), (.func (.func 61) #[] #[])]) (.int .i64 1)).run Tryz.prog w = .ok (.agg #[(.func (.func 60) #[] #[])]) w := fun w => by kernel_rfl
                  have hfd : ∀ w : World, (Instr.field 82 (.agg #[(.func (.func 60) #[] #[])]) 0).run Tryz.prog w = .ok (.func (.func 60) #[] #[]) w := fun w => by kernel_rfl
                  go_region_held3 (fun w' => w'.cell? ⟨ub, 0, none⟩ = some (.int .i64 rf) ∧ w'.cell? ⟨ub, 1, none⟩ = some (.int .i64 rt) ∧ w'.cell? ⟨ub, 2, none⟩ = some (.int .i64 1) ∧ w'.cell? ⟨ub, 3, none⟩ = some (.string rp) ∧ w'.cell? ⟨ub, 4, none⟩ = some (.string rw_))
                    (first | exact keep5 (HSX.out w5 (by repeat (first | assumption | exact Later.refl _ | refine Later.alloc ?_ _ | refine Later.drew ?_ | refine Later.drewN ?_ _ | refine Later.trans ?_ (by assumption)))) hdu _ _ _ | exact HSX.out _ (by repeat (first | assumption | exact Later.refl _ | refine Later.alloc ?_ _ | refine Later.drew ?_ | refine Later.drewN ?_ _ | refine Later.trans ?_ (by assumption))))
                    (first
                      | (go_at_call 38; (with_reducible refine (HACT.out _).mono ?_); rintro e w4 ⟨rfl, hl4⟩)
                      | (go_at_call 60; (with_reducible refine (HFN.out _).mono ?_); rintro e w5 ⟨rfl, hl5⟩; obtain ⟨t0, t1, t2, z0, z1, z2⟩ := HDX.out w5 (by repeat (first | assumption | exact Later.refl _ | refine Later.alloc ?_ _ | refine Later.drew ?_ | refine Later.drewN ?_ _ | refine Later.trans ?_ (by assumption))))
                      | fail)
                  rename (_ ∧ _) => hjunk
                  clear hjunk
                  have h5 : Later Wl w5 := (by repeat (first | assumption | exact Later.refl _ | refine Later.alloc ?_ _ | refine Later.drew ?_ | refine Later.drewN ?_ _ | refine Later.trans ?_ (by assumption)))
                  have hdw : (((w5.setCell ⟨db, 0, none⟩ (.int .i64 k)).setCell ⟨db, 1, none⟩ (.int .i64 1)).setCell ⟨db, 2, none⟩ (.string S)).heap[db]? = some (.cells #[.int .i64 k, .int .i64 1, .string S] 42 (0, 0)) := set3 (h5.block HDL.out) _ _ _
                  have hnw : (((w5.setCell ⟨db, 0, none⟩ (.int .i64 k)).setCell ⟨db, 1, none⟩ (.int .i64 1)).setCell ⟨db, 2, none⟩ (.string S)).heap[nb]? = some (.cells #[.int .i64 0, .int .i64 0, .string ⟨#[]⟩] 42 (0, 0)) := by
                    rw [Below.heap_setCell _ _ _ _ (by show nb ≠ db; omega), Below.heap_setCell _ _ _ _ (by show nb ≠ db; omega), Below.heap_setCell _ _ _ _ (by show nb ≠ db; omega)]
                    exact h5.block HNL.out
                  have hbw : Below w.heap.size w (((w5.setCell ⟨db, 0, none⟩ (.int .i64 k)).setCell ⟨db, 1, none⟩ (.int .i64 1)).setCell ⟨db, 2, none⟩ (.string S)) := below_set3 (HLL.out.trans h5) (by have := HNB.out; omega) _ _ _
                  obtain ⟨W6, hW6⟩ : ∃ W6, (((w5.setCell ⟨db, 0, none⟩ (.int .i64 k)).setCell ⟨db, 1, none⟩ (.int .i64 1)).setCell ⟨db, 2, none⟩ (.string S)) = W6 := ⟨_, rfl⟩
                  rw [hW6] at hdw hnw hbw
                  rw [hW6]
                  obtain ⟨d0, d1, d2⟩ : W6.cell? ⟨db, 0, none⟩ = some (.int .i64 k) ∧ W6.cell? ⟨db, 1, none⟩ = some (.int .i64 1) ∧ W6.cell? ⟨db, 2, none⟩ = some (.string S) := ⟨cell_of_block hdw 0, cell_of_block hdw 1, cell_of_block hdw 2⟩
                  obtain ⟨e0, e1, e2, y0, y1, y2⟩ : W6.cell? ⟨nb, 0, none⟩ = some (.int .i64 0) ∧ W6.cell? ⟨nb, 1, none⟩ = some (.int .i64 0) ∧ W6.cell? ⟨nb, 2, none⟩ = some (.string ⟨#[]⟩) ∧ W6.frozen? ⟨nb, 0, none⟩ = false ∧ W6.frozen? ⟨nb, 1, none⟩ = false ∧ W6.frozen? ⟨nb, 2, none⟩ = false := ⟨cell_of_block hnw 0, cell_of_block hnw 1, cell_of_block hnw 2, free_of_block hnw 0, free_of_block hnw 1, free_of_block hnw 2⟩
                  have HNW := Lib.hid hnw
                  have HBW := Lib.hid hbw
                  clear hW6 hdw hnw hbw t0 t1 t2 z0 z1 z2 hix hfd
                  go_wp2_with fail
                  try rw [Exit.noGoto_ret]
                  refine bodyPost_ret (results_c1 rfl _ _ _ nb 42 #[.int .i64 k, .int .i64 1, .string S] (0, 0) _ rfl (set3 HNW.out _ _ _) Tryz.underlying42 info_dec) rfl ?_
                  rw [HDD.out]
                  refine ⟨?_, below_set3 HBW.out (by have := HNB.out; omega) _ _ _⟩
                  rw [HOUT.out]
                  exact ret_dec S _
                · obtain ⟨y, hy⟩ := HW.out rfl
                  have HFN := Lib.hid (fun w1 (h1 : Later wx w1) => redact_any w1 ⟨rf, rt, 2, rp, rw_⟩ S y hy (by omega) (HT3.out _ (Later.trans HLX.out h1)))
                  simp only [RuV.val] at HFN
                  have hout : outG (RuV.bare ⟨rf, rt, 2, rp, rw_⟩) S.data.toList = starsFrom (hitsG y.lang S.data.toList) 0 S.data.toList := by
                    unfold outG
                    show (if (2 : Int) = 0 then ([] : List UInt8) else if (2 : Int) = 1 then S.data.toList else starsFrom (hitsG (langP rw_.data.toList) S.data.toList) 0 S.data.toList) = _
                    rw [if_neg (by decide), if_neg (by decide), langP_eq hy]
                  have HOUT := Lib.hid hout
                  clear hout hy
                  go_upto_region 14 with fail
                  have hix : ∀ w : World, (Instr.index 83 (.agg #[(.func (.func 59) #[] #[]), (.func (.func 60) #[] #[]), (.func (.func 61) #[] #[])]) (.int .i64 2)).run Tryz.prog w = .ok (.agg #[(.func (.func 61) #[] #[])]) w := fun w => by kernel_rfl
                  have hfd : ∀ w : World, (Instr.field 82 (.agg #[(.func (.func 61) #[] #[])]) 0).run Tryz.prog w = .ok (.func (.func 61) #[] #[]) w := fun w => by kernel_rfl
                  go_region_held3 (fun w' => w'.cell? ⟨ub, 0, none⟩ = some (.int .i64 rf) ∧ w'.cell? ⟨ub, 1, none⟩ = some (.int .i64 rt) ∧ w'.cell? ⟨ub, 2, none⟩ = some (.int .i64 2) ∧ w'.cell? ⟨ub, 3, none⟩ = some (.string rp) ∧ w'.cell? ⟨ub, 4, none⟩ = some (.string rw_))
                    (first | exact keep5 (HSX.out w5 (by repeat (first | assumption | exact Later.refl _ | refine Later.alloc ?_ _ | refine Later.drew ?_ | refine Later.drewN ?_ _ | refine Later.trans ?_ (by assumption)))) hdu _ _ _ | exact HSX.out _ (by repeat (first | assumption | exact Later.refl _ | refine Later.alloc ?_ _ | refine Later.drew ?_ | refine Later.drewN ?_ _ | refine Later.trans ?_ (by assumption))))
                    (first
                      | (go_at_call 38; (with_reducible refine (HACT.out _).mono ?_); rintro e w4 ⟨rfl, hl4⟩)
                      | (go_at_call 61; (with_reducible refine (HFN.out _ (by repeat (first | assumption | exact Later.refl _ | refine Later.alloc ?_ _ | refine Later.drew ?_ | refine Later.drewN ?_ _ | refine Later.trans ?_ (by assumption)))).mono ?_); rintro e w5 ⟨rfl, hl5⟩; obtain ⟨t0, t1, t2, z0, z1, z2⟩ := HDX.out w5 (by repeat (first | assumption | exact Later.refl _ | refine Later.alloc ?_ _ | refine Later.drew ?_ | refine Later.drewN ?_ _ | refine Later.trans ?_ (by assumption))))
                      | fail)
                  rename (_ ∧ _) => hjunk
                  clear hjunk
                  have h5 : Later Wl w5 := (by repeat (first | assumption | exact Later.refl _ | refine Later.alloc ?_ _ | refine Later.drew ?_ | refine Later.drewN ?_ _ | refine Later.trans ?_ (by assumption)))
                  have hdw : (((w5.setCell ⟨db, 0, none⟩ (.int .i64 k)).setCell ⟨db, 1, none⟩ (.int .i64 2)).setCell ⟨db, 2, none⟩ (.string ⟨(starsFrom (hitsG y.lang S.data.toList) 0 S.data.toList).toArray⟩)).heap[db]? = some (.cells #[.int .i64 k, .int .i64 2, .string ⟨(starsFrom (hitsG y.lang S.data.toList) 0 S.data.toList).toArray⟩] 42 (0, 0)) := set3 (h5.block HDL.out) _ _ _
                  have hnw : (((w5.setCell ⟨db, 0, none⟩ (.int .i64 k)).setCell ⟨db, 1, none⟩ (.int .i64 2)).setCell ⟨db, 2, none⟩ (.string ⟨(starsFrom (hitsG y.lang S.data.toList) 0 S.data.toList).toArray⟩)).heap[nb]? = some (.cells #[.int .i64 0, .int .i64 0, .string ⟨#[]⟩] 42 (0, 0)) := by
                    rw [Below.heap_setCell _ _ _ _ (by show nb ≠ db; omega), Below.heap_setCell _ _ _ _ (by show nb ≠ db; omega), Below.heap_setCell _ _ _ _ (by show nb ≠ db; omega)]
                    exact h5.block HNL.out
                  have hbw : Below w.heap.size w (((w5.setCell ⟨db, 0, none⟩ (.int .i64 k)).setCell ⟨db, 1, none⟩ (.int .i64 2)).setCell ⟨db, 2, none⟩ (.string ⟨(starsFrom (hitsG y.lang S.data.toList) 0 S.data.toList).toArray⟩)) := below_set3 (HLL.out.trans h5) (by have := HNB.out; omega) _ _ _
                  obtain ⟨W6, hW6⟩ : ∃ W6, (((w5.setCell ⟨db, 0, none⟩ (.int .i64 k)).setCell ⟨db, 1, none⟩ (.int .i64 2)).setCell ⟨db, 2, none⟩ (.string ⟨(starsFrom (hitsG y.lang S.data.toList) 0 S.data.toList).toArray⟩)) = W6 := ⟨_, rfl⟩
                  rw [hW6] at hdw hnw hbw
                  rw [hW6]
                  obtain ⟨d0, d1, d2⟩ : W6.cell? ⟨db, 0, none⟩ = some (.int .i64 k) ∧ W6.cell? ⟨db, 1, none⟩ = some (.int .i64 2) ∧ W6.cell? ⟨db, 2, none⟩ = some (.string ⟨(starsFrom (hitsG y.lang S.data.toList) 0 S.data.toList).toArray⟩) := ⟨cell_of_block hdw 0, cell_of_block hdw 1, cell_of_block hdw 2⟩
                  obtain ⟨e0, e1, e2, y0, y1, y2⟩ : W6.cell? ⟨nb, 0, none⟩ = some (.int .i64 0) ∧ W6.cell? ⟨nb, 1, none⟩ = some (.int .i64 0) ∧ W6.cell? ⟨nb, 2, none⟩ = some (.string ⟨#[]⟩) ∧ W6.frozen? ⟨nb, 0, none⟩ = false ∧ W6.frozen? ⟨nb, 1, none⟩ = false ∧ W6.frozen? ⟨nb, 2, none⟩ = false := ⟨cell_of_block hnw 0, cell_of_block hnw 1, cell_of_block hnw 2, free_of_block hnw 0, free_of_block hnw 1, free_of_block hnw 2⟩
                  have HNW := Lib.hid hnw
                  have HBW := Lib.hid hbw
                  clear hW6 hdw hnw hbw t0 t1 t2 z0 z1 z2 hix hfd
                  go_wp2_with fail
                  try rw [Exit.noGoto_ret]
                  refine bodyPost_ret (results_c1 rfl _ _ _ nb 42 #[.int .i64 k, .int .i64 2, .string ⟨(starsFrom (hitsG y.lang S.data.toList) 0 S.data.toList).toArray⟩] (0, 0) _ rfl (set3 HNW.out _ _ _) Tryz.underlying42 info_dec) rfl ?_
                  rw [HDD.out]
                  refine ⟨?_, below_set3 HBW.out (by have := HNB.out; omega) _ _ _⟩
                  rw [HOUT.out]
                  rfl
            · have htk : (RuV.bare ⟨rf, rt, ra, rp, rw_⟩).takes fr tu S.data.toList = false := takes_no (.inr ht)
              have HTK := Lib.hid (HFI.out.trans (firstG_step HBK.out htk))
              have hfe : (rf != fr) = false := by simp [hf]
              have hte : (rt != tu) = true := by rw [bne_iff_ne]; exact ht
              clear htk hx hw hf ht
              go_wp2_with fail
              exact ⟨⟨k + 1, by omega, by simp, hlr.alloc _, HTK.out⟩, by simp only [intOf]; omega⟩
          · have htk : (RuV.bare ⟨rf, rt, ra, rp, rw_⟩).takes fr tu S.data.toList = false := takes_no (.inl hf)
            have HTK := Lib.hid (HFI.out.trans (firstG_step HBK.out htk))
            have hfe : (rf != fr) = true := by rw [bne_iff_ne]; exact hf
            clear htk hx hw hf
            go_wp2_with fail
            exact ⟨⟨k + 1, by omega, by simp, hlr.alloc _, HTK.out⟩, by simp only [intOf]; omega⟩
        · obtain rfl : k = m := by omega
          have hnl := hlr.block HNL.out
          have hdl := hlr.block HDL.out
          obtain ⟨d0, d1, d2⟩ : wr.cell? ⟨db, 0, none⟩ = some (.int .i64 (-1)) ∧ wr.cell? ⟨db, 1, none⟩ = some (.int .i64 0) ∧ wr.cell? ⟨db, 2, none⟩ = some (.string ⟨#[]⟩) := ⟨cell_of_block hdl 0, cell_of_block hdl 1, cell_of_block hdl 2⟩
          obtain ⟨e0, e1, e2, z0, z1, z2⟩ : wr.cell? ⟨nb, 0, none⟩ = some (.int .i64 0) ∧ wr.cell? ⟨nb, 1, none⟩ = some (.int .i64 0) ∧ wr.cell? ⟨nb, 2, none⟩ = some (.string ⟨#[]⟩) ∧ wr.frozen? ⟨nb, 0, none⟩ = false ∧ wr.frozen? ⟨nb, 1, none⟩ = false ∧ wr.frozen? ⟨nb, 2, none⟩ = false := ⟨cell_of_block hnl 0, cell_of_block hnl 1, cell_of_block hnl 2, free_of_block hnl 0, free_of_block hnl 1, free_of_block hnl 2⟩
          have HNLR := Lib.hid hnl
          clear hnl hdl
          go_wp2_with fail
          try rw [Exit.noGoto_ret]
          refine bodyPost_ret (results_c1 rfl _ _ _ nb 42 #[.int .i64 (-1), .int .i64 0, .string ⟨#[]⟩] (0, 0) _ rfl (set3 HNLR.out _ _ _) Tryz.underlying42 info_dec) rfl ?_
          have hd := decide_none (fr := fr) (tu := tu) (s := S.data.toList) HC.out (by have := HLEN.out; omega) (by rw [HFI.out, List.drop_eq_nil_of_le (by have := HM.out; rw [List.length_map]; omega)]; rfl)
          rw [HD.out] at hd
          rw [hd]
          exact ⟨rfl, below_set3 (HLL.out.trans hlr) (by have := HNB.out; omega) _ _ _⟩
    · have hg : (200 : Int) < S.size := by omega
      have hd := decide_long (fr := fr) (tu := tu) hc (s := S.data.toList) (by have := HLEN.out; omega)
      rw [hd]
      clear hd hc
      go_enter Tryz.func17, Tryz.ntmps17
      go_wp2_with fail
      go_step3
      rw [HNB.out]
      go_wp2_with (first
        | (go_at_call 19; refine (HCK.out _ ((Later.refl w).alloc _)).mono ?_; rintro e w1 ⟨rfl, hl1⟩; have hN1 := hl1.block HN.out; obtain ⟨d0, d1, d2, z0, z1, z2⟩ : w1.cell? ⟨nb, 0, none⟩ = some (.int .i64 0) ∧ w1.cell? ⟨nb, 1, none⟩ = some (.int .i64 0) ∧ w1.cell? ⟨nb, 2, none⟩ = some (.string ⟨#[]⟩) ∧ w1.frozen? ⟨nb, 0, none⟩ = false ∧ w1.frozen? ⟨nb, 1, none⟩ = false ∧ w1.frozen? ⟨nb, 2, none⟩ = false := ⟨cell_of_block hN1 0, cell_of_block hN1 1, cell_of_block hN1 2, free_of_block hN1 0, free_of_block hN1 1, free_of_block hN1 2⟩; have HN1 := Lib.hid hN1; clear hN1)
        | fail)
      rw [Exit.noGoto_ret]
      refine bodyPost_ret (results_c1 rfl _ _ _ nb 42 #[.int .i64 0, .int .i64 0, .string ⟨#[]⟩] (0, 0) _ rfl (set3 HN1.out _ _ _) Tryz.underlying42 info_dec) rfl ?_
      refine ⟨rfl, ?_⟩
      have hb : Later w w1 := (Later.trans ((Later.refl w).alloc _) hl1)
      exact below_set3 hb (by have := HNB.out; omega) _ _ _
  · have hd := decide_bad (fr := fr) (tu := tu) (s := S.data.toList) (l := l.map RuV.bare) (by rw [hc]; exact hc0)
    rw [hd, hc]
    have hne : (c != 0) = true := by rw [bne_iff_ne]; exact hc0
    clear hd hc hc0
    go_enter Tryz.func17, Tryz.ntmps17
    go_wp2_with fail
    go_step3
    rw [HNB.out]
    go_wp2_with (first
      | (go_at_call 19; refine (HCK.out _ ((Later.refl w).alloc _)).mono ?_; rintro e w1 ⟨rfl, hl1⟩; have hN1 := hl1.block HN.out; obtain ⟨d0, d1, d2, z0, z1, z2⟩ : w1.cell? ⟨nb, 0, none⟩ = some (.int .i64 0) ∧ w1.cell? ⟨nb, 1, none⟩ = some (.int .i64 0) ∧ w1.cell? ⟨nb, 2, none⟩ = some (.string ⟨#[]⟩) ∧ w1.frozen? ⟨nb, 0, none⟩ = false ∧ w1.frozen? ⟨nb, 1, none⟩ = false ∧ w1.frozen? ⟨nb, 2, none⟩ = false := ⟨cell_of_block hN1 0, cell_of_block hN1 1, cell_of_block hN1 2, free_of_block hN1 0, free_of_block hN1 1, free_of_block hN1 2⟩; have HN1 := Lib.hid hN1; clear hN1)
      | fail)
    rw [Exit.noGoto_ret]
    refine bodyPost_ret (results_c1 rfl _ _ _ nb 42 #[.int .i64 0, .int .i64 0, .string ⟨#[]⟩] (0, 0) _ rfl (set3 HN1.out _ _ _) Tryz.underlying42 info_dec) rfl ?_
    refine ⟨rfl, ?_⟩
    have hb : Later w w1 := (Later.trans ((Later.refl w).alloc _) hl1)
    exact below_set3 hb (by have := HNB.out; omega) _ _ _
end Go.Proofs.YtjhclopdcbnmkaaGreatDoor
