/- The document's answer for the guard: what becomes of a payload. (Printed by wip/gen_d2.py.) -/
import Derived.Test.YtjhclopdcbnmkaaGreatDoorD1
import Derived.Test.YtjhclopdcbnmkaaGreatDoorRHit
import Derived.Lib.ConvBytes
import Derived.RegionTactic
set_option linter.unusedSimpArgs false
set_option linter.unusedVariables false
namespace Go.Proofs.YtjhclopdcbnmkaaGreatDoor
open Go.RowKit PX

theorem results_tmp4 {fn : Func} {s t u v : Tmp} (h : fn.results = #[.tmp s, .tmp t, .tmp u, .tmp v]) (tmps : Array Value) (P : Program) (w : World) :
    (results fn tmps).run P w = .ok (.tuple #[tmps.getD s undef, tmps.getD t undef, tmps.getD u undef, tmps.getD v undef]) w := by
  simp [results, h]
theorem rparse_good' (w : World) (S : ByteArray) (x : Rx) (h : parseR S.data.toList = .inl x) : Calls Tryz.prog 15 #[.string S] w fun e w' =>
    ∃ k mn mx s0 s1 s2 s3 a cap l, x = (RxA.node k mn mx s0 s1 s2 s3 a cap l).bare ∧ e = .returned (.tuple #[.agg #[.int .i64 k, .int .i64 mn, .int .i64 mx, .int .u64 s0, .int .u64 s1, .int .u64 s2, .int .u64 s3, .slice a l.length cap], .int .i64 0]) ∧
      (RxA.node k mn mx s0 s1 s2 s3 a cap l).In w' w'.heap.size ∧ Later w w' := by
  refine (rparse_any w S).mono ?_
  rintro e w' ⟨hb, ⟨X, hX, he, hi⟩ | ⟨n, hn, -⟩⟩
  · obtain ⟨k, mn, mx, s0, s1, s2, s3, a, cap, l⟩ := X
    rw [h] at hX
    exact ⟨k, mn, mx, s0, s1, s2, s3, a, cap, l, Sum.inl.inj hX, he, hi, hb⟩
  · rw [h] at hn; cases hn
theorem in_later20 {X : RxA} {w w' : World} (h : X.In w w.heap.size) (hl : Later w w') : X.In w' w'.heap.size := (h.below hl (Nat.le_refl _)).later (Below.size hl) (fun _ _ _ => rfl)
theorem check_of_parse {s : List UInt8} {x : Rx} (h : parseR s = .inl x) : checkR x = 0 := by obtain ⟨h1, h2⟩ := parseR_form h; unfold checkR; rw [if_pos h1, if_neg (by omega)]
/-- What the document's Decide tells. -/
def DocSays (d : Int × Int × List UInt8 × Int) (w : World) (e : Ending) (w' : World) : Prop :=
  e = .returned (.tuple #[.int .i64 d.1, .int .i64 d.2.1, .string ⟨d.2.2.1.toArray⟩, .int .i64 d.2.2.2]) ∧ Later w w'
set_option maxRecDepth 100000 in
set_option maxHeartbeats 4000000 in
theorem rdecide20_any (w : World) (a : Option Addr) (cap : Nat) (l : List RuV) (fr tu : Int) (S : ByteArray) (h : RulesIn w a cap l) :
    Calls Tryz.prog 18 #[.slice a l.length cap, .int .i64 fr, .int .i64 tu, .string S] w fun e w' => DocSays (decideG (l.map RuV.bare) fr tu S.data.toList) w e w' := by
  have hlen : S.data.toList.length = S.size := ba_len S
  obtain ⟨m, hm⟩ : ∃ m, l.length = m := ⟨_, rfl⟩
  have hl1 := h.1
  have hl2 := h.2.1
  have hck := rcheck20_any w a cap l 8 h
  rw [hm] at hl1 hck ⊢
  have HM := Lib.hid hm
  have HH := Lib.hid h
  have HLEN := Lib.hid hlen
  obtain ⟨c, hc⟩ : ∃ c, checkG (l.map RuV.bare) 8 = c := ⟨_, rfl⟩
  rw [hc] at hck
  have HCK := Lib.hid hck
  clear h hm hlen hck
  obtain ⟨D, hD⟩ : ∃ D, decideG (l.map RuV.bare) fr tu S.data.toList = D := ⟨_, rfl⟩
  rw [hD]
  have HD := Lib.hid hD
  clear hD
  by_cases hc0 : c = 0
  · subst hc0
    have HC := Lib.hid hc
    clear hc
    by_cases hs : S.size ≤ 200
    · have hg : ¬ (200 : Int) < S.size := by omega
      go_enter Tryz.func18, Tryz.ntmps18
      go_wp2_with (first
        | (go_at_call 20; (with_reducible refine HCK.out.mono ?_); rintro e w1 ⟨rfl, hlc1⟩)
        | fail)
      obtain ⟨hm32, hok⟩ := checkG_all HC.out
      have HOK := Lib.hid hok
      have hm64 : m ≤ 32 := by have := HM.out; rw [List.length_map] at hm32; omega
      clear hm32 hok
      go_loopw [13] (fun v wr => ∃ k : Nat, k ≤ m ∧ v = .int .i64 k ∧ Later w1 wr ∧ firstG fr tu S.data.toList 0 (l.map RuV.bare) = firstG fr tu S.data.toList k ((l.map RuV.bare).drop k)) (fun v _ => m - (intOf v).toNat)
      case atStart => exact ⟨0, by omega, rfl, Later.refl _, rfl⟩
      case round =>
        obtain ⟨k, hk, rfl, hlr, hfi⟩ := hrel
        have HFI := Lib.hid hfi; clear hfi
        by_cases hlt : k < m
        · have hkl : k < l.length := by have := HM.out; omega
          have hkm : (k : Int) < (m : Int) := by omega
          obtain ⟨b, o, rfl, c0, c1, c2, c3, c4⟩ := rules_at (HH.out.later (Later.trans hlc1 hlr)) hkl
          obtain ⟨r, hr⟩ : ∃ r, l[k] = r := ⟨_, rfl⟩
          have hbk : (l.map RuV.bare)[k]? = some r.bare := by rw [List.getElem?_map, List.getElem?_eq_getElem hkl, hr]; rfl
          rw [hr] at c0 c1 c2 c3 c4
          have hokr := okB_parts (HOK.out r.bare (List.mem_of_getElem? hbk))
          have HBK := Lib.hid hbk
          clear hbk hr hkl
          obtain ⟨rf, rt, ra, rp, rq⟩ := r
          obtain ⟨⟨ha0, ha2⟩, ⟨x, hx⟩, hw⟩ := hokr
          simp only [RuV.bare] at ha0 ha2 hx hw
          simp only at c0 c1 c2 c3 c4
          obtain ⟨wx, hwx⟩ : ∃ wx, wr.alloc (.cells #[.int .i64 rf, .int .i64 rt, .int .i64 ra, .string rp, .string rq] 56) = wx := ⟨_, rfl⟩
          obtain ⟨ub, hub⟩ : ∃ ub, wr.heap.size = ub := ⟨_, rfl⟩
          have hux : wx.heap[ub]? = some (.cells #[.int .i64 rf, .int .i64 rt, .int .i64 ra, .string rp, .string rq] 56 (0, 0)) := by rw [← hwx]; exact alloc_block' _ _ _ hub
          have hlx : Later w1 wx := by rw [← hwx]; exact hlr.alloc _
          have HSX := Lib.hid (fun w' (h' : Later wx w') => show w'.cell? ⟨ub, 0, none⟩ = some (.int .i64 rf) ∧ w'.cell? ⟨ub, 1, none⟩ = some (.int .i64 rt) ∧ w'.cell? ⟨ub, 2, none⟩ = some (.int .i64 ra) ∧ w'.cell? ⟨ub, 3, none⟩ = some (.string rp) ∧ w'.cell? ⟨ub, 4, none⟩ = some (.string rq) ∧ ub < w'.heap.size from
            ⟨cell_of_block (h'.block hux) 0, cell_of_block (h'.block hux) 1, cell_of_block (h'.block hux) 2, cell_of_block (h'.block hux) 3, cell_of_block (h'.block hux) 4, lt_of_block (h'.block hux)⟩)
          have HPP := Lib.hid (fun w1 => rparse_good' w1 rp x hx)
          have HWX := Lib.hid hwx
          have HUB := Lib.hid hub
          have HLX := Lib.hid hlx
          have HW := Lib.hid hw
          have HXC := Lib.hid (check_of_parse hx)
          have HXX := Lib.hid hx
          clear hw hwx hub hux hlt hx hlx
          go_upto_region 10 with fail
          rw [HWX.out, HUB.out]
          clear c0 c1 c2 c3 c4
          obtain ⟨q0, q1, q2, q3, q4, qub⟩ := HSX.out wx (Later.refl _)
          have hlx := HLX.out
          go_upto_region 11 with (first
            | (go_at_call 15; (with_reducible refine (HPP.out _).mono ?_); rintro e w2 ⟨k2, mn2, mx2, s02, s12, s22, s32, a2, cap2, l2, hX, rfl, hin, hl2⟩; have HX := Lib.hid hX; have HIN := Lib.hid hin; clear hX hin; clear q0 q1 q2 q3 q4 qub; obtain ⟨q0, q1, q2, q3, q4, qub⟩ := HSX.out w2 (by repeat (first | assumption | exact Later.refl _ | refine Later.alloc ?_ _ | refine Later.drew ?_ | refine Later.drewN ?_ _ | refine Later.trans ?_ (by assumption))))
            | fail)
          have ha2 : Later w2 (w2.alloc (.cells #[.int .i64 k2, .int .i64 mn2, .int .i64 mx2, .int .u64 s02, .int .u64 s12, .int .u64 s22, .int .u64 s32, .slice a2 l2.length cap2] 26)) := (Later.refl w2).alloc _
          have h02 : Later wr (w2.alloc (.cells #[.int .i64 k2, .int .i64 mn2, .int .i64 mx2, .int .u64 s02, .int .u64 s12, .int .u64 s22, .int .u64 s32, .slice a2 l2.length cap2] 26)) := (show Later wr wx from by rw [← HWX.out]; exact (Later.refl wr).alloc _).trans (hl2.trans ha2)
          by_cases hf : rf = fr
          · by_cases ht : rt = tu
            · have hfe : (rf != fr) = false := by simp [hf]
              have hte : (rt != tu) = false := by simp [ht]
              have htk : (RuV.bare ⟨rf, rt, ra, rp, rq⟩).takes fr tu S.data.toList = inB x.lang S.data.toList := takes_is hf ht HXX.out
              obtain ⟨bi, hbi⟩ : ∃ bi, inB x.lang S.data.toList = bi := ⟨_, rfl⟩
              have HRI := Lib.hid (fun w1 (X : RxA) (hX : x = X.bare) (hin : X.In w1 w1.heap.size) => show Calls Tryz.prog 24 #[X.val, .string S] w1 fun e w' => e = .returned (.bool bi) ∧ Later w1 w' from by
                rw [← hbi, hX]
                exact ris_any w1 X S (by omega) hin (by rw [← hX]; exact HXC.out))
              rw [hbi] at htk
              have HTK := Lib.hid htk
              clear htk hbi hf ht
              cases bi with
              | false =>
                have HN := Lib.hid (HFI.out.trans (firstG_step HBK.out HTK.out))
                go_wp2_with (first
                  | (go_at_call 24; refine (HRI.out _ (RxA.node k2 mn2 mx2 s02 s12 s22 s32 a2 cap2 l2) HX.out (in_later20 HIN.out ha2)).mono ?_; rintro e w3 ⟨rfl, hl3⟩)
                  | fail)
                go_roundw
                case rel => exact ⟨k + 1, by omega, by go_num, (by repeat (first | assumption | exact Later.refl _ | refine Later.alloc ?_ _ | refine Later.drew ?_ | refine Later.drewN ?_ _ | refine Later.trans ?_ (by assumption))), HN.out⟩
                case measure => simp [intOf]; omega
              | true =>
                have hd := decide_some (fr := fr) (tu := tu) (s := S.data.toList) HC.out (by have := HLEN.out; omega) (HFI.out.trans (firstG_hit HBK.out HTK.out))
                rw [HD.out] at hd
                have HDD := Lib.hid hd
                clear hd
                have hra : ra = 0 ∨ ra = 1 ∨ ra = 2 := by omega
                go_upto_region 12 with (first
                  | (go_at_call 24; refine (HRI.out _ (RxA.node k2 mn2 mx2 s02 s12 s22 s32 a2 cap2 l2) HX.out (in_later20 HIN.out ha2)).mono ?_; rintro e w3 ⟨rfl, hl3⟩; have h23 : Later wx w3 := hl2.trans (ha2.trans hl3); clear q0 q1 q2 q3 q4 qub; obtain ⟨q0, q1, q2, q3, q4, qub⟩ := HSX.out w3 h23)
                  | fail)
                have h13 : Later w w3 := hlc1.trans (hlx.trans h23)
                have HL13 := Lib.hid h13
                clear h13
                rcases hra with rfl | rfl | rfl
                · go_wp2_with fail
                  refine bodyPost_ret (results_tmp4 rfl _ _ _) rfl ?_
                  rw [HDD.out]
                  exact ⟨rfl, HL13.out⟩
                · go_wp2_with fail
                  refine bodyPost_ret (results_tmp4 rfl _ _ _) rfl ?_
                  rw [HDD.out]
                  exact ⟨rfl, HL13.out⟩
                · obtain ⟨y, hy⟩ := HW.out rfl
                  have hout : outG (RuV.bare ⟨rf, rt, 2, rp, rq⟩) S.data.toList = starsFrom (hitsG y.lang S.data.toList) 0 S.data.toList := by
                    unfold outG
                    show (if (2 : Int) = 0 then ([] : List UInt8) else if (2 : Int) = 1 then S.data.toList else starsFrom (hitsG (langP rq.data.toList) S.data.toList) 0 S.data.toList) = _
                    rw [if_neg (by decide), if_neg (by decide), langP_eq hy]
                  have HOUT := Lib.hid hout
                  have HPQ := Lib.hid (fun w1 => rparse_good' w1 rq y hy)
                  have HYC := Lib.hid (check_of_parse hy)
                  have hconv : ∀ W : World, (convert 9 58 (.string S)).run Tryz.prog W = .ok (.slice (some ⟨W.heap.size, 0, none⟩) S.size (grownCap W S.size 0 5)) (Lib.bytesWorld W 5 S) :=
                    fun W => Lib.run_convert_string_bytes W _ _ _ S Tryz.underlying9 Tryz.underlying58 Tryz.underlying5
                  clear hout hy
                  go_upto_region 18 with (first
                    | (go_at_call 15; (with_reducible refine (HPQ.out _).mono ?_); rintro e w4 ⟨k3, mn3, mx3, s03, s13, s23, s33, a3, cap3, l3, hY, rfl, hinY, hl4⟩; have HY := Lib.hid hY; have HINY := Lib.hid hinY; clear hY hinY)
                    | fail)
                  clear hconv q0 q1 q2 q3 q4 qub
                  obtain ⟨w5, hw5⟩ : ∃ w5, w4.alloc (.cells #[.int .i64 k3, .int .i64 mn3, .int .i64 mx3, .int .u64 s03, .int .u64 s13, .int .u64 s23, .int .u64 s33, .slice a3 l3.length cap3] 26) = w5 := ⟨_, rfl⟩
                  have hl5 : Later w4 w5 := by rw [← hw5]; exact (Later.refl w4).alloc _
                  have hy5 : w5.heap[w4.heap.size]? = some (.cells #[.int .i64 k3, .int .i64 mn3, .int .i64 mx3, .int .u64 s03, .int .u64 s13, .int .u64 s23, .int .u64 s33, .slice a3 l3.length cap3] 26 (0, 0)) := by rw [← hw5]; exact alloc_block w4 _
                  have hz5 : w5.heap.size = w4.heap.size + 1 := by rw [← hw5]; simp
                  rw [hw5]
                  obtain ⟨W2, hW2⟩ : ∃ W2, Lib.bytesWorld w5 5 S = W2 := ⟨_, rfl⟩
                  obtain ⟨bb, hbb⟩ : ∃ bb, w4.heap.size + 1 = bb := ⟨_, rfl⟩
                  rw [hW2]
                  try rw [hz5]
                  rw [hbb]
                  rw [hbb] at hz5
                  generalize grownCap w5 S.size 0 5 = cap0
                  have hs2 : W2.heap.size = bb + 1 := by rw [← hW2, Lib.bytesWorld_size, hz5]
                  have hl52 : Later w5 W2 := by
                    rw [← hW2]
                    exact ⟨rfl, rfl, rfl, by rw [Lib.bytesWorld_size]; omega, fun k hk => Lib.bytesWorld_at_old _ _ _ _ hk⟩
                  have hst : StarsAt W2 bb S (fun _ => false) := by
                    intro j hj
                    rw [← hW2, ← hz5]
                    exact ⟨Lib.bytesWorld_cell _ _ _ _ hj, bytes_free _ _ _ _ hj⟩
                  have hyW := hl52.block hy5
                  have y0 : W2.cell? ⟨w4.heap.size, 0, none⟩ = some (.int .i64 k3) := cell_of_block hyW 0
                  have y1 : W2.cell? ⟨w4.heap.size, 1, none⟩ = some (.int .i64 mn3) := cell_of_block hyW 1
                  have y2 : W2.cell? ⟨w4.heap.size, 2, none⟩ = some (.int .i64 mx3) := cell_of_block hyW 2
                  have y3 : W2.cell? ⟨w4.heap.size, 3, none⟩ = some (.int .u64 s03) := cell_of_block hyW 3
                  have y4 : W2.cell? ⟨w4.heap.size, 4, none⟩ = some (.int .u64 s13) := cell_of_block hyW 4
                  have y5 : W2.cell? ⟨w4.heap.size, 5, none⟩ = some (.int .u64 s23) := cell_of_block hyW 5
                  have y6 : W2.cell? ⟨w4.heap.size, 6, none⟩ = some (.int .u64 s33) := cell_of_block hyW 6
                  have y7 : W2.cell? ⟨w4.heap.size, 7, none⟩ = some (.slice a3 l3.length cap3) := cell_of_block hyW 7
                  have hinW := in_later20 HINY.out (hl5.trans hl52)
                  have HRH := Lib.hid (show Calls Tryz.prog 25 #[(RxA.node k3 mn3 mx3 s03 s13 s23 s33 a3 cap3 l3).val, .string S] W2 fun e w' => ∃ v l, e = .returned v ∧ HitsSays y S.data.toList l ∧ w'.ownsRow W2.heap.size 61 2 v l.length (pairCells l) ∧ l.length ≤ 256 ∧ Later W2 w' from by
                    rw [HY.out]
                    exact rhits_any W2 (RxA.node k3 mn3 mx3 s03 s13 s23 s33 a3 cap3 l3) S hinW (by rw [← HY.out]; exact HYC.out))
                  have HST := Lib.hid hst
                  have HBB := Lib.hid hbb
                  have HS2 := Lib.hid hs2
                  have HLW := Lib.hid (HL13.out.trans (hl4.trans (hl5.trans hl52)))
                  have hw2b : w.heap.size < bb := by
                    have h1 := Below.size HL13.out
                    have h2 := Below.size hl4
                    omega
                  clear hst hbb hs2 hW2 hw5 hl5 hl4 hy5 hz5 hl52 hyW hinW
                  go_upto_region 19 with (first
                    | (go_at_call 25; refine HRH.out.mono ?_; rintro e w6 ⟨v, lh, rfl, hsay, hown, hl256, hl6⟩; obtain ⟨av, cv, hv, hpc⟩ := row_pairs hown; subst hv; have HPC := Lib.hid hpc; have HSAY := Lib.hid hsay; have HST6 := Lib.hid (HST.out.later (by have := HS2.out; omega) hl6); clear hown hpc hsay)
                    | fail)
                  have hin : ∀ q ∈ lh, q.1 < q.2 ∧ q.2 ≤ S.size := by
                    rcases HSAY.out with ⟨-, h⟩ | ⟨-, rfl⟩
                    · intro q hq
                      have := hits_in h q hq
                      rw [Array.length_toList] at this
                      exact this
                    · intro q hq; cases hq
                  have hgl : hitsG y.lang S.data.toList = lh := by
                    rcases HSAY.out with ⟨-, h⟩ | ⟨h, -⟩
                    · exact hitsG_eq h
                    · rw [Array.length_toList] at h
                      exact absurd hs (by show ¬ S.size ≤ 200; have : S.data.size = S.size := rfl; omega)
                  rw [hgl] at HOUT
                  have HIN := Lib.hid hin
                  have hz6 : bb + 1 ≤ w6.heap.size := by have := HS2.out; have := Below.size hl6; omega
                  have HL6 := Lib.hid (HLW.out.trans hl6)
                  clear hin hgl hl6 y0 y1 y2 y3 y4 y5 y6 y7
                  go_wp2_with fail
                  go_loopw [21, 22] (fun v _ wr => ∃ k : Nat, k ≤ lh.length ∧ v = .int .i64 k ∧ Only (fun c => c = bb) w6 wr ∧ StarsAt wr bb S (starB (lh.take k))) (fun v _ _ => lh.length - (intOf v).toNat)
                  case atStart => exact ⟨0, by omega, rfl, Only.refl _ _, HST6.out⟩
                  case round =>
                    obtain ⟨j, hj, rfl, hon, hst⟩ := hrel
                    have HON := Lib.hid hon
                    have HSR := Lib.hid hst
                    have hzr := hon.size
                    clear hon hst
                    by_cases hlt : j < lh.length
                    · have hq := HIN.out lh[j] (List.getElem_mem hlt)
                      obtain ⟨g, rfl, hg1, hg2, hgc⟩ := (HPC.out).resolve_left (by rintro rfl; simp at hlt)
                      obtain ⟨d0, d1⟩ := hgc j lh[j] (List.getElem?_eq_getElem hlt)
                      have hgb : ¬ g = bb := by have := HS2.out; omega
                      have c0 := (HON.out.cell (p := ⟨g, j * 2, none⟩) hg2 hgb).trans d0
                      have c1 := (HON.out.cell (p := ⟨g, j * 2 + 1, none⟩) hg2 hgb).trans d1
                      have htk : ∀ i, starB (lh.take (j + 1)) i = (starB (lh.take j) i || decide (lh[j].1 ≤ i ∧ i < lh[j].2)) := by
                        intro i; rw [List.take_succ_eq_append_getElem hlt, starB_snoc]
                      obtain ⟨⟨ha, hb⟩, hab⟩ : ∃ q, lh[j] = q := ⟨_, rfl⟩
                      rw [hab] at c0 c1 hq htk
                      have HTK2 := Lib.hid htk
                      obtain ⟨hq1, hq2⟩ := hq
                      simp only at c0 c1 hq1 hq2
                      clear d0 d1 hgc hab htk
                      have hb256 : hb ≤ 256 := by omega
                      have hgz : g < wr.heap.size := by omega
                      clear hg1 hg2
                      have HC1 := Lib.hid c1
                      have hkl : (j : Int) < (lh.length : Int) := by omega
                      obtain ⟨wo, rfl⟩ : ∃ wo : World, wo = wr := ⟨_, rfl⟩
                      have hlen : lh.length ≤ 256 := hl256
                      go_wp2_with fail
                      go_loopw [22] (fun v wi => ∃ i : Nat, ha ≤ i ∧ i ≤ hb ∧ v = .int .i64 i ∧ Only (fun c => c = bb) wo wi ∧ StarsAt wi bb S (fun q => starB (lh.take j) q || decide (ha ≤ q ∧ q < i))) (fun v _ => hb - (intOf v).toNat)
                      case atStart =>
                        refine ⟨ha, Nat.le_refl _, by omega, rfl, Only.refl _ _, HSR.out.congr fun q hq => ?_⟩
                        rw [decide_eq_false (by omega), Bool.or_false]
                      case round =>
                        obtain ⟨i, hai, hib, rfl, hoi, hsi⟩ := hrel
                        have e1 := (hoi.cell (p := ⟨g, j * 2 + 1, none⟩) hgz hgb).trans HC1.out
                        have HOI := Lib.hid hoi
                        have HSI := Lib.hid hsi
                        clear hoi hsi c0 c1
                        by_cases hil : (i : Int) < (hb : Int)
                        · obtain ⟨f0, f1⟩ := HSI.out i (by omega)
                          have hi256 : i ≤ 256 := by omega
                          have his : (i : Int) < (S.size : Int) := by omega
                          go_wp2_with fail
                          refine ⟨⟨i + 1, by omega, by omega, by simp, HOI.out.setCell (.inl rfl) _, HSI.out.set (by omega) fun q => ?_⟩, by simp only [intOf]; omega⟩
                          rw [Bool.or_assoc]
                          congr 1
                          rw [Bool.eq_iff_iff]
                          simp only [Bool.or_eq_true, decide_eq_true_eq]
                          omega
                        · go_wp2_with fail
                          refine ⟨⟨j + 1, by omega, by simp, HON.out.trans (HOI.out.mono fun c _ h => .inl h), HSI.out.congr fun q hq => ?_⟩, by simp only [intOf]; omega⟩
                          rw [HTK2.out]
                          have : i = hb := by omega
                          rw [this]
                    · obtain rfl : j = lh.length := by omega
                      have hst := HSR.out
                      rw [List.take_length] at hst
                      have hcv : (convert 58 9 (.slice (some ⟨bb, 0, none⟩) S.size cap0)).run Tryz.prog wr.drew = .ok (.string ⟨(starsFrom lh 0 S.data.toList).toArray⟩) wr.drew := by
                        have h := run_convert_bytes_back wr.drew 58 9 5 ⟨bb, 0, none⟩ cap0 (starsFrom lh 0 S.data.toList) Tryz.underlying58 Tryz.underlying5 Tryz.underlying9 (show StarsAt wr.drew bb S (starB lh) from hst).list
                        rw [stars_len] at h
                        exact h
                      have HLR := Lib.hid (Below.trans HL6.out (HON.out.below (B := w.heap.size) (by have := Below.size HL6.out; omega) (by intro c hc; omega)))
                      clear hst
                      go_upto_region 26 with fail
                      go_region
                      all_goals
                        go_wp2_with fail
                        refine bodyPost_ret (results_tmp4 rfl _ _ _) rfl ?_
                        rw [HDD.out]
                        refine ⟨?_, HLR.out.drew⟩
                        rw [HOUT.out]
                        rfl
              
            · have hte : (rt != tu) = true := by simp [ht]
              have hfe : (rf != fr) = false := by simp [hf]
              have HN := Lib.hid (HFI.out.trans (firstG_step HBK.out (takes_no (.inr ht))))
              clear hf ht
              go_wp2_with fail
              go_roundw
              case rel => exact ⟨k + 1, by omega, by go_num, (by repeat (first | assumption | exact Later.refl _ | refine Later.alloc ?_ _ | refine Later.drew ?_ | refine Later.drewN ?_ _ | refine Later.trans ?_ (by assumption))), HN.out⟩
              case measure => simp [intOf]; omega
          · have hfe : (rf != fr) = true := by simp [hf]
            have HN := Lib.hid (HFI.out.trans (firstG_step HBK.out (takes_no (.inl hf))))
            clear hf
            go_wp2_with fail
            go_roundw
            case rel => exact ⟨k + 1, by omega, by go_num, (by repeat (first | assumption | exact Later.refl _ | refine Later.alloc ?_ _ | refine Later.drew ?_ | refine Later.drewN ?_ _ | refine Later.trans ?_ (by assumption))), HN.out⟩
            case measure => simp [intOf]; omega
        · obtain rfl : k = m := by omega
          have hd := decide_none (fr := fr) (tu := tu) (s := S.data.toList) HC.out (by have := HLEN.out; omega) (HFI.out.trans (by
            rw [List.drop_eq_nil_of_le (by rw [List.length_map, HM.out]; exact Nat.le_refl _)]
            rfl))
          rw [HD.out] at hd
          have HDD := Lib.hid hd
          clear hd
          go_wp2_with fail
          refine bodyPost_ret (results_tmp4 rfl _ _ _) rfl ?_
          rw [HDD.out]
          exact ⟨rfl, Later.trans hlc1 hlr⟩
    · have hg : (200 : Int) < S.size := by omega
      have hd := decide_long (fr := fr) (tu := tu) (s := S.data.toList) HC.out (by have := HLEN.out; omega)
      rw [HD.out] at hd
      have HDD := Lib.hid hd
      clear hd
      go_enter Tryz.func18, Tryz.ntmps18
      go_wp2_with (first
        | (go_at_call 20; (with_reducible refine HCK.out.mono ?_); rintro e w1 ⟨rfl, hlc1⟩)
        | fail)
      refine bodyPost_ret (results_tmp4 rfl _ _ _) rfl ?_
      rw [HDD.out]
      exact ⟨rfl, hlc1⟩
  · have hd := decide_bad (fr := fr) (tu := tu) (s := S.data.toList) (by rw [hc]; exact hc0)
    rw [HD.out, hc] at hd
    have HDD := Lib.hid hd
    have hcn : (c != 0) = true := by rw [bne_iff_ne]; exact hc0
    clear hd hc hc0
    go_enter Tryz.func18, Tryz.ntmps18
    go_wp2_with (first
      | (go_at_call 20; (with_reducible refine HCK.out.mono ?_); rintro e w1 ⟨rfl, hlc1⟩)
      | fail)
    refine bodyPost_ret (results_tmp4 rfl _ _ _) rfl ?_
    rw [HDD.out]
    exact ⟨rfl, hlc1⟩
end Go.Proofs.YtjhclopdcbnmkaaGreatDoor

