/- The volume's Stat. -/
import Derived.Test.YtfpbocjmlhcgiaaGreatDoorVgc
set_option linter.unusedSimpArgs false
set_option linter.unusedVariables false
namespace Go.Proofs.YtfpbocjmlhcgiaaGreatDoor
open Go.RowKit PJ Go.Maps Go.WideMaps Go.Shelf
def stE (l : List Ent) (p : List UInt8) : Bool × Nat × Int :=
  if pathB p = false then (false, 0, 171) else match atE l p with
    | none => (false, 0, 172)
    | some x => (x.d, x.s.length + (kidsE l p).length, 0)
attribute [local go_sem] Oper.semAt_some

theorem load_intV (w : World) (g : Nat) (n : Int) (hc : w.cell? ⟨g, 0, none⟩ = some (.int .i64 n)) : (loadVar 3 ⟨g, 0, none⟩).run Tryz.prog w = .ok (.int .i64 n) w := by
  simp [loadVar, isAgg, run_underlying Tryz.underlying3, go_sem, hc]
theorem results_tct {fn : Func} {u p v : Tmp} {ty : TypeId} (h : fn.results = #[.tmp u, .cell p ty, .tmp v]) (tmps : Array Value) (P : Program) (w : World) (g : Nat) (x : Value)
    (hp : tmps.getD p undef = .pointer (some ⟨g, 0, none⟩)) (hl : (loadVar ty ⟨g, 0, none⟩).run P w = .ok x w) :
    (results fn tmps).run P w = .ok (.tuple #[tmps.getD u undef, x, tmps.getD v undef]) w := by
  have hp' : tmps[p]?.getD undef = .pointer (some ⟨g, 0, none⟩) := by simpa using hp
  simp [results, h, hp', asAddr, hl]
theorem st_ask (l : List Ent) (p : List UInt8) (cs : List Chk) (K1 K2 K3 : FuncId) (c1 c2 c3 : Array Value) (hcs : cs = [⟨K1, c1, true, 2⟩, ⟨K2, c2, pathB p, 171⟩, ⟨K3, c3, (atE l p).isSome, 172⟩]) :
    (askE cs ≠ 0 ∧ stE l p = (false, 0, askE cs)) ∨ (askE cs = 0 ∧ ∃ x, atE l p = some x ∧ stE l p = (x.d, x.s.length + (kidsE l p).length, 0)) := by
  subst hcs
  unfold askE stE
  simp only [if_true]
  unfold askE
  cases hp : pathB p with
  | false => left; simp
  | true =>
    simp only [if_true]
    unfold askE
    cases hn : atE l p with
    | none => left; simp
    | some x => right; exact ⟨by simp [askE], x, rfl, by simp⟩
theorem KpS.set {q2 q5 : Nat} {W : World} {u u' : Value} (hb : W.heap[q5]? = some (.cells #[u] 3 (0, 0))) (h25 : q2 ≠ q5) : KpS q2 W (W.setCell ⟨q5, 0, none⟩ u') := by
  have key : ∀ (q : Nat) (o : Obj), q ≠ q5 → W.heap[q]? = some o → (W.setCell ⟨q5, 0, none⟩ u').heap[q]? = some o := fun q o hq e => (Below.heap_setCell _ _ _ q hq).trans e
  refine ⟨fun cs T fr e => key q2 _ h25 e, fun q cs fr e => key q _ (fun hq => ?_) e, by rw [World.size_setCell]; exact Nat.le_refl _⟩
  rw [hq, hb] at e
  injection e with e
  injection e with e1 e2
  exact absurd e2 (by decide)
set_option maxRecDepth 100000 in
set_option maxHeartbeats 8000000 in
theorem vstat_any (w : World) (p b jb vb : Nat) (F : Nat → Prop) (J : Jn) (l : List Ent) (h : VAt w p b jb vb F J l) (P : ByteArray) (hP : P.size < 4294967280) :
    Calls Tryz.prog 40 #[.pointer (some ⟨vb, 0, none⟩), .string P] w fun e w' => e = .returned (.tuple #[.bool (stE l P.data.toList).1, .int .i64 ((stE l P.data.toList).2.1 : Int), .int .i64 (stE l P.data.toList).2.2]) ∧ LJ w w' := by
  obtain ⟨mb, hvc⟩ := h.vc
  have hinv := h.vj.inv
  have hcnt := h.vj.count
  obtain ⟨pl, hpl⟩ : ∃ x, P.data.toList = x := ⟨_, rfl⟩
  have HVC := Lib.hid hvc
  have HLV := Lib.hid (fun W (hW : LJ w W) => vlives_any W vb jb mb l (HVC.out.later hW))
  have HMY := Lib.hid (fun W (q : Nat) (hW : LJ w W) (hb : W.heap[q]? = some (.cells #[.string P] 9 (0, 0))) => show Calls Tryz.prog 92 #[.pointer (some ⟨vb, 0, none⟩), .slice (some ⟨q, 0, none⟩) 1 1] W (MadeC W (pathB pl) 171) from by
    have h1 := vmay_any W vb q 1 1 [P] rfl (by simp) (by intro x hx; rw [List.mem_singleton.1 hx]; omega) (fun j x hj => by
      match j, hj with
      | 0, hj =>
        obtain rfl : P = x := by simpa using hj
        exact cell_blk hb 0)
    rw [show ([P].all fun x => pathB x.data.toList) = pathB pl from by simp [hpl]] at h1
    exact h1)
  have HIS := Lib.hid (fun W (hW : LJ w W) => vis_any W vb jb mb l P pl hpl (by omega) (HVC.out.later hW))
  obtain ⟨x, hx⟩ : ∃ x, (atE l pl).getD zeroE = x := ⟨_, rfl⟩
  obtain ⟨ok, hok⟩ : ∃ b, (atE l pl).isSome = b := ⟨_, rfl⟩
  obtain ⟨XP, hXP⟩ : ∃ P : ByteArray, (⟨x.p.toArray⟩ : ByteArray) = P := ⟨_, rfl⟩
  obtain ⟨XD, hXD⟩ : ∃ D : ByteArray, (⟨x.s.toArray⟩ : ByteArray) = D := ⟨_, rfl⟩
  have hXDs : XD.size = x.s.length := by rw [← hXD]; show x.s.toArray.size = _; rw [List.size_toArray]
  have hval : x.val = .agg #[.string XP, .bool x.d, .string XD] := by rw [← hXP, ← hXD]; rfl
  have hx24 : x.s.length ≤ 1024 := by
    rw [← hx]
    cases hn : atE l pl with
    | none => simp [zeroE]
    | some y =>
      rcases atE_some hn with ⟨-, e⟩ | ⟨-, hm, -⟩
      · rw [e]; simp [rootE]
      · exact hinv.file y hm
  obtain ⟨xd, hxd⟩ : ∃ b, x.d = b := ⟨_, rfl⟩
  rw [hxd] at hval
  have HAT := Lib.hid (fun W (hW : LJ w W) => show Calls Tryz.prog 97 #[.pointer (some ⟨vb, 0, none⟩), .string P] W fun e w' => e = .returned (.tuple #[.agg #[.string XP, .bool xd, .string XD], .bool ok]) ∧ LJ W w' from by
    have hat := vat_any W vb mb jb l P pl hpl (by omega) (HVC.out.later hW).blk (HVC.out.later hW).map
    rw [hx, hok, hval] at hat
    exact hat)
  have HMK := Lib.hid (fun cs K1 K2 K3 c1 c2 c3 hcs => st_ask l pl cs K1 K2 K3 c1 c2 c3 hcs)
  obtain ⟨B2, hB2⟩ : ∃ b, pathB pl = b := ⟨_, rfl⟩
  rw [hB2, hok] at HMK
  rw [hB2] at HMY
  rw [hok] at HIS
  obtain ⟨RL, hRL⟩ : ∃ r, stE l pl = r := ⟨_, rfl⟩
  rw [hpl, hRL]
  rw [hRL] at HMK
  have HI := Lib.hid (And.intro hinv hcnt)
  have HPL := Lib.hid hpl
  have HX := Lib.hid (And.intro hx (And.intro hXDs (And.intro hx24 hxd)))
  have HVIN := Lib.hid (fun W => vin_any W vb P)
  obtain ⟨w1, hw1⟩ : ∃ w1, w.alloc (.cells #[.int .i64 0] 3) = w1 := ⟨_, rfl⟩
  obtain ⟨q5, hq5⟩ : ∃ q, w.heap.size = q := ⟨_, rfl⟩
  have HB5 := Lib.hid (show w1.heap[q5]? = some (.cells #[.int .i64 0] 3 (0, 0)) from by rw [← hw1, ← hq5]; exact alloc_blk w _)
  have HL1 := Lib.hid (show LJ w w1 from by rw [← hw1]; exact (LJ.refl w).alloc _)
  have HW1 := Lib.hid hw1
  have HQ5 := Lib.hid hq5
  clear h hvc hinv hcnt hB2 hok hRL hpl hx hXP hXD hXDs hval hx24 hxd hw1 hq5
  refine (callsIn_wide (n := 9)).1 ?_
  refine callsIn_of_wp_marks Tryz.func40 rfl trivial ?_ rfl
  simp only [Tryz.ntmps40, List.size_toArray, List.length_cons, List.length_nil, Nat.reduceAdd, Nat.reduceSub, Array.replicate_succ, Array.replicate_zero, List.push_toArray, List.append_toArray, List.nil_append, List.cons_append]
  refine wpIn_wide.2 ?_
  go_upto_region 1 with fail
  rw [HW1.out, HQ5.out]
  go_upto_region 2 with (first
    | (go_at_call 91; (with_reducible refine (HLV.out _ HL1.out).mono ?_); rintro e wa ⟨K1, c1, rfl, hk, hx⟩; have HKA := Lib.hid hk; have HLA := Lib.hid (HL1.out.trans hx); have HBA := Lib.hid (hx.block HB5.out); have HWB := Lib.hid (HLA.out.alloc (.cells #[.string P] 9)); clear hk hx)
    | (go_at_call 92; (with_reducible refine (HMY.out _ _ HWB.out (alloc_blk _ _)).mono ?_); rintro e wb ⟨K2, c2, rfl, hk, hx⟩; have HKB := Lib.hid hk; have HKA := Lib.hid (HKA.out.later (((LJ.refl wa).alloc (.cells #[.string P] 9)).trans hx)); have HBB := Lib.hid ((((LJ.refl wa).alloc (.cells #[.string P] 9)).trans hx).block HBA.out); have HLB := Lib.hid (HWB.out.trans hx); clear hk hx)
    | (go_at_call 93; (with_reducible refine (HIS.out _ HLB.out).mono ?_); rintro e we ⟨K3, c3, rfl, hk, hx⟩; have HLE := Lib.hid (HLB.out.trans hx); have HBE := Lib.hid (hx.block HBB.out); have HKE := Lib.hid hk; have HKA := Lib.hid (HKA.out.later hx); have HKB := Lib.hid (HKB.out.later hx); have HLC4 := Lib.hid (HLE.out.alloc (.cells #[.func (.func K1) #[] c1, .int .i64 2, .func (.func K2) #[] c2, .int .i64 171, .func (.func K3) #[] c3, .int .i64 172] 146)); have HASK := Lib.hid (asked_any (we.alloc (.cells #[.func (.func K1) #[] c1, .int .i64 2, .func (.func K2) #[] c2, .int .i64 171, .func (.func K3) #[] c3, .int .i64 172] 146)) [⟨K1, c1, true, 2⟩, ⟨K2, c2, B2, 171⟩, ⟨K3, c3, ok, 172⟩] we.heap.size 3 3 rfl (by omega) (fun j c hj => chk_at (alloc_blk we (.cells #[.func (.func K1) #[] c1, .int .i64 2, .func (.func K2) #[] c2, .int .i64 171, .func (.func K3) #[] c3, .int .i64 172] 146)) j c hj) (by intro c hc; simp only [List.mem_cons, List.not_mem_nil, or_false] at hc; have hl := (LJ.refl we).alloc (.cells #[.func (.func K1) #[] c1, .int .i64 2, .func (.func K2) #[] c2, .int .i64 171, .func (.func K3) #[] c3, .int .i64 172] 146); rcases hc with rfl | rfl | rfl; exact HKA.out.later hl; exact HKB.out.later hl; exact HKE.out.later hl)); clear hk hx)
    | (go_at_call 90; (with_reducible refine HASK.out.mono ?_); rintro e wc ⟨rfl, hx⟩; have HLC := Lib.hid (HLC4.out.trans hx); have HBC := Lib.hid ((((LJ.refl we).alloc (.cells #[.func (.func K1) #[] c1, .int .i64 2, .func (.func K2) #[] c2, .int .i64 171, .func (.func K3) #[] c3, .int .i64 172] 146)).trans hx).block HBE.out); clear hx)
    | fail)
  have hmk := HMK.out [⟨K1, c1, true, 2⟩, ⟨K2, c2, B2, 171⟩, ⟨K3, c3, ok, 172⟩] K1 K2 K3 c1 c2 c3 rfl
  obtain ⟨E, hE⟩ : ∃ E, askE [⟨K1, c1, true, 2⟩, ⟨K2, c2, B2, 171⟩, ⟨K3, c3, ok, 172⟩] = E := ⟨_, rfl⟩
  rw [hE] at hmk ⊢
  clear hE
  have c5 : wc.cell? ⟨q5, 0, none⟩ = some (.int .i64 0) := cell_blk HBC.out 0
  have f5 := free_blk HBC.out 0
  have hlset : ∀ u, LJ w (wc.setCell ⟨q5, 0, none⟩ u) := fun u => lj_onlyV HLC.out (setCell_only _ _ _ _) (fun k hk => by rw [show k = q5 from hk]; have := HQ5.out; omega)
  rcases hmk with ⟨hne, hm⟩ | ⟨h0, y, hy, hm⟩
  · have HM := Lib.hid hm
    have hneb : (E != 0) = true := by simpa using hne
    have HLS := Lib.hid (hlset (.int .i64 0))
    have HCS := Lib.hid (cell_blk (heap_setCell_same wc q5 0 _ _ (.int .i64 0) HBC.out) 0)
    clear hm hlset
    go_wp2_with fail
    refine ⟨_, results_tct rfl _ _ _ q5 (.int .i64 0) rfl (load_intV _ _ _ HCS.out), ?_, HLS.out⟩
    rw [HM.out]
    rfl
  · subst h0
    have HM := Lib.hid hm
    have HY := Lib.hid hy
    have HLSET := Lib.hid hlset
    have HAT2 := Lib.hid (HAT.out wc HLC.out)
    clear hm hlset hy
    go_upto_region 5 with (first
      | (go_at_call 97; (with_reducible refine HAT2.out.mono ?_); rintro e wd ⟨rfl, hl⟩; have HLD := Lib.hid hl; clear hl)
      | fail)
    obtain ⟨w3, hw3⟩ : ∃ w3, wd.alloc (.cells #[.string XP, .bool xd, .string XD] 74) = w3 := ⟨_, rfl⟩
    obtain ⟨q8, hq8⟩ : ∃ q, wd.heap.size = q := ⟨_, rfl⟩
    have HB8 := Lib.hid (show w3.heap[q8]? = some (.cells #[.string XP, .bool xd, .string XD] 74 (0, 0)) from by rw [← hw3, ← hq8]; exact alloc_blk wd _)
    have HL3 := Lib.hid (show LJ wc w3 from by rw [← hw3]; exact HLD.out.alloc _)
    have HB53 := Lib.hid (HL3.out.block HBC.out)
    have c53 : w3.cell? ⟨q5, 0, none⟩ = some (.int .i64 0) := cell_blk HB53.out 0
    have f53 := free_blk HB53.out 0
    have z2 : w3.cell? ⟨q8, 2, none⟩ = some (.string XD) := cell_blk HB8.out 2
    rw [hw3, hq8]
    clear hw3 hq8 c5 f5
    obtain ⟨w4, hw4⟩ : ∃ w4, w3.setCell ⟨q5, 0, none⟩ (.int .i64 (XD.size : Int)) = w4 := ⟨_, rfl⟩
    have h58 : q8 ≠ q5 := by
      intro e
      have h1 := HB8.out
      rw [e, HB53.out] at h1
      injection h1 with h1
      injection h1 with h1 h2
      exact absurd h2 (by decide)
    have HB54 := Lib.hid (show w4.heap[q5]? = some (.cells #[.int .i64 (XD.size : Int)] 3 (0, 0)) from by rw [← hw4]; exact heap_setCell_same w3 q5 0 _ _ (.int .i64 (XD.size : Int)) HB53.out)
    have HB84 := Lib.hid (show w4.heap[q8]? = some (.cells #[.string XP, .bool xd, .string XD] 74 (0, 0)) from by rw [← hw4]; exact (heap_setCell_other w3 ⟨q5, 0, none⟩ q8 _ h58).trans HB8.out)
    have HL4 := Lib.hid (show LJ w w4 from by rw [← hw4]; exact lj_onlyV (HLC.out.trans HL3.out) (setCell_only _ _ _ _) (fun k hk => by rw [show k = q5 from hk]; have := HQ5.out; omega))
    have HW4 := Lib.hid hw4
    clear hw4
    go_upto_region 6 with fail
    rw [HW4.out]
    clear c53 f53 z2
    go_wp2_with (first
      | (go_at_call 105; (with_reducible refine (HVIN.out w4).mono ?_); rintro e w6 ⟨q1, q2, rfl, hb1, hb2, hl3⟩; have HQ := Lib.hid (And.intro hb1 (And.intro hb2 hl3)); clear hb1 hb2 hl3)
      | fail)
    refine (wpIn_wide (n := 9)).1 ?_
    obtain ⟨hb1, hb2, hl3⟩ := HQ.out
    have HB56 := Lib.hid (hl3.block HB54.out)
    have HB86 := Lib.hid (hl3.block HB84.out)
    have HL6 := Lib.hid (HL4.out.trans hl3)
    have h25 : q2 ≠ q5 := by
      intro e
      rw [e, HB56.out] at hb2
      injection hb2 with hb2
      injection hb2 with hb2 hb3
      exact absurd hb3 (by decide)
    have hszl : w.heap.size ≤ w6.heap.size := Below.size HL6.out
    have hsz5 : q5 < w6.heap.size := lt_blk HB56.out
    have HI9 := Lib.hid hszl
    obtain ⟨x1, x2, x3, x4⟩ := HX.out
    have HD24 := Lib.hid (show XD.size ≤ 1024 from by omega)
    refine wpIn_rangeFunc_ownF rfl (by omega) (gf := 159) (lb := #[.pointer (some ⟨q1, 0, none⟩), .pointer (some ⟨q2, 0, none⟩)]) rfl trivial (enters_of Tryz.func159 (by kernel_rfl) rfl)
      (vin_stopsM 8 (by omega) q1 q2 vb jb mb l P HI.out.1 (by have := HI.out.2; omega) w6 hb1 hb2 (HVC.out.later HL6.out)) KpS.trans (fun W l' o o' _ h hc _ => KpS.put W l' o o' h hc) (Below.refl _ _) (fun _ => rfl)
      (fun (pre : List {x : Ent // x ∈ l}) W => (Boxed W q5 3 (.int .i64 ((XD.size + pre.length : Nat) : Int)) ∧ W.heap[q8]? = some (.cells #[.string XP, .bool xd, .string XD] 74 (0, 0))) ∧ Below w.heap.size w W)
      (fun _ _ _ => False)
      (OwnFrom.and (Own.from (fun s X Y row hs hg hr => ⟨boxed_own q5 3 (fun (_ : Unit) => Value.int .i64 ((XD.size + s.length : Nat) : Int)) () X Y row hs.1 hg hr, (hg.block q8 (lt_blk hs.2) (fun e' => by obtain ⟨o, ho, hc⟩ := hr q8 e'.symm; rw [hs.2] at ho; cases ho; cases hc)).trans hs.2⟩) _) (ownFrom_below (Nat.le_refl _) hszl))
      (fun _ _ _ _ _ hs _ _ => hs)
      ⟨⟨HB56.out, HB86.out⟩, HL6.out⟩
      (fun x => { tmps := #[.pointer (some ⟨vb, 0, none⟩), .string P, undef, undef, .bool false, .pointer (some ⟨q5, 0, none⟩), .int .i64 0, .int .i64 0, .pointer (some ⟨q8, 0, none⟩), .bool ok, .pointer (some ⟨vb, 0, none⟩), .agg #[.func (.func K1) #[] c1, .int .i64 2], .pointer (some ⟨vb, 0, none⟩), .string P, .slice (some ⟨wa.heap.size, 0, none⟩) 1 1, .agg #[.func (.func K2) #[] c2, .int .i64 171], .pointer (some ⟨vb, 0, none⟩), .string P, .agg #[.func (.func K3) #[] c3, .int .i64 172], .slice (some ⟨we.heap.size, 0, none⟩) 3 3, .int .i64 0, .int .i64 0, .bool false, undef, .tuple #[.agg #[.string XP, .bool xd, .string XD], .bool ok], .pointer (some ⟨vb, 0, none⟩), .string P, .tuple #[.agg #[.string XP, .bool xd, .string XD], .bool ok], .agg #[.string XP, .bool xd, .string XD], .bool ok, .pointer (some ⟨q8, 2, none⟩), .string XD, .int .i64 (XD.size : Int), .pointer (some ⟨vb, 0, none⟩), .string P, .func (.func 159) #[] #[.pointer (some ⟨q1, 0, none⟩), .pointer (some ⟨q2, 0, none⟩)], x.1.val, undef, undef, undef, undef, undef], defers := [] })
      ?assign ?body ?done ?stop
    case assign =>
      intro l' x W K hK
      clear x1 x2 x3 x4
      simp only [fold1]
      gi_wp2
      exact hK
    case body =>
      rintro l' pre x W ⟨⟨hb, hb8⟩, hB⟩ hlt
      have hcx := HI.out.2
      have hd24 := HD24.out
      have cb := hb.cell
      have fb := hb.frozen
      obtain ⟨m, hm⟩ : ∃ m, XD.size + pre.length = m := ⟨_, rfl⟩
      rw [hm] at hb cb
      have hwr : IntKind.i64.wrap ((m : Int) + 1) = ((m + 1 : Nat) : Int) := by rw [IntKind.wrap_i64]; omega
      have h5ge : w.heap.size ≤ q5 := by have := HQ5.out; omega
      have HOUT := Lib.hid (show KeepsOthers W (W.setCell ⟨q5, 0, none⟩ (.int .i64 ((m + 1 : Nat) : Int))) ∧ KpS q2 W (W.setCell ⟨q5, 0, none⟩ (.int .i64 ((m + 1 : Nat) : Int))) ∧ ((Boxed (W.setCell ⟨q5, 0, none⟩ (.int .i64 ((m + 1 : Nat) : Int))) q5 3 (.int .i64 ((XD.size + (pre ++ [x]).length : Nat) : Int)) ∧ (W.setCell ⟨q5, 0, none⟩ (.int .i64 ((m + 1 : Nat) : Int))).heap[q8]? = some (.cells #[.string XP, .bool xd, .string XD] 74 (0, 0))) ∧ Below w.heap.size w (W.setCell ⟨q5, 0, none⟩ (.int .i64 ((m + 1 : Nat) : Int)))) from by
        refine ⟨KeepsOthers.setCell _ _ _, KpS.set hb h25, ⟨?_, (Below.heap_setCell _ _ _ q8 h58).trans hb8⟩, hB.setCell (p := ⟨q5, 0, none⟩) h5ge _⟩
        rw [show XD.size + (pre ++ [x]).length = m + 1 from by rw [List.length_append]; simp only [List.length_cons, List.length_nil]; omega]
        exact hb.set _)
      clear hb hb8 hB hlt hm hcx hd24 x1 x2 x3 x4
      dsimp only
      gi_wp2_with fail
      exact HOUT.out
    case done =>
      rintro D ys W hD hys ⟨⟨hb, hb8⟩, hB⟩ hK
      have cb := hb.cell
      have fb := hb.frozen
      have z1 : W.cell? ⟨q8, 1, none⟩ = some (.bool xd) := cell_blk hb8 1
      have hlen : ys.length = (kidsE l pl).length := by
        have h1 : ys.map (·.1) = kidsE l P.data.toList := hys
        rw [HPL.out] at h1
        rw [← h1, List.length_map]
      obtain ⟨m, hm⟩ : ∃ m, XD.size + ys.length = m := ⟨_, rfl⟩
      rw [hm] at hb cb
      have h5ge : w.heap.size ≤ q5 := by have := HQ5.out; omega
      have HRL := Lib.hid (show RL = (xd, m, 0) from by
        have hy := HY.out
        rw [hy] at x1
        have e : y = x := x1
        rw [HM.out, e, ← hm, hlen, x2, x4])
      obtain ⟨W9, hW9⟩ : ∃ W9, (W.setCell ⟨q5, 0, none⟩ (.int .i64 (m : Int))).drew = W9 := ⟨_, rfl⟩
      have hk9 : W9.heap[D]? = some (.deferred (some [])) := by rw [← hW9]; exact (Below.heap_setCell _ _ _ D (show D ≠ q5 by omega)).trans hK
      have hb9 : Boxed W9 q5 3 (.int .i64 (m : Int)) := by rw [← hW9]; exact Boxed.set (W := W) _ hb
      have hl9 : Below w.heap.size w W9 := by rw [← hW9]; exact (hB.setCell (p := ⟨q5, 0, none⟩) h5ge _).drew
      have HF9 := Lib.hid (And.intro hk9 (And.intro hb9 hl9))
      have HW9 := Lib.hid hW9
      have HDW := Lib.hid (show w.heap.size ≤ D from by omega)
      have hmix : Tryz.prog.follows .mixedOrders = true := by kernel_rfl
      have cbd : W.drew.cell? ⟨q5, 0, none⟩ = some (.int .i64 (m : Int)) := cb
      have fbd : W.drew.frozen? ⟨q5, 0, none⟩ = false := fb
      have z1d : W.drew.cell? ⟨q8, 1, none⟩ = some (.bool xd) := z1
      clear hW9 hb hb8 hm hlen hB hk9 hb9 hl9
      go_wp2_with fail
      go_region
      go_wp2_with fail
      first
        | rw [HW9.out]
        | (change bodyPostM _ _ _ _ _ _ _ ((W.setCell ⟨q5, 0, none⟩ (.int .i64 (m : Int))).drew); rw [HW9.out])
      obtain ⟨hk9, hb9, hl9⟩ := HF9.out
      refine ⟨by simp, .inl ⟨_, _, rfl, run_takeDeferred hk9, ?_⟩⟩
      have hc9 := cell_kept hb9.cell (grownBy_putObj' _ D (.deferred none)) (fun r e => by cases e; exact ⟨_, hk9, rfl⟩)
      refine ⟨_, results_tct rfl _ _ _ q5 (.int .i64 (m : Int)) rfl (load_intV _ _ _ hc9), ?_, hl9.trans (belowK_b (w := w) (Nat.le_refl _) W9 D _ _ HDW.out hk9 rfl rfl)⟩
      rw [HRL.out]
      rfl
    case stop =>
      rintro D c pre W _ _ h _
      exact h.elim
end Go.Proofs.YtfpbocjmlhcgiaaGreatDoor
