/- Vgc, merged: VM31 VM32 VM33. -/
import Derived.Test.YtfpbocjmlhcgiaaGreatDoorVgb
import Derived.RangeFuncNested
import Derived.Maps.AppendAt
set_option linter.unusedSimpArgs false
set_option linter.unusedVariables false
/- The volume's List. -/
namespace Go.Proofs.YtfpbocjmlhcgiaaGreatDoor
open Go.RowKit PJ Go.Maps Go.WideMaps Go.Shelf
attribute [local go_sem] Oper.semAt_some

/-- A slice of strings, read. -/
def SLs (w : World) (v : Value) (xs : List (List UInt8)) : Prop := (v = .slice none 0 0 ∧ xs = []) ∨ ∃ g c, v = .slice (some ⟨g, 0, none⟩) xs.length c ∧ ∀ j s, xs[j]? = some s → w.cell? ⟨g, j, none⟩ = some (.string ⟨s.toArray⟩)
theorem SLs.own {w : World} {B : Nat} {v : Value} {n : Nat} {xs : List (List UInt8)} (h : w.ownsRow B 9 1 v n (xs.map fun s => Value.string ⟨s.toArray⟩)) (hn : n = xs.length) : SLs w v xs := by
  subst hn
  rcases h.2 with ⟨e, h0⟩ | ⟨g, cap, cur, e, hb, hg, h1, h2, h3, h4⟩
  · exact .inl ⟨e, List.eq_nil_of_length_eq_zero h0⟩
  · refine .inr ⟨g, cap, e, fun j s hj => ?_⟩
    have h5 := World.ownsRow.cells (g := g) h (by rw [e]; rfl) j (.string ⟨s.toArray⟩) (by rw [List.getElem?_map, hj]; rfl)
    cases j with
    | zero => simpa [Addr.add] using h5
    | succ j => simpa [Addr.add] using h5
theorem vclip_any (w : World) (v : Value) (n c : Nat) (h : (∃ g, v = .slice (some ⟨g, 0, none⟩) n c) ∨ (v = .slice none 0 0 ∧ n = 0 ∧ c = 0)) (hc : n ≤ c) :
    Calls Tryz.prog 108 #[v] w fun e w' => e = .returned (match v with | .slice a n _ => .slice a n n | x => x) ∧ w' = w := by
  rcases h with ⟨g, rfl⟩ | ⟨rfl, rfl, rfl⟩
  · have h1 : (n : Int) ≤ (c : Int) := by omega
    go_enter Tryz.func108, Tryz.ntmps108
    go_wp2_with fail
    go_ret
    exact ⟨rfl, rfl⟩
  · go_enter Tryz.func108, Tryz.ntmps108
    go_wp2_with fail
    go_ret
    exact ⟨rfl, rfl⟩
/-- What an append to a box keeps of entries and of the iterator's box. -/
theorem KpS.app {q2 q7 B : Nat} {W w1 : World} {tmp : Obj} {v v' : Value} {n : Nat} {xs : List Value} (hrow : W.ownsRow B 9 1 v n xs) (h2 : q2 < B) (hg : (W.alloc tmp).grownBy w1 v.ownBlock) (hb : W.heap[q7]? = some (.cells #[v] 24 (0, 0))) (h27 : q2 ≠ q7) : KpS q2 W (w1.setCell ⟨q7, 0, none⟩ v') := by
  have key : ∀ (q : Nat) (cs : Array Value) (T : TypeId) (fr : Nat × Nat), q ≠ q7 → (q < B ∨ T ≠ 9) → W.heap[q]? = some (Obj.cells cs T fr) → (w1.setCell ⟨q7, 0, none⟩ v').heap[q]? = some (Obj.cells cs T fr) := by
    intro q cs T fr hq hT e
    have hlt := lt_blk e
    have h1 : (W.alloc tmp).heap[q]? = some (Obj.cells cs T fr) := by rw [Below.heap_alloc _ _ _ hlt]; exact e
    have h3 : some q ≠ v.ownBlock := by
      intro hc
      rcases hrow.2 with ⟨rfl, _⟩ | ⟨g, cap, cur, rfl, hbg, hgg, _⟩
      · simp [Value.ownBlock] at hc
      · have hqg : q = g := by simpa [Value.ownBlock] using hc
        rw [hqg, hgg] at e
        injection e with e
        injection e with e1 e2 e3
        rcases hT with h | h
        · omega
        · exact h e2.symm
    rw [Below.heap_setCell _ _ _ q hq]
    exact (hg.block q (by rw [World.size_alloc]; omega) h3).trans h1
  refine ⟨fun cs T fr e => key q2 cs T fr h27 (.inl h2) e, fun q cs fr e => key q cs 74 fr (fun hq => ?_) (.inr (by decide)) e, ?_⟩
  · rw [hq, hb] at e
    injection e with e
    injection e with e1 e2
    exact absurd e2 (by decide)
  · have := hg.size
    rw [World.size_alloc] at this
    rw [World.size_setCell]
    omega
theorem own_lower {w : World} {B B' : Nat} {T : TypeId} {s : Nat} {v : Value} {n : Nat} {xs : List Value} (h : w.ownsRow B T s v n xs) (hb : B' ≤ B) : w.ownsRow B' T s v n xs := by
  rcases h with ⟨h0, h | ⟨g, cap, cur, e, h1, h2⟩⟩
  · exact ⟨h0, .inl h⟩
  · exact ⟨h0, .inr ⟨g, cap, cur, e, by omega, h2⟩⟩
theorem ls_ask (l : List Ent) (p : List UInt8) (cs : List Chk) (K1 K2 K3 K4 : FuncId) (c1 c2 c3 c4 : Array Value) (hcs : cs = [⟨K1, c1, true, 2⟩, ⟨K2, c2, pathB p, 171⟩, ⟨K3, c3, (atE l p).isSome, 172⟩, ⟨K4, c4, ((atE l p).getD zeroE).d, 174⟩]) :
    (askE cs ≠ 0 ∧ lsE l p = ([], askE cs)) ∨ (askE cs = 0 ∧ lsE l p = ((kidsE l p).map fun y => lastN y.p, 0)) := by
  subst hcs
  unfold askE lsE
  simp only [if_true]
  unfold askE
  cases hp : pathB p with
  | false => left; simp
  | true =>
    simp only [if_true]
    unfold askE
    cases hn : atE l p with
    | none => left; simp
    | some x =>
      simp only [Option.isSome_some, if_true, Option.getD_some]
      unfold askE
      cases hd : x.d with
      | false => left; simp
      | true => right; simp [askE]
theorem info_strV : (Tryz.prog.info? 9).map (fun i => (i.zero, i.size, i.bytes)) = some (some (.string ⟨#[]⟩), 1, 16) := by kernel_rfl
theorem last_arms (p : List UInt8) (PX : ByteArray) (hp : PX.data.toList = p) (hs : PX.size < 4611686018427387904) (hne : 1 ≤ p.length) : ∃ (L : Int) (m : Nat), lastS p = L ∧ IntKind.i64.wrap (L + 1) = (m : Int) ∧ m ≤ PX.size ∧ PX.extract m PX.size = ⟨(lastN p).toArray⟩ ∧ ∀ W, Calls Tryz.prog 107 #[.string PX, .int .u8 47] W fun e w' => e = .returned (.int .i64 L) ∧ w' = W := by
  have hl : p.length = PX.size := by rw [← hp, Array.length_toList]; rfl
  have hb := lastS_bd p
  obtain ⟨L, hL⟩ : ∃ L, lastS p = L := ⟨_, rfl⟩
  have HLI := fun W => show Calls Tryz.prog 107 #[.string PX, .int .u8 47] W fun e w' => e = .returned (.int .i64 L) ∧ w' = W from by
    have h := Any.strings_LastIndexByte Tryz.lays149 PX 47 hs W
    rw [lastI_eq, hp, hL] at h
    exact h
  rw [hL] at hb
  have hb' : -1 ≤ L ∧ L < (p.length : Int) := by
    rcases hb with hb | ⟨hb, hb2⟩
    · omega
    · exact absurd hb (by intro e; rw [e] at hne; simp at hne)
  refine ⟨L, (L + 1).toNat, hL, ?_, by omega, ?_, HLI⟩
  · rw [IntKind.wrap_i64]; omega
  · apply ByteArray.ext
    apply Array.toList_inj.1
    rw [ex_list, hp]
    show _ = lastN p
    unfold lastN
    rw [hL]
    exact List.take_of_length_le (by rw [List.length_drop]; omega)
end Go.Proofs.YtfpbocjmlhcgiaaGreatDoor
/- The volume's List. -/
namespace Go.Proofs.YtfpbocjmlhcgiaaGreatDoor
open Go.RowKit PJ Go.Maps Go.WideMaps Go.Shelf
attribute [local go_sem] Oper.semAt_some

def clipV : Value → Value
  | .slice a n _ => .slice a n n
  | x => x
theorem SLs.clip {w : World} {v : Value} {xs : List (List UInt8)} (h : SLs w v xs) : SLs w (clipV v) xs := by
  rcases h with ⟨rfl, rfl⟩ | ⟨g, c, rfl, h⟩
  · exact .inl ⟨rfl, rfl⟩
  · exact .inr ⟨g, _, rfl, h⟩
/-- No operation of the region is a defer statement: it is carried out in a round as everywhere. -/
def noDefer (ops : Array Oper) : Bool := ops.toList.all fun o => match o.op with | .defer _ => false | _ => true
theorem oper_unround {F : Fence} {n : Nat} {P : Program} {o : Oper} {a : Act} {w : World} {K : Act → World → Prop} {Q : Exit → Act → World → Prop} (l : Nat) (hd : ∀ c, o.op ≠ .defer c) (h : o.wpIn F n P a w K Q) : o.wpIn (F.inRound l) n P a w K Q := by
  unfold Oper.wpIn at *
  refine ⟨h.1, ?_⟩
  have h2 := h.2
  rw [Oper.semAt_plain _ _ _ hd] at h2 ⊢
  generalize (execOp a.eval o).run P w = r at *
  cases r with
  | ok x w' => cases x <;> exact h2
  | halt x w' => cases x <;> exact h2
theorem any_unround {F : Fence} {n : Nat} {P : Program} {md : Region.Mode} {ops : Array Oper} {Q : Exit → Act → World → Prop} (l : Nat) (hd : noDefer ops = true) : ∀ (fuel : Nat) (listed : Array Bool) (a : Act) (w : World), wpAnyIn F n P md ops Q fuel listed a w → wpAnyIn (F.inRound l) n P md ops Q fuel listed a w := by
  intro fuel
  induction fuel with
  | zero => exact fun _ _ _ h => h
  | succ fuel ih =>
    intro listed a w h
    refine ⟨h.1, fun i hi => ?_⟩
    have h2 := wpOpIn_mono (K' := wpAnyIn (F.inRound l) n P md ops Q fuel (listed.setIfInBounds i true)) (fun a w h => ih _ a w h) (h.2 i hi)
    unfold wpOpIn at h2 ⊢
    cases ho : ops[i]? with
    | none => rw [ho] at h2; exact h2
    | some o =>
      rw [ho] at h2
      have hm : o ∈ ops.toList := by
        rw [← Array.getElem?_toList] at ho
        exact List.mem_of_getElem? ho
      have hno := List.all_eq_true.1 hd o hm
      have hno' : ∀ c, o.op ≠ .defer c := fun c e => by rw [e] at hno; exact Bool.noConfusion hno
      dsimp only at h2 ⊢
      split
      · rename_i hw
        rw [if_pos hw] at h2
        exact oper_unround l hno' h2
      · rename_i hw
        rw [if_neg hw] at h2
        exact h2
theorem wpIn_append_run {F : Fence} {n : Nat} {P : Program} {w : World} {o : Oper} {a : Act} {K : Act → World → Prop} {Q : Exit → Act → World → Prop} (s x : Operand) (t : TypeId) (hop : o.op = Op.call { callee := Callee.builtin Builtin.append, args := #[s, x], argTypes := #[t, t] })
    (v u v' : Value) (w' : World) (hs : a.eval s = v) (hx : a.eval x = u) (hrun : (Builtin.append_ #[t, t] o.type #[v, u]).run P w = .ok v' w') (h : K (a.put o.dst v') w') : o.wpIn F n P a w K Q := by
  unfold Oper.wpIn
  refine ⟨?_, ?_⟩
  · simp [Oper.about, hop, resolve, Target.leads, Sem.run_pure]
  · rw [Oper.semAt_plain F _ _ (by rw [hop]; intro c hc'; cases hc')]
    simp [execOp, hop, resolve, invoke, builtin, hs, hx, hrun, Result.andThen]
    exact h
theorem fold1 (t : Array Value) (p : Tmp) (v : Value) : (Array.zip #[p] #[v]).foldl (fun t (x : Tmp × Value) => t.setIfInBounds x.1 x.2) t = t.setIfInBounds p v := by simp
set_option maxRecDepth 100000 in
set_option maxHeartbeats 8000000 in
theorem vlist_any (w : World) (p b jb vb : Nat) (F : Nat → Prop) (J : Jn) (l : List Ent) (h : VAt w p b jb vb F J l) (P : ByteArray) (hP : P.size < 4294967280) :
    Calls Tryz.prog 43 #[.pointer (some ⟨vb, 0, none⟩), .string P] w fun e w' => ∃ v, e = .returned (.tuple #[v, .int .i64 (lsE l P.data.toList).2]) ∧ SLs w' v (lsE l P.data.toList).1 ∧ LJ w w' := by
  obtain ⟨mb, hvc⟩ := h.vc
  have hinv := h.vj.inv
  have hcnt := h.vj.count
  obtain ⟨pl, hpl⟩ : ∃ x, P.data.toList = x := ⟨_, rfl⟩
  have HVC := Lib.hid hvc
  have HLV := Lib.hid (fun W (hW : LJ w W) => vlives_any W vb jb mb l (HVC.out.later hW))
  have HMY := Lib.hid (fun W (q : Nat) (hW : LJ w W) (hb : W.heap[q]? = some (.cells #[.string P] 9 (0, 0))) => show Calls Tryz.prog 92 #[.pointer (some ⟨vb, 0, none⟩), .slice (some ⟨q, 0, none⟩) 1 1] W (MadeC W (pathB pl) 171) from by
    have h1 := vmay_any W vb q 1 1 [P] rfl (by simp) (by intro x hx; rw [List.mem_singleton.1 hx]; omega) (fun j x hj => by
      match j, hj with
      | 0, hj =>
        obtain rfl : P = x := by simpa using hj
        exact cell_blk hb 0)
    rw [show ([P].all fun x => pathB x.data.toList) = pathB pl from by simp [hpl]] at h1
    exact h1)
  have HIS := Lib.hid (fun W (hW : LJ w W) => vis_any W vb jb mb l P pl hpl (by omega) (HVC.out.later hW))
  have HDI := Lib.hid (fun W (hW : LJ w W) => vdir_any W vb jb mb l P pl hpl (by omega) (HVC.out.later hW))
  have HMK := Lib.hid (fun cs K1 K2 K3 K4 c1 c2 c3 c4 hcs => ls_ask l pl cs K1 K2 K3 K4 c1 c2 c3 c4 hcs)
  obtain ⟨B2, hB2⟩ : ∃ b, pathB pl = b := ⟨_, rfl⟩
  obtain ⟨B3, hB3⟩ : ∃ b, (atE l pl).isSome = b := ⟨_, rfl⟩
  obtain ⟨B4, hB4⟩ : ∃ b, ((atE l pl).getD zeroE).d = b := ⟨_, rfl⟩
  rw [hB2, hB3, hB4] at HMK
  rw [hB2] at HMY
  rw [hB3] at HIS
  rw [hB4] at HDI
  obtain ⟨RL, hRL⟩ : ∃ r, lsE l pl = r := ⟨_, rfl⟩
  rw [hpl, hRL]
  rw [hRL] at HMK
  have HI := Lib.hid (And.intro hinv hcnt)
  have HPL := Lib.hid hpl
  have HVIN := Lib.hid (fun W => vin_any W vb P)
  clear h hvc hinv hcnt hB2 hB3 hB4 hRL hpl
  refine (callsIn_wide (n := 9)).1 ?_
  refine callsIn_of_wp_marks Tryz.func43 rfl trivial ?_ rfl
  simp only [Tryz.ntmps43, List.size_toArray, List.length_cons, List.length_nil, Nat.reduceAdd, Nat.reduceSub, Array.replicate_succ, Array.replicate_zero, List.push_toArray, List.append_toArray, List.nil_append, List.cons_append]
  refine wpIn_wide.2 ?_
  go_upto_region 1 with fail
  go_upto_region 2 with (first
    | (go_at_call 91; (with_reducible refine (HLV.out _ (LJ.refl w)).mono ?_); rintro e wa ⟨K1, c1, rfl, hk, hx⟩; have HKA := Lib.hid hk; have HLA := Lib.hid hx; have HWB := Lib.hid (hx.alloc (.cells #[.string P] 9)); clear hk hx)
    | (go_at_call 92; (with_reducible refine (HMY.out _ _ HWB.out (alloc_blk _ _)).mono ?_); rintro e wb ⟨K2, c2, rfl, hk, hx⟩; have HKB := Lib.hid hk; have HKA := Lib.hid (HKA.out.later (((LJ.refl wa).alloc (.cells #[.string P] 9)).trans hx)); have HLB := Lib.hid (HWB.out.trans hx); clear hk hx)
    | (go_at_call 93; (with_reducible refine (HIS.out _ HLB.out).mono ?_); rintro e wd ⟨K3, c3, rfl, hk, hx⟩; have HKD := Lib.hid hk; have HKA := Lib.hid (HKA.out.later hx); have HKB := Lib.hid (HKB.out.later hx); have HLD := Lib.hid (HLB.out.trans hx); clear hk hx)
    | (go_at_call 96; (with_reducible refine (HDI.out _ HLD.out).mono ?_); rintro e we ⟨K4, c4, rfl, hk, hx⟩; have HLE := Lib.hid (HLD.out.trans hx); have HKE := Lib.hid hk; have HKA := Lib.hid (HKA.out.later hx); have HKB := Lib.hid (HKB.out.later hx); have HKD := Lib.hid (HKD.out.later hx); have HLC4 := Lib.hid (HLE.out.alloc (.cells #[.func (.func K1) #[] c1, .int .i64 2, .func (.func K2) #[] c2, .int .i64 171, .func (.func K3) #[] c3, .int .i64 172, .func (.func K4) #[] c4, .int .i64 174] 146)); have HASK := Lib.hid (asked_any (we.alloc (.cells #[.func (.func K1) #[] c1, .int .i64 2, .func (.func K2) #[] c2, .int .i64 171, .func (.func K3) #[] c3, .int .i64 172, .func (.func K4) #[] c4, .int .i64 174] 146)) [⟨K1, c1, true, 2⟩, ⟨K2, c2, B2, 171⟩, ⟨K3, c3, B3, 172⟩, ⟨K4, c4, B4, 174⟩] we.heap.size 4 4 rfl (by omega) (fun j c hj => chk_at (alloc_blk we (.cells #[.func (.func K1) #[] c1, .int .i64 2, .func (.func K2) #[] c2, .int .i64 171, .func (.func K3) #[] c3, .int .i64 172, .func (.func K4) #[] c4, .int .i64 174] 146)) j c hj) (by intro c hc; simp only [List.mem_cons, List.not_mem_nil, or_false] at hc; have hl := (LJ.refl we).alloc (.cells #[.func (.func K1) #[] c1, .int .i64 2, .func (.func K2) #[] c2, .int .i64 171, .func (.func K3) #[] c3, .int .i64 172, .func (.func K4) #[] c4, .int .i64 174] 146); rcases hc with rfl | rfl | rfl | rfl; exact HKA.out.later hl; exact HKB.out.later hl; exact HKD.out.later hl; exact HKE.out.later hl)); clear hk hx)
    | (go_at_call 90; (with_reducible refine HASK.out.mono ?_); rintro e wc ⟨rfl, hx⟩; have HLC := Lib.hid (HLC4.out.trans hx); clear hx)
    | fail)
  have hmk := HMK.out [⟨K1, c1, true, 2⟩, ⟨K2, c2, B2, 171⟩, ⟨K3, c3, B3, 172⟩, ⟨K4, c4, B4, 174⟩] K1 K2 K3 K4 c1 c2 c3 c4 rfl
  obtain ⟨E, hE⟩ : ∃ E, askE [⟨K1, c1, true, 2⟩, ⟨K2, c2, B2, 171⟩, ⟨K3, c3, B3, 172⟩, ⟨K4, c4, B4, 174⟩] = E := ⟨_, rfl⟩
  rw [hE] at hmk ⊢
  clear hE
  rcases hmk with ⟨hne, hm⟩ | ⟨h0, hm⟩
  · have HM := Lib.hid hm
    have hneb : (E != 0) = true := by simpa using hne
    clear hm
    go_wp2_with fail
    refine ⟨_, results_tmp2 rfl _ _ _, .slice none 0 0, ?_, ?_, HLC.out⟩
    · rw [HM.out]; rfl
    · exact .inl ⟨rfl, by rw [HM.out]⟩
  · subst h0
    have HM := Lib.hid hm
    clear hm
    go_upto_region 5 with fail
    obtain ⟨w2, hw2⟩ : ∃ w2, wc.alloc (.cells #[.slice none 0 0] 24) = w2 := ⟨_, rfl⟩
    obtain ⟨q7, hq7⟩ : ∃ q, wc.heap.size = q := ⟨_, rfl⟩
    have HB7 := Lib.hid (show w2.heap[q7]? = some (.cells #[.slice none 0 0] 24 (0, 0)) from by rw [← hw2, ← hq7]; exact alloc_blk wc _)
    have HL2 := Lib.hid (show LJ w w2 from by rw [← hw2]; exact HLC.out.alloc _)
    have HG7 := Lib.hid (show w.heap.size ≤ q7 from by rw [← hq7]; exact Below.size HLC.out)
    rw [hw2, hq7]
    clear hw2 hq7
    go_wp2_with (first
      | (go_at_call 105; (with_reducible refine (HVIN.out w2).mono ?_); rintro e w3 ⟨q1, q2, rfl, hb1, hb2, hl3⟩; have HQ := Lib.hid (And.intro hb1 (And.intro hb2 hl3)); clear hb1 hb2 hl3)
      | fail)
    refine (wpIn_wide (n := 9)).1 ?_
    obtain ⟨hb1, hb2, hl3⟩ := HQ.out
    have HB73 := Lib.hid (hl3.block HB7.out)
    have HL3 := Lib.hid (HL2.out.trans hl3)
    have h27 : q2 ≠ q7 := by
      intro e
      rw [e, HB73.out] at hb2
      injection hb2 with hb2
      injection hb2 with hb2 hb3
      exact absurd hb3 (by decide)
    have hsz2 : q2 < w3.heap.size := lt_blk hb2
    have hszl : w.heap.size ≤ w3.heap.size := Below.size HL3.out
    have HI9 := Lib.hid hszl
    refine wpIn_rangeFunc_ownH rfl (by omega) (gf := 159) (lb := #[.pointer (some ⟨q1, 0, none⟩), .pointer (some ⟨q2, 0, none⟩)]) rfl trivial (enters_of Tryz.func159 (by kernel_rfl) rfl)
      (vin_stopsM 8 (by omega) q1 q2 vb jb mb l P HI.out.1 (by have := HI.out.2; omega) w3 hb1 hb2 (HVC.out.later HL3.out)) KpS.trans (fun W l' o o' _ h hc _ => KpS.put W l' o o' h hc) (Below.refl _ _) (fun _ => rfl)
      (fun (pre : List {x : Ent // x ∈ l}) W => (∃ v, Boxed W q7 24 v ∧ W.ownsRow w3.heap.size 9 1 v pre.length (pre.map fun x => Value.string ⟨(lastN x.1.p).toArray⟩) ∧ True) ∧ Below w.heap.size w W ∧ w3.heap.size ≤ W.heap.size)
      (fun _ _ _ => False)
      (OwnFrom.and (Own.from (holdsRow_own w3.heap.size q7 24 9 1 (fun (pre : List {x : Ent // x ∈ l}) => pre.length) (fun pre => pre.map fun x => Value.string ⟨(lastN x.1.p).toArray⟩) (fun _ _ => True)) _) (OwnFrom.and (ownFrom_below (Nat.le_refl _) hszl) (fun _ _ _ _ hs hg _ => Nat.le_trans hs hg.size)))
      (fun _ _ _ _ _ hs _ _ => hs)
      ⟨⟨_, HB73.out, World.ownsRow_nil _ _ _ _, trivial⟩, HL3.out, Nat.le_refl _⟩
      (fun x a' W => ∃ Bx, W.heap[Bx]? = some (.cells #[.string ⟨x.1.p.toArray⟩, .bool x.1.d, .string ⟨x.1.s.toArray⟩] 74 (0, 0)) ∧ a' = { tmps := #[.pointer (some ⟨vb, 0, none⟩), .string P, undef, undef, .slice none 0 0, .int .i64 0, .int .i64 0, .pointer (some ⟨q7, 0, none⟩), .pointer (some ⟨Bx, 0, none⟩), .pointer (some ⟨vb, 0, none⟩), .agg #[.func (.func K1) #[] c1, .int .i64 2], .pointer (some ⟨vb, 0, none⟩), .string P, .slice (some ⟨wa.heap.size, 0, none⟩) 1 1, .agg #[.func (.func K2) #[] c2, .int .i64 171], .pointer (some ⟨vb, 0, none⟩), .string P, .agg #[.func (.func K3) #[] c3, .int .i64 172], .pointer (some ⟨vb, 0, none⟩), .string P, .agg #[.func (.func K4) #[] c4, .int .i64 174], .slice (some ⟨we.heap.size, 0, none⟩) 4 4, .int .i64 0, .int .i64 0, .bool false, undef, .pointer (some ⟨vb, 0, none⟩), .string P, .func (.func 159) #[] #[.pointer (some ⟨q1, 0, none⟩), .pointer (some ⟨q2, 0, none⟩)], x.1.val, undef, undef, undef, undef, undef, undef, undef, undef, undef, undef, undef, undef], defers := [] })
      (fun x a' _ X Y row hs hg hr => by obtain ⟨Bx, h1, h2⟩ := hs; exact ⟨Bx, (hg.block Bx (lt_blk h1) (fun e' => by obtain ⟨_, o, ho, hc⟩ := hr Bx e'.symm; rw [h1] at ho; cases ho; cases hc)).trans h1, h2⟩)
      ?assign ?body ?done ?stop
    case assign =>
      rintro l' pre x W K ⟨⟨v, hv, hrow, -⟩, hB, hB3⟩ hK
      obtain ⟨PX, hPX⟩ : ∃ P : ByteArray, (⟨x.1.p.toArray⟩ : ByteArray) = P := ⟨_, rfl⟩
      obtain ⟨DX, hDX⟩ : ∃ P : ByteArray, (⟨x.1.s.toArray⟩ : ByteArray) = P := ⟨_, rfl⟩
      obtain ⟨xd, hxd⟩ : ∃ d, x.1.d = d := ⟨_, rfl⟩
      have hval : x.1.val = .agg #[.string PX, .bool xd, .string DX] := by rw [← hPX, ← hDX, ← hxd]; rfl
      have HK := Lib.hid (fun a' hax => hK a' _ ((KeepsOthers.alloc W (.cells #[.string PX, .bool xd, .string DX] 74)).from _) (KpS.of ((LJ.refl W).alloc _)) ⟨⟨v, hv.alloc _, hrow.alloc _, trivial⟩, hB.alloc (Nat.le_trans (Nat.le_refl _) hB.size) _, by rw [World.size_alloc]; omega⟩ ⟨W.heap.size, by rw [hPX, hDX, hxd]; exact alloc_blk W _, hax⟩)
      rw [hval] at HK
      simp only [fold1, hval]
      clear hK hPX hDX hxd hval hv hrow hB
      gi_wp2_with fail
      exact HK.out _ rfl
    case body =>
      rintro l' pre x a' W hl ⟨r, hr⟩ ⟨⟨v, hv, hrow, -⟩, hB, hB3⟩ ⟨Bx, hbx, rfl⟩ hlt
      have hxin := HI.out.1.two x.1 x.2
      obtain ⟨PX, hPX⟩ : ∃ P : ByteArray, (⟨x.1.p.toArray⟩ : ByteArray) = P := ⟨_, rfl⟩
      have hPXd : PX.data.toList = x.1.p := by rw [← hPX]
      have hPXs : PX.size = x.1.p.length := by rw [← hPXd, Array.length_toList]; rfl
      obtain ⟨L, m, hL, hwrap, hm, hext, hli⟩ := last_arms x.1.p PX hPXd (by omega) (by omega)
      obtain ⟨NX, hNX⟩ : ∃ P : ByteArray, (⟨(lastN x.1.p).toArray⟩ : ByteArray) = P := ⟨_, rfl⟩
      rw [hNX] at hext
      rw [hPX] at hbx
      have x0 : W.drew.cell? ⟨Bx, 0, none⟩ = some (.string PX) := cell_blk hbx 0
      have c7 : W.drew.cell? ⟨q7, 0, none⟩ = some v := hv.cell
      have hlen : pre.length < 800 := by have := HI.out.2; omega
      have hrowd : W.drew.ownsRow w3.heap.size 9 1 v pre.length (pre.map fun x => Value.string ⟨(lastN x.1.p).toArray⟩) := hrow
      obtain ⟨i0, hi, hz0, hz1, hz2⟩ := info_parts info_strV
      obtain ⟨v', w1, hrun, hown', hgrow, -, -⟩ := run_append_own_at (P := Tryz.prog) (W.drew.alloc (.cells #[.string NX] 9)) w3.heap.size 24 24 9 i0 _ 1 16 Tryz.underlying24 hi hz0 hz1 hz2 rfl (by decide) v pre.length _ (hrowd.alloc _) ⟨W.drew.heap.size, 0, none⟩ 1 1 [.string NX] rfl (cell_one_new _ _ _) (by simp [Value.oneCell']) (by simp only [maxLen]; omega) (by omega) (by rw [World.size_alloc]; exact Nat.le_succ_of_le hB3)
      obtain ⟨g', cap', rfl⟩ := ownsRow_succ hown'
      have hq7 : w.heap.size ≤ W.drew.heap.size := Nat.le_trans hszl hB3
      obtain ⟨hv1, hv2, -, hk2, hbb⟩ := Boxed.appended (W := W.drew) (n₀ := w.heap.size) (B := q7) (t := 24) hv (by decide) (own_lower hrowd hszl) hq7 HG7.out (own_lower hown' hszl) hgrow
      have HOUT := Lib.hid (show KeepsFrom w3.heap.size W (w1.setCell ⟨q7, 0, none⟩ (.slice (some ⟨g', 0, none⟩) (pre.length + 1) cap')) ∧ KpS q2 W (w1.setCell ⟨q7, 0, none⟩ (.slice (some ⟨g', 0, none⟩) (pre.length + 1) cap')) ∧ ((∃ v, Boxed (w1.setCell ⟨q7, 0, none⟩ (.slice (some ⟨g', 0, none⟩) (pre.length + 1) cap')) q7 24 v ∧ (w1.setCell ⟨q7, 0, none⟩ (.slice (some ⟨g', 0, none⟩) (pre.length + 1) cap')).ownsRow w3.heap.size 9 1 v (pre ++ [x]).length ((pre ++ [x]).map fun x => Value.string ⟨(lastN x.1.p).toArray⟩) ∧ True) ∧ Below w.heap.size w (w1.setCell ⟨q7, 0, none⟩ (.slice (some ⟨g', 0, none⟩) (pre.length + 1) cap')) ∧ w3.heap.size ≤ (w1.setCell ⟨q7, 0, none⟩ (.slice (some ⟨g', 0, none⟩) (pre.length + 1) cap')).heap.size) from by
        refine ⟨((KeepsOthers.drew W).trans hk2).from _, (KpS.of (LJ.refl W).drew).trans (KpS.app hrowd hsz2 hgrow hv h27), ⟨_, hv2, ?_, trivial⟩, hB.drew.trans hbb, ?_⟩
        · rw [List.length_append, List.map_append]
          simp only [List.map_cons, List.map_nil, List.length_cons, List.length_nil, hNX]
          exact hown'.kept (grownBy_setCell' w1 q7 _) (.inr (hv1.not_row (by decide) hown').symm)
        · have h1 := hgrow.size
          rw [World.size_alloc] at h1
          rw [World.size_setCell]
          have h2 : W.drew.heap.size = W.heap.size := rfl
          omega)
      have c7b : (W.alloc (.cells #[.string NX] 9)).cell? ⟨q7, 0, none⟩ = some v := (((LJ.refl W).alloc (.cells #[.string NX] 9))).cell hv.cell
      have c71 := hv1.cell
      have f71 := hv1.frozen
      have HLI := Lib.hid (hli W.drew)
      have hm0 : (0 : Int) ≤ (m : Int) := by omega
      have hm1 : (m : Int) ≤ (PX.size : Int) := by omega
      have hmt : (m : Int).toNat = m := by omega
      clear hv2 hk2 hbb hv1 hown' hgrow hq7 hrowd hi hz0 hz1 hz2 hNX hPXd hPXs hPX hxin hL hB hB3 hbx hrow hv hlt hlen hb1 hb2 hl3 hr hl hli
      dsimp only
      gi_wp2_with fail
      refine wpIn_region_any (by kernel_rfl) ?_
      change wpAnyIn _ _ _ _ _ _ _ _ _ W.drew
      refine any_unround l' (by kernel_rfl) _ _ _ _ ?_
      refine wpAnyIn_take (i := 1) (v := ?_) rfl rfl (by kernel_rfl) (by kernel_rfl) (by kernel_rfl) (fun _ _ _ h => h) ⟨Or.inl ⟨by rfl, by intro w; go_simp; (try with_reducible rfl)⟩, fun _ => rfl⟩ ?_
      refine wpAnyIn_take (i := 3) (v := ?_) rfl rfl (by kernel_rfl) (by kernel_rfl) (by kernel_rfl) (fun _ _ _ h => h) ⟨Or.inl ⟨by rfl, by intro w; go_simp; (try with_reducible rfl)⟩, fun _ => rfl⟩ ?_
      refine wpAnyIn_ready (rs := [0, 2, 4]) (by kernel_rfl) (by simp) ?_
      refine AllReadyIn.cons rfl (fun K hK => ?_) (AllReadyIn.cons rfl (fun K hK => ?_) (AllReadyIn.cons rfl (fun K hK => ?_) AllReadyIn.nil))
      · go_simp
        refine hK _ _ ?_
        clear hK K
        refine wpAnyIn_ready (rs := [2, 4]) (by kernel_rfl) (by simp) ?_
        refine AllReadyIn.cons rfl (fun K hK => ?_) (AllReadyIn.cons rfl (fun K hK => ?_) AllReadyIn.nil)
        · go_simp
          refine hK _ _ ?_
          clear hK K
          refine wpAnyIn_ready (rs := [4]) (by kernel_rfl) (by simp) ?_
          refine AllReadyIn.cons rfl (fun K hK => ?_) AllReadyIn.nil
          go_simp
          refine hK _ _ ?_
          clear hK K
          refine wpAnyIn_ready (rs := [5]) (by kernel_rfl) (by simp) ?_
          refine AllReadyIn.cons rfl (fun K hK => ?_) AllReadyIn.nil
          go_simp
          refine ⟨trivial, (callsIn_wide.2 HLI.out).mono ?_⟩
          rintro e w' ⟨rfl, hw'⟩
          subst hw'
          dsimp only
          refine hK _ _ ?_
          clear hK K
          refine wpAnyIn_take (i := 6) (v := ?_) rfl rfl (by kernel_rfl) (by kernel_rfl) (by kernel_rfl) (fun _ _ _ h => h) ⟨Or.inl ⟨by rfl, by intro w; go_simp; (try with_reducible rfl)⟩, fun _ => rfl⟩ ?_
          refine wpAnyIn_take (i := 7) (v := ?_) rfl rfl (by kernel_rfl) (by kernel_rfl) (by kernel_rfl) (fun _ _ _ h => h) ⟨Or.inl ⟨by rfl, by intro w; go_simp; (try with_reducible rfl)⟩, fun _ => rfl⟩ ?_
          refine wpAnyIn_ready (rs := [8]) (by kernel_rfl) (by simp) ?_
          refine AllReadyIn.cons rfl (fun K hK => ?_) AllReadyIn.nil
          go_simp
          refine hK _ _ ?_
          clear hK K
          refine wpAnyIn_ready (rs := [9]) (by kernel_rfl) (by simp) ?_
          refine AllReadyIn.cons rfl (fun K hK => ?_) AllReadyIn.nil
          refine wpIn_append_run (.tmp 30) (.tmp 38) 24 rfl _ _ _ _ rfl rfl hrun ?_
          dsimp only [Act.put]
          refine hK _ _ ?_
          clear hK K
          refine wpAnyIn_ready (rs := [10]) (by kernel_rfl) (by simp) ?_
          refine AllReadyIn.cons rfl (fun K hK => ?_) AllReadyIn.nil
          go_simp
          refine hK _ _ ?_
          clear hK K
          refine wpAnyIn_done (by kernel_rfl) ?_ _
          gi_wp2_with fail
          exact HOUT.out
        · go_simp
          refine hK _ _ ?_
          clear hK K
          refine wpAnyIn_ready (rs := [2, 5]) (by kernel_rfl) (by simp) ?_
          refine AllReadyIn.cons rfl (fun K hK => ?_) (AllReadyIn.cons rfl (fun K hK => ?_) AllReadyIn.nil)
          · go_simp
            refine hK _ _ ?_
            clear hK K
            refine wpAnyIn_ready (rs := [5]) (by kernel_rfl) (by simp) ?_
            refine AllReadyIn.cons rfl (fun K hK => ?_) AllReadyIn.nil
            go_simp
            refine ⟨trivial, (callsIn_wide.2 HLI.out).mono ?_⟩
            rintro e w' ⟨rfl, hw'⟩
            subst hw'
            dsimp only
            refine hK _ _ ?_
            clear hK K
            refine wpAnyIn_take (i := 6) (v := ?_) rfl rfl (by kernel_rfl) (by kernel_rfl) (by kernel_rfl) (fun _ _ _ h => h) ⟨Or.inl ⟨by rfl, by intro w; go_simp; (try with_reducible rfl)⟩, fun _ => rfl⟩ ?_
            refine wpAnyIn_take (i := 7) (v := ?_) rfl rfl (by kernel_rfl) (by kernel_rfl) (by kernel_rfl) (fun _ _ _ h => h) ⟨Or.inl ⟨by rfl, by intro w; go_simp; (try with_reducible rfl)⟩, fun _ => rfl⟩ ?_
            refine wpAnyIn_ready (rs := [8]) (by kernel_rfl) (by simp) ?_
            refine AllReadyIn.cons rfl (fun K hK => ?_) AllReadyIn.nil
            go_simp
            refine hK _ _ ?_
            clear hK K
            refine wpAnyIn_ready (rs := [9]) (by kernel_rfl) (by simp) ?_
            refine AllReadyIn.cons rfl (fun K hK => ?_) AllReadyIn.nil
            refine wpIn_append_run (.tmp 30) (.tmp 38) 24 rfl _ _ _ _ rfl rfl hrun ?_
            dsimp only [Act.put]
            refine hK _ _ ?_
            clear hK K
            refine wpAnyIn_ready (rs := [10]) (by kernel_rfl) (by simp) ?_
            refine AllReadyIn.cons rfl (fun K hK => ?_) AllReadyIn.nil
            go_simp
            refine hK _ _ ?_
            clear hK K
            refine wpAnyIn_done (by kernel_rfl) ?_ _
            gi_wp2_with fail
            exact HOUT.out
          · go_simp
            refine ⟨trivial, (callsIn_wide.2 HLI.out).mono ?_⟩
            rintro e w' ⟨rfl, hw'⟩
            subst hw'
            dsimp only
            refine hK _ _ ?_
            clear hK K
            refine wpAnyIn_take (i := 6) (v := ?_) rfl rfl (by kernel_rfl) (by kernel_rfl) (by kernel_rfl) (fun _ _ _ h => h) ⟨Or.inl ⟨by rfl, by intro w; go_simp; (try with_reducible rfl)⟩, fun _ => rfl⟩ ?_
            refine wpAnyIn_ready (rs := [2]) (by kernel_rfl) (by simp) ?_
            refine AllReadyIn.cons rfl (fun K hK => ?_) AllReadyIn.nil
            go_simp
            refine hK _ _ ?_
            clear hK K
            refine wpAnyIn_take (i := 7) (v := ?_) rfl rfl (by kernel_rfl) (by kernel_rfl) (by kernel_rfl) (fun _ _ _ h => h) ⟨Or.inl ⟨by rfl, by intro w; go_simp; (try with_reducible rfl)⟩, fun _ => rfl⟩ ?_
            refine wpAnyIn_ready (rs := [8]) (by kernel_rfl) (by simp) ?_
            refine AllReadyIn.cons rfl (fun K hK => ?_) AllReadyIn.nil
            go_simp
            refine hK _ _ ?_
            clear hK K
            refine wpAnyIn_ready (rs := [9]) (by kernel_rfl) (by simp) ?_
            refine AllReadyIn.cons rfl (fun K hK => ?_) AllReadyIn.nil
            refine wpIn_append_run (.tmp 30) (.tmp 38) 24 rfl _ _ _ _ rfl rfl hrun ?_
            dsimp only [Act.put]
            refine hK _ _ ?_
            clear hK K
            refine wpAnyIn_ready (rs := [10]) (by kernel_rfl) (by simp) ?_
            refine AllReadyIn.cons rfl (fun K hK => ?_) AllReadyIn.nil
            go_simp
            refine hK _ _ ?_
            clear hK K
            refine wpAnyIn_done (by kernel_rfl) ?_ _
            gi_wp2_with fail
            exact HOUT.out
      · go_simp
        refine hK _ _ ?_
        clear hK K
        refine wpAnyIn_ready (rs := [0, 4]) (by kernel_rfl) (by simp) ?_
        refine AllReadyIn.cons rfl (fun K hK => ?_) (AllReadyIn.cons rfl (fun K hK => ?_) AllReadyIn.nil)
        · go_simp
          refine hK _ _ ?_
          clear hK K
          refine wpAnyIn_ready (rs := [4]) (by kernel_rfl) (by simp) ?_
          refine AllReadyIn.cons rfl (fun K hK => ?_) AllReadyIn.nil
          go_simp
          refine hK _ _ ?_
          clear hK K
          refine wpAnyIn_ready (rs := [5]) (by kernel_rfl) (by simp) ?_
          refine AllReadyIn.cons rfl (fun K hK => ?_) AllReadyIn.nil
          go_simp
          refine ⟨trivial, (callsIn_wide.2 HLI.out).mono ?_⟩
          rintro e w' ⟨rfl, hw'⟩
          subst hw'
          dsimp only
          refine hK _ _ ?_
          clear hK K
          refine wpAnyIn_take (i := 6) (v := ?_) rfl rfl (by kernel_rfl) (by kernel_rfl) (by kernel_rfl) (fun _ _ _ h => h) ⟨Or.inl ⟨by rfl, by intro w; go_simp; (try with_reducible rfl)⟩, fun _ => rfl⟩ ?_
          refine wpAnyIn_take (i := 7) (v := ?_) rfl rfl (by kernel_rfl) (by kernel_rfl) (by kernel_rfl) (fun _ _ _ h => h) ⟨Or.inl ⟨by rfl, by intro w; go_simp; (try with_reducible rfl)⟩, fun _ => rfl⟩ ?_
          refine wpAnyIn_ready (rs := [8]) (by kernel_rfl) (by simp) ?_
          refine AllReadyIn.cons rfl (fun K hK => ?_) AllReadyIn.nil
          go_simp
          refine hK _ _ ?_
          clear hK K
          refine wpAnyIn_ready (rs := [9]) (by kernel_rfl) (by simp) ?_
          refine AllReadyIn.cons rfl (fun K hK => ?_) AllReadyIn.nil
          refine wpIn_append_run (.tmp 30) (.tmp 38) 24 rfl _ _ _ _ rfl rfl hrun ?_
          dsimp only [Act.put]
          refine hK _ _ ?_
          clear hK K
          refine wpAnyIn_ready (rs := [10]) (by kernel_rfl) (by simp) ?_
          refine AllReadyIn.cons rfl (fun K hK => ?_) AllReadyIn.nil
          go_simp
          refine hK _ _ ?_
          clear hK K
          refine wpAnyIn_done (by kernel_rfl) ?_ _
          gi_wp2_with fail
          exact HOUT.out
        · go_simp
          refine hK _ _ ?_
          clear hK K
          refine wpAnyIn_ready (rs := [0, 5]) (by kernel_rfl) (by simp) ?_
          refine AllReadyIn.cons rfl (fun K hK => ?_) (AllReadyIn.cons rfl (fun K hK => ?_) AllReadyIn.nil)
          · go_simp
            refine hK _ _ ?_
            clear hK K
            refine wpAnyIn_ready (rs := [5]) (by kernel_rfl) (by simp) ?_
            refine AllReadyIn.cons rfl (fun K hK => ?_) AllReadyIn.nil
            go_simp
            refine ⟨trivial, (callsIn_wide.2 HLI.out).mono ?_⟩
            rintro e w' ⟨rfl, hw'⟩
            subst hw'
            dsimp only
            refine hK _ _ ?_
            clear hK K
            refine wpAnyIn_take (i := 6) (v := ?_) rfl rfl (by kernel_rfl) (by kernel_rfl) (by kernel_rfl) (fun _ _ _ h => h) ⟨Or.inl ⟨by rfl, by intro w; go_simp; (try with_reducible rfl)⟩, fun _ => rfl⟩ ?_
            refine wpAnyIn_take (i := 7) (v := ?_) rfl rfl (by kernel_rfl) (by kernel_rfl) (by kernel_rfl) (fun _ _ _ h => h) ⟨Or.inl ⟨by rfl, by intro w; go_simp; (try with_reducible rfl)⟩, fun _ => rfl⟩ ?_
            refine wpAnyIn_ready (rs := [8]) (by kernel_rfl) (by simp) ?_
            refine AllReadyIn.cons rfl (fun K hK => ?_) AllReadyIn.nil
            go_simp
            refine hK _ _ ?_
            clear hK K
            refine wpAnyIn_ready (rs := [9]) (by kernel_rfl) (by simp) ?_
            refine AllReadyIn.cons rfl (fun K hK => ?_) AllReadyIn.nil
            refine wpIn_append_run (.tmp 30) (.tmp 38) 24 rfl _ _ _ _ rfl rfl hrun ?_
            dsimp only [Act.put]
            refine hK _ _ ?_
            clear hK K
            refine wpAnyIn_ready (rs := [10]) (by kernel_rfl) (by simp) ?_
            refine AllReadyIn.cons rfl (fun K hK => ?_) AllReadyIn.nil
            go_simp
            refine hK _ _ ?_
            clear hK K
            refine wpAnyIn_done (by kernel_rfl) ?_ _
            gi_wp2_with fail
            exact HOUT.out
          · go_simp
            refine ⟨trivial, (callsIn_wide.2 HLI.out).mono ?_⟩
            rintro e w' ⟨rfl, hw'⟩
            subst hw'
            dsimp only
            refine hK _ _ ?_
            clear hK K
            refine wpAnyIn_take (i := 6) (v := ?_) rfl rfl (by kernel_rfl) (by kernel_rfl) (by kernel_rfl) (fun _ _ _ h => h) ⟨Or.inl ⟨by rfl, by intro w; go_simp; (try with_reducible rfl)⟩, fun _ => rfl⟩ ?_
            refine wpAnyIn_take (i := 7) (v := ?_) rfl rfl (by kernel_rfl) (by kernel_rfl) (by kernel_rfl) (fun _ _ _ h => h) ⟨Or.inl ⟨by rfl, by intro w; go_simp; (try with_reducible rfl)⟩, fun _ => rfl⟩ ?_
            refine wpAnyIn_ready (rs := [0, 8]) (by kernel_rfl) (by simp) ?_
            refine AllReadyIn.cons rfl (fun K hK => ?_) (AllReadyIn.cons rfl (fun K hK => ?_) AllReadyIn.nil)
            · go_simp
              refine hK _ _ ?_
              clear hK K
              refine wpAnyIn_ready (rs := [8]) (by kernel_rfl) (by simp) ?_
              refine AllReadyIn.cons rfl (fun K hK => ?_) AllReadyIn.nil
              go_simp
              refine hK _ _ ?_
              clear hK K
              refine wpAnyIn_ready (rs := [9]) (by kernel_rfl) (by simp) ?_
              refine AllReadyIn.cons rfl (fun K hK => ?_) AllReadyIn.nil
              refine wpIn_append_run (.tmp 30) (.tmp 38) 24 rfl _ _ _ _ rfl rfl hrun ?_
              dsimp only [Act.put]
              refine hK _ _ ?_
              clear hK K
              refine wpAnyIn_ready (rs := [10]) (by kernel_rfl) (by simp) ?_
              refine AllReadyIn.cons rfl (fun K hK => ?_) AllReadyIn.nil
              go_simp
              refine hK _ _ ?_
              clear hK K
              refine wpAnyIn_done (by kernel_rfl) ?_ _
              gi_wp2_with fail
              exact HOUT.out
            · go_simp
              refine hK _ _ ?_
              clear hK K
              refine wpAnyIn_ready (rs := [0]) (by kernel_rfl) (by simp) ?_
              refine AllReadyIn.cons rfl (fun K hK => ?_) AllReadyIn.nil
              go_simp
              refine hK _ _ ?_
              clear hK K
              refine wpAnyIn_ready (rs := [9]) (by kernel_rfl) (by simp) ?_
              refine AllReadyIn.cons rfl (fun K hK => ?_) AllReadyIn.nil
              refine wpIn_append_run (.tmp 30) (.tmp 38) 24 rfl _ _ _ _ rfl rfl hrun ?_
              dsimp only [Act.put]
              refine hK _ _ ?_
              clear hK K
              refine wpAnyIn_ready (rs := [10]) (by kernel_rfl) (by simp) ?_
              refine AllReadyIn.cons rfl (fun K hK => ?_) AllReadyIn.nil
              go_simp
              refine hK _ _ ?_
              clear hK K
              refine wpAnyIn_done (by kernel_rfl) ?_ _
              gi_wp2_with fail
              exact HOUT.out
      · go_simp
        refine hK _ _ ?_
        clear hK K
        refine wpAnyIn_ready (rs := [0, 2, 5]) (by kernel_rfl) (by simp) ?_
        refine AllReadyIn.cons rfl (fun K hK => ?_) (AllReadyIn.cons rfl (fun K hK => ?_) (AllReadyIn.cons rfl (fun K hK => ?_) AllReadyIn.nil))
        · go_simp
          refine hK _ _ ?_
          clear hK K
          refine wpAnyIn_ready (rs := [2, 5]) (by kernel_rfl) (by simp) ?_
          refine AllReadyIn.cons rfl (fun K hK => ?_) (AllReadyIn.cons rfl (fun K hK => ?_) AllReadyIn.nil)
          · go_simp
            refine hK _ _ ?_
            clear hK K
            refine wpAnyIn_ready (rs := [5]) (by kernel_rfl) (by simp) ?_
            refine AllReadyIn.cons rfl (fun K hK => ?_) AllReadyIn.nil
            go_simp
            refine ⟨trivial, (callsIn_wide.2 HLI.out).mono ?_⟩
            rintro e w' ⟨rfl, hw'⟩
            subst hw'
            dsimp only
            refine hK _ _ ?_
            clear hK K
            refine wpAnyIn_take (i := 6) (v := ?_) rfl rfl (by kernel_rfl) (by kernel_rfl) (by kernel_rfl) (fun _ _ _ h => h) ⟨Or.inl ⟨by rfl, by intro w; go_simp; (try with_reducible rfl)⟩, fun _ => rfl⟩ ?_
            refine wpAnyIn_take (i := 7) (v := ?_) rfl rfl (by kernel_rfl) (by kernel_rfl) (by kernel_rfl) (fun _ _ _ h => h) ⟨Or.inl ⟨by rfl, by intro w; go_simp; (try with_reducible rfl)⟩, fun _ => rfl⟩ ?_
            refine wpAnyIn_ready (rs := [8]) (by kernel_rfl) (by simp) ?_
            refine AllReadyIn.cons rfl (fun K hK => ?_) AllReadyIn.nil
            go_simp
            refine hK _ _ ?_
            clear hK K
            refine wpAnyIn_ready (rs := [9]) (by kernel_rfl) (by simp) ?_
            refine AllReadyIn.cons rfl (fun K hK => ?_) AllReadyIn.nil
            refine wpIn_append_run (.tmp 30) (.tmp 38) 24 rfl _ _ _ _ rfl rfl hrun ?_
            dsimp only [Act.put]
            refine hK _ _ ?_
            clear hK K
            refine wpAnyIn_ready (rs := [10]) (by kernel_rfl) (by simp) ?_
            refine AllReadyIn.cons rfl (fun K hK => ?_) AllReadyIn.nil
            go_simp
            refine hK _ _ ?_
            clear hK K
            refine wpAnyIn_done (by kernel_rfl) ?_ _
            gi_wp2_with fail
            exact HOUT.out
          · go_simp
            refine ⟨trivial, (callsIn_wide.2 HLI.out).mono ?_⟩
            rintro e w' ⟨rfl, hw'⟩
            subst hw'
            dsimp only
            refine hK _ _ ?_
            clear hK K
            refine wpAnyIn_take (i := 6) (v := ?_) rfl rfl (by kernel_rfl) (by kernel_rfl) (by kernel_rfl) (fun _ _ _ h => h) ⟨Or.inl ⟨by rfl, by intro w; go_simp; (try with_reducible rfl)⟩, fun _ => rfl⟩ ?_
            refine wpAnyIn_ready (rs := [2]) (by kernel_rfl) (by simp) ?_
            refine AllReadyIn.cons rfl (fun K hK => ?_) AllReadyIn.nil
            go_simp
            refine hK _ _ ?_
            clear hK K
            refine wpAnyIn_take (i := 7) (v := ?_) rfl rfl (by kernel_rfl) (by kernel_rfl) (by kernel_rfl) (fun _ _ _ h => h) ⟨Or.inl ⟨by rfl, by intro w; go_simp; (try with_reducible rfl)⟩, fun _ => rfl⟩ ?_
            refine wpAnyIn_ready (rs := [8]) (by kernel_rfl) (by simp) ?_
            refine AllReadyIn.cons rfl (fun K hK => ?_) AllReadyIn.nil
            go_simp
            refine hK _ _ ?_
            clear hK K
            refine wpAnyIn_ready (rs := [9]) (by kernel_rfl) (by simp) ?_
            refine AllReadyIn.cons rfl (fun K hK => ?_) AllReadyIn.nil
            refine wpIn_append_run (.tmp 30) (.tmp 38) 24 rfl _ _ _ _ rfl rfl hrun ?_
            dsimp only [Act.put]
            refine hK _ _ ?_
            clear hK K
            refine wpAnyIn_ready (rs := [10]) (by kernel_rfl) (by simp) ?_
            refine AllReadyIn.cons rfl (fun K hK => ?_) AllReadyIn.nil
            go_simp
            refine hK _ _ ?_
            clear hK K
            refine wpAnyIn_done (by kernel_rfl) ?_ _
            gi_wp2_with fail
            exact HOUT.out
        · go_simp
          refine hK _ _ ?_
          clear hK K
          refine wpAnyIn_ready (rs := [0, 5]) (by kernel_rfl) (by simp) ?_
          refine AllReadyIn.cons rfl (fun K hK => ?_) (AllReadyIn.cons rfl (fun K hK => ?_) AllReadyIn.nil)
          · go_simp
            refine hK _ _ ?_
            clear hK K
            refine wpAnyIn_ready (rs := [5]) (by kernel_rfl) (by simp) ?_
            refine AllReadyIn.cons rfl (fun K hK => ?_) AllReadyIn.nil
            go_simp
            refine ⟨trivial, (callsIn_wide.2 HLI.out).mono ?_⟩
            rintro e w' ⟨rfl, hw'⟩
            subst hw'
            dsimp only
            refine hK _ _ ?_
            clear hK K
            refine wpAnyIn_take (i := 6) (v := ?_) rfl rfl (by kernel_rfl) (by kernel_rfl) (by kernel_rfl) (fun _ _ _ h => h) ⟨Or.inl ⟨by rfl, by intro w; go_simp; (try with_reducible rfl)⟩, fun _ => rfl⟩ ?_
            refine wpAnyIn_take (i := 7) (v := ?_) rfl rfl (by kernel_rfl) (by kernel_rfl) (by kernel_rfl) (fun _ _ _ h => h) ⟨Or.inl ⟨by rfl, by intro w; go_simp; (try with_reducible rfl)⟩, fun _ => rfl⟩ ?_
            refine wpAnyIn_ready (rs := [8]) (by kernel_rfl) (by simp) ?_
            refine AllReadyIn.cons rfl (fun K hK => ?_) AllReadyIn.nil
            go_simp
            refine hK _ _ ?_
            clear hK K
            refine wpAnyIn_ready (rs := [9]) (by kernel_rfl) (by simp) ?_
            refine AllReadyIn.cons rfl (fun K hK => ?_) AllReadyIn.nil
            refine wpIn_append_run (.tmp 30) (.tmp 38) 24 rfl _ _ _ _ rfl rfl hrun ?_
            dsimp only [Act.put]
            refine hK _ _ ?_
            clear hK K
            refine wpAnyIn_ready (rs := [10]) (by kernel_rfl) (by simp) ?_
            refine AllReadyIn.cons rfl (fun K hK => ?_) AllReadyIn.nil
            go_simp
            refine hK _ _ ?_
            clear hK K
            refine wpAnyIn_done (by kernel_rfl) ?_ _
            gi_wp2_with fail
            exact HOUT.out
          · go_simp
            refine ⟨trivial, (callsIn_wide.2 HLI.out).mono ?_⟩
            rintro e w' ⟨rfl, hw'⟩
            subst hw'
            dsimp only
            refine hK _ _ ?_
            clear hK K
            refine wpAnyIn_take (i := 6) (v := ?_) rfl rfl (by kernel_rfl) (by kernel_rfl) (by kernel_rfl) (fun _ _ _ h => h) ⟨Or.inl ⟨by rfl, by intro w; go_simp; (try with_reducible rfl)⟩, fun _ => rfl⟩ ?_
            refine wpAnyIn_take (i := 7) (v := ?_) rfl rfl (by kernel_rfl) (by kernel_rfl) (by kernel_rfl) (fun _ _ _ h => h) ⟨Or.inl ⟨by rfl, by intro w; go_simp; (try with_reducible rfl)⟩, fun _ => rfl⟩ ?_
            refine wpAnyIn_ready (rs := [0, 8]) (by kernel_rfl) (by simp) ?_
            refine AllReadyIn.cons rfl (fun K hK => ?_) (AllReadyIn.cons rfl (fun K hK => ?_) AllReadyIn.nil)
            · go_simp
              refine hK _ _ ?_
              clear hK K
              refine wpAnyIn_ready (rs := [8]) (by kernel_rfl) (by simp) ?_
              refine AllReadyIn.cons rfl (fun K hK => ?_) AllReadyIn.nil
              go_simp
              refine hK _ _ ?_
              clear hK K
              refine wpAnyIn_ready (rs := [9]) (by kernel_rfl) (by simp) ?_
              refine AllReadyIn.cons rfl (fun K hK => ?_) AllReadyIn.nil
              refine wpIn_append_run (.tmp 30) (.tmp 38) 24 rfl _ _ _ _ rfl rfl hrun ?_
              dsimp only [Act.put]
              refine hK _ _ ?_
              clear hK K
              refine wpAnyIn_ready (rs := [10]) (by kernel_rfl) (by simp) ?_
              refine AllReadyIn.cons rfl (fun K hK => ?_) AllReadyIn.nil
              go_simp
              refine hK _ _ ?_
              clear hK K
              refine wpAnyIn_done (by kernel_rfl) ?_ _
              gi_wp2_with fail
              exact HOUT.out
            · go_simp
              refine hK _ _ ?_
              clear hK K
              refine wpAnyIn_ready (rs := [0]) (by kernel_rfl) (by simp) ?_
              refine AllReadyIn.cons rfl (fun K hK => ?_) AllReadyIn.nil
              go_simp
              refine hK _ _ ?_
              clear hK K
              refine wpAnyIn_ready (rs := [9]) (by kernel_rfl) (by simp) ?_
              refine AllReadyIn.cons rfl (fun K hK => ?_) AllReadyIn.nil
              refine wpIn_append_run (.tmp 30) (.tmp 38) 24 rfl _ _ _ _ rfl rfl hrun ?_
              dsimp only [Act.put]
              refine hK _ _ ?_
              clear hK K
              refine wpAnyIn_ready (rs := [10]) (by kernel_rfl) (by simp) ?_
              refine AllReadyIn.cons rfl (fun K hK => ?_) AllReadyIn.nil
              go_simp
              refine hK _ _ ?_
              clear hK K
              refine wpAnyIn_done (by kernel_rfl) ?_ _
              gi_wp2_with fail
              exact HOUT.out
        · go_simp
          refine ⟨trivial, (callsIn_wide.2 HLI.out).mono ?_⟩
          rintro e w' ⟨rfl, hw'⟩
          subst hw'
          dsimp only
          refine hK _ _ ?_
          clear hK K
          refine wpAnyIn_take (i := 6) (v := ?_) rfl rfl (by kernel_rfl) (by kernel_rfl) (by kernel_rfl) (fun _ _ _ h => h) ⟨Or.inl ⟨by rfl, by intro w; go_simp; (try with_reducible rfl)⟩, fun _ => rfl⟩ ?_
          refine wpAnyIn_ready (rs := [0, 2]) (by kernel_rfl) (by simp) ?_
          refine AllReadyIn.cons rfl (fun K hK => ?_) (AllReadyIn.cons rfl (fun K hK => ?_) AllReadyIn.nil)
          · go_simp
            refine hK _ _ ?_
            clear hK K
            refine wpAnyIn_ready (rs := [2]) (by kernel_rfl) (by simp) ?_
            refine AllReadyIn.cons rfl (fun K hK => ?_) AllReadyIn.nil
            go_simp
            refine hK _ _ ?_
            clear hK K
            refine wpAnyIn_take (i := 7) (v := ?_) rfl rfl (by kernel_rfl) (by kernel_rfl) (by kernel_rfl) (fun _ _ _ h => h) ⟨Or.inl ⟨by rfl, by intro w; go_simp; (try with_reducible rfl)⟩, fun _ => rfl⟩ ?_
            refine wpAnyIn_ready (rs := [8]) (by kernel_rfl) (by simp) ?_
            refine AllReadyIn.cons rfl (fun K hK => ?_) AllReadyIn.nil
            go_simp
            refine hK _ _ ?_
            clear hK K
            refine wpAnyIn_ready (rs := [9]) (by kernel_rfl) (by simp) ?_
            refine AllReadyIn.cons rfl (fun K hK => ?_) AllReadyIn.nil
            refine wpIn_append_run (.tmp 30) (.tmp 38) 24 rfl _ _ _ _ rfl rfl hrun ?_
            dsimp only [Act.put]
            refine hK _ _ ?_
            clear hK K
            refine wpAnyIn_ready (rs := [10]) (by kernel_rfl) (by simp) ?_
            refine AllReadyIn.cons rfl (fun K hK => ?_) AllReadyIn.nil
            go_simp
            refine hK _ _ ?_
            clear hK K
            refine wpAnyIn_done (by kernel_rfl) ?_ _
            gi_wp2_with fail
            exact HOUT.out
          · go_simp
            refine hK _ _ ?_
            clear hK K
            refine wpAnyIn_take (i := 7) (v := ?_) rfl rfl (by kernel_rfl) (by kernel_rfl) (by kernel_rfl) (fun _ _ _ h => h) ⟨Or.inl ⟨by rfl, by intro w; go_simp; (try with_reducible rfl)⟩, fun _ => rfl⟩ ?_
            refine wpAnyIn_ready (rs := [0, 8]) (by kernel_rfl) (by simp) ?_
            refine AllReadyIn.cons rfl (fun K hK => ?_) (AllReadyIn.cons rfl (fun K hK => ?_) AllReadyIn.nil)
            · go_simp
              refine hK _ _ ?_
              clear hK K
              refine wpAnyIn_ready (rs := [8]) (by kernel_rfl) (by simp) ?_
              refine AllReadyIn.cons rfl (fun K hK => ?_) AllReadyIn.nil
              go_simp
              refine hK _ _ ?_
              clear hK K
              refine wpAnyIn_ready (rs := [9]) (by kernel_rfl) (by simp) ?_
              refine AllReadyIn.cons rfl (fun K hK => ?_) AllReadyIn.nil
              refine wpIn_append_run (.tmp 30) (.tmp 38) 24 rfl _ _ _ _ rfl rfl hrun ?_
              dsimp only [Act.put]
              refine hK _ _ ?_
              clear hK K
              refine wpAnyIn_ready (rs := [10]) (by kernel_rfl) (by simp) ?_
              refine AllReadyIn.cons rfl (fun K hK => ?_) AllReadyIn.nil
              go_simp
              refine hK _ _ ?_
              clear hK K
              refine wpAnyIn_done (by kernel_rfl) ?_ _
              gi_wp2_with fail
              exact HOUT.out
            · go_simp
              refine hK _ _ ?_
              clear hK K
              refine wpAnyIn_ready (rs := [0]) (by kernel_rfl) (by simp) ?_
              refine AllReadyIn.cons rfl (fun K hK => ?_) AllReadyIn.nil
              go_simp
              refine hK _ _ ?_
              clear hK K
              refine wpAnyIn_ready (rs := [9]) (by kernel_rfl) (by simp) ?_
              refine AllReadyIn.cons rfl (fun K hK => ?_) AllReadyIn.nil
              refine wpIn_append_run (.tmp 30) (.tmp 38) 24 rfl _ _ _ _ rfl rfl hrun ?_
              dsimp only [Act.put]
              refine hK _ _ ?_
              clear hK K
              refine wpAnyIn_ready (rs := [10]) (by kernel_rfl) (by simp) ?_
              refine AllReadyIn.cons rfl (fun K hK => ?_) AllReadyIn.nil
              go_simp
              refine hK _ _ ?_
              clear hK K
              refine wpAnyIn_done (by kernel_rfl) ?_ _
              gi_wp2_with fail
              exact HOUT.out
    case done =>
      rintro D ys W hD hys ⟨⟨v, hv, hrow, -⟩, hB, hB3⟩ hK
      have hc := hv.cell
      have HCL := Lib.hid (show Calls Tryz.prog 108 #[v] W fun e w' => e = .returned (clipV v) ∧ w' = W from by
        rcases hrow.2 with ⟨e, h0⟩ | ⟨g, cap, cur, e, hb, hg, h1, h2⟩
        · rw [e]; exact vclip_any W (.slice none 0 0) 0 0 (.inr ⟨rfl, rfl, rfl⟩) (Nat.le_refl _)
        · rw [e]; exact vclip_any W (.slice (some ⟨g, 0, none⟩) ys.length cap) ys.length cap (.inl ⟨g, rfl⟩) h1)
      have hrn : (ys.map fun x => Value.string ⟨(lastN x.1.p).toArray⟩) = ((kidsE l pl).map fun y => lastN y.p).map fun s => Value.string ⟨s.toArray⟩ := by
        have h1 : ys.map (·.1) = kidsE l P.data.toList := hys
        rw [HPL.out] at h1
        rw [← h1, List.map_map, List.map_map]
        rfl
      have HSL := Lib.hid (show SLs (W.putObj D (.deferred none)) v ((kidsE l pl).map fun y => lastN y.p) from by
        have h2 := ownsRow_putObj hrow (.deferred none) hK rfl
        rw [hrn] at h2
        refine SLs.own h2 ?_
        have h3 := congrArg List.length hrn
        simpa using h3)
      have HBB := Lib.hid (hB.trans (belowK_b (w := w) (Nat.le_refl _) W D (.deferred (some [])) (.deferred none) (by have := HI9.out; omega) hK rfl rfl))
      have HSC := Lib.hid (SLs.clip HSL.out)
      clear hrn hrow hv hB hB3 hys
      go_wp2_with (first
        | (go_at_call 108; (with_reducible refine HCL.out.mono ?_); rintro e w8 ⟨rfl, hw8⟩; subst hw8)
        | fail)
      refine ⟨by simp, .inl ⟨_, _, rfl, run_takeDeferred hK, ?_⟩⟩
      refine ⟨_, results_tmp2 rfl _ _ _, _, by rw [HM.out]; rfl, ?_, HBB.out⟩
      rw [HM.out]
      exact HSC.out
    case stop =>
      rintro D c pre W _ _ h _
      exact h.elim
end Go.Proofs.YtfpbocjmlhcgiaaGreatDoor
/- The volume's Stat. -/
namespace Go.Proofs.YtfpbocjmlhcgiaaGreatDoor
open Go.RowKit PJ Go.Maps Go.WideMaps Go.Shelf
attribute [local go_sem] Oper.semAt_some

theorem load_intV (w : World) (g : Nat) (n : Int) (hc : w.cell? ⟨g, 0, none⟩ = some (.int .i64 n)) : (loadVar 3 ⟨g, 0, none⟩).run Tryz.prog w = .ok (.int .i64 n) w := by
  simp [loadVar, isAgg, run_underlying Tryz.underlying3, go_sem, hc]
theorem results_tct {fn : Func} {u p v : Tmp} {ty : TypeId} (h : fn.results = #[.tmp u, .cell p ty, .tmp v]) (tmps : Array Value) (P : Program) (w : World) (g : Nat) (x : Value)
    (hp : tmps.getD p undef = .pointer (some ⟨g, 0, none⟩)) (hl : (loadVar ty ⟨g, 0, none⟩).run P w = .ok x w) :
    (results fn tmps).run P w = .ok (.tuple #[tmps.getD u undef, x, tmps.getD v undef]) w := by
  have hp' : tmps[p]?.getD undef = .pointer (some ⟨g, 0, none⟩) := by simpa using hp
  simp [results, h, hp', asAddr, hl]
theorem st_ask (l : List Ent) (p : List UInt8) (cs : List Chk) (K1 K2 K3 : FuncId) (c1 c2 c3 : Array Value) (hcs : cs = [⟨K1, c1, true, 2⟩, ⟨K2, c2, pathB p, 171⟩, ⟨K3, c3, (atE l p).isSome, 172⟩]) :
    (askE cs ≠ 0 ∧ stE l p = (false, 0, askE cs)) ∨ (askE cs = 0 ∧ ∃ x, atE l p = some x ∧ stE l p = (x.d, x.s.length + (kidsE l p).length, 0)) := by
  subst hcs
  unfold askE stE
  simp only [if_true]
  unfold askE
  cases hp : pathB p with
  | false => left; simp
  | true =>
    simp only [if_true]
    unfold askE
    cases hn : atE l p with
    | none => left; simp
    | some x => right; exact ⟨by simp [askE], x, rfl, by simp⟩
theorem KpS.set {q2 q5 : Nat} {W : World} {u u' : Value} (hb : W.heap[q5]? = some (.cells #[u] 3 (0, 0))) (h25 : q2 ≠ q5) : KpS q2 W (W.setCell ⟨q5, 0, none⟩ u') := by
  have key : ∀ (q : Nat) (o : Obj), q ≠ q5 → W.heap[q]? = some o → (W.setCell ⟨q5, 0, none⟩ u').heap[q]? = some o := fun q o hq e => (Below.heap_setCell _ _ _ q hq).trans e
  refine ⟨fun cs T fr e => key q2 _ h25 e, fun q cs fr e => key q _ (fun hq => ?_) e, by rw [World.size_setCell]; exact Nat.le_refl _⟩
  rw [hq, hb] at e
  injection e with e
  injection e with e1 e2
  exact absurd e2 (by decide)
set_option maxRecDepth 100000 in
set_option maxHeartbeats 8000000 in
theorem vstat_any (w : World) (p b jb vb : Nat) (F : Nat → Prop) (J : Jn) (l : List Ent) (h : VAt w p b jb vb F J l) (P : ByteArray) (hP : P.size < 4294967280) :
    Calls Tryz.prog 40 #[.pointer (some ⟨vb, 0, none⟩), .string P] w fun e w' => e = .returned (.tuple #[.bool (stE l P.data.toList).1, .int .i64 ((stE l P.data.toList).2.1 : Int), .int .i64 (stE l P.data.toList).2.2]) ∧ LJ w w' := by
  obtain ⟨mb, hvc⟩ := h.vc
  have hinv := h.vj.inv
  have hcnt := h.vj.count
  obtain ⟨pl, hpl⟩ : ∃ x, P.data.toList = x := ⟨_, rfl⟩
  have HVC := Lib.hid hvc
  have HLV := Lib.hid (fun W (hW : LJ w W) => vlives_any W vb jb mb l (HVC.out.later hW))
  have HMY := Lib.hid (fun W (q : Nat) (hW : LJ w W) (hb : W.heap[q]? = some (.cells #[.string P] 9 (0, 0))) => show Calls Tryz.prog 92 #[.pointer (some ⟨vb, 0, none⟩), .slice (some ⟨q, 0, none⟩) 1 1] W (MadeC W (pathB pl) 171) from by
    have h1 := vmay_any W vb q 1 1 [P] rfl (by simp) (by intro x hx; rw [List.mem_singleton.1 hx]; omega) (fun j x hj => by
      match j, hj with
      | 0, hj =>
        obtain rfl : P = x := by simpa using hj
        exact cell_blk hb 0)
    rw [show ([P].all fun x => pathB x.data.toList) = pathB pl from by simp [hpl]] at h1
    exact h1)
  have HIS := Lib.hid (fun W (hW : LJ w W) => vis_any W vb jb mb l P pl hpl (by omega) (HVC.out.later hW))
  obtain ⟨x, hx⟩ : ∃ x, (atE l pl).getD zeroE = x := ⟨_, rfl⟩
  obtain ⟨ok, hok⟩ : ∃ b, (atE l pl).isSome = b := ⟨_, rfl⟩
  obtain ⟨XP, hXP⟩ : ∃ P : ByteArray, (⟨x.p.toArray⟩ : ByteArray) = P := ⟨_, rfl⟩
  obtain ⟨XD, hXD⟩ : ∃ D : ByteArray, (⟨x.s.toArray⟩ : ByteArray) = D := ⟨_, rfl⟩
  have hXDs : XD.size = x.s.length := by rw [← hXD]; show x.s.toArray.size = _; rw [List.size_toArray]
  have hval : x.val = .agg #[.string XP, .bool x.d, .string XD] := by rw [← hXP, ← hXD]; rfl
  have hx24 : x.s.length ≤ 1024 := by
    rw [← hx]
    cases hn : atE l pl with
    | none => simp [zeroE]
    | some y =>
      rcases atE_some hn with ⟨-, e⟩ | ⟨-, hm, -⟩
      · rw [e]; simp [rootE]
      · exact hinv.file y hm
  obtain ⟨xd, hxd⟩ : ∃ b, x.d = b := ⟨_, rfl⟩
  rw [hxd] at hval
  have HAT := Lib.hid (fun W (hW : LJ w W) => show Calls Tryz.prog 97 #[.pointer (some ⟨vb, 0, none⟩), .string P] W fun e w' => e = .returned (.tuple #[.agg #[.string XP, .bool xd, .string XD], .bool ok]) ∧ LJ W w' from by
    have hat := vat_any W vb mb jb l P pl hpl (by omega) (HVC.out.later hW).blk (HVC.out.later hW).map
    rw [hx, hok, hval] at hat
    exact hat)
  have HMK := Lib.hid (fun cs K1 K2 K3 c1 c2 c3 hcs => st_ask l pl cs K1 K2 K3 c1 c2 c3 hcs)
  obtain ⟨B2, hB2⟩ : ∃ b, pathB pl = b := ⟨_, rfl⟩
  rw [hB2, hok] at HMK
  rw [hB2] at HMY
  rw [hok] at HIS
  obtain ⟨RL, hRL⟩ : ∃ r, stE l pl = r := ⟨_, rfl⟩
  rw [hpl, hRL]
  rw [hRL] at HMK
  have HI := Lib.hid (And.intro hinv hcnt)
  have HPL := Lib.hid hpl
  have HX := Lib.hid (And.intro hx (And.intro hXDs (And.intro hx24 hxd)))
  have HVIN := Lib.hid (fun W => vin_any W vb P)
  obtain ⟨w1, hw1⟩ : ∃ w1, w.alloc (.cells #[.int .i64 0] 3) = w1 := ⟨_, rfl⟩
  obtain ⟨q5, hq5⟩ : ∃ q, w.heap.size = q := ⟨_, rfl⟩
  have HB5 := Lib.hid (show w1.heap[q5]? = some (.cells #[.int .i64 0] 3 (0, 0)) from by rw [← hw1, ← hq5]; exact alloc_blk w _)
  have HL1 := Lib.hid (show LJ w w1 from by rw [← hw1]; exact (LJ.refl w).alloc _)
  have HW1 := Lib.hid hw1
  have HQ5 := Lib.hid hq5
  clear h hvc hinv hcnt hB2 hok hRL hpl hx hXP hXD hXDs hval hx24 hxd hw1 hq5
  refine (callsIn_wide (n := 9)).1 ?_
  refine callsIn_of_wp_marks Tryz.func40 rfl trivial ?_ rfl
  simp only [Tryz.ntmps40, List.size_toArray, List.length_cons, List.length_nil, Nat.reduceAdd, Nat.reduceSub, Array.replicate_succ, Array.replicate_zero, List.push_toArray, List.append_toArray, List.nil_append, List.cons_append]
  refine wpIn_wide.2 ?_
  go_upto_region 1 with fail
  rw [HW1.out, HQ5.out]
  go_upto_region 2 with (first
    | (go_at_call 91; (with_reducible refine (HLV.out _ HL1.out).mono ?_); rintro e wa ⟨K1, c1, rfl, hk, hx⟩; have HKA := Lib.hid hk; have HLA := Lib.hid (HL1.out.trans hx); have HBA := Lib.hid (hx.block HB5.out); have HWB := Lib.hid (HLA.out.alloc (.cells #[.string P] 9)); clear hk hx)
    | (go_at_call 92; (with_reducible refine (HMY.out _ _ HWB.out (alloc_blk _ _)).mono ?_); rintro e wb ⟨K2, c2, rfl, hk, hx⟩; have HKB := Lib.hid hk; have HKA := Lib.hid (HKA.out.later (((LJ.refl wa).alloc (.cells #[.string P] 9)).trans hx)); have HBB := Lib.hid ((((LJ.refl wa).alloc (.cells #[.string P] 9)).trans hx).block HBA.out); have HLB := Lib.hid (HWB.out.trans hx); clear hk hx)
    | (go_at_call 93; (with_reducible refine (HIS.out _ HLB.out).mono ?_); rintro e we ⟨K3, c3, rfl, hk, hx⟩; have HLE := Lib.hid (HLB.out.trans hx); have HBE := Lib.hid (hx.block HBB.out); have HKE := Lib.hid hk; have HKA := Lib.hid (HKA.out.later hx); have HKB := Lib.hid (HKB.out.later hx); have HLC4 := Lib.hid (HLE.out.alloc (.cells #[.func (.func K1) #[] c1, .int .i64 2, .func (.func K2) #[] c2, .int .i64 171, .func (.func K3) #[] c3, .int .i64 172] 146)); have HASK := Lib.hid (asked_any (we.alloc (.cells #[.func (.func K1) #[] c1, .int .i64 2, .func (.func K2) #[] c2, .int .i64 171, .func (.func K3) #[] c3, .int .i64 172] 146)) [⟨K1, c1, true, 2⟩, ⟨K2, c2, B2, 171⟩, ⟨K3, c3, ok, 172⟩] we.heap.size 3 3 rfl (by omega) (fun j c hj => chk_at (alloc_blk we (.cells #[.func (.func K1) #[] c1, .int .i64 2, .func (.func K2) #[] c2, .int .i64 171, .func (.func K3) #[] c3, .int .i64 172] 146)) j c hj) (by intro c hc; simp only [List.mem_cons, List.not_mem_nil, or_false] at hc; have hl := (LJ.refl we).alloc (.cells #[.func (.func K1) #[] c1, .int .i64 2, .func (.func K2) #[] c2, .int .i64 171, .func (.func K3) #[] c3, .int .i64 172] 146); rcases hc with rfl | rfl | rfl; exact HKA.out.later hl; exact HKB.out.later hl; exact HKE.out.later hl)); clear hk hx)
    | (go_at_call 90; (with_reducible refine HASK.out.mono ?_); rintro e wc ⟨rfl, hx⟩; have HLC := Lib.hid (HLC4.out.trans hx); have HBC := Lib.hid ((((LJ.refl we).alloc (.cells #[.func (.func K1) #[] c1, .int .i64 2, .func (.func K2) #[] c2, .int .i64 171, .func (.func K3) #[] c3, .int .i64 172] 146)).trans hx).block HBE.out); clear hx)
    | fail)
  have hmk := HMK.out [⟨K1, c1, true, 2⟩, ⟨K2, c2, B2, 171⟩, ⟨K3, c3, ok, 172⟩] K1 K2 K3 c1 c2 c3 rfl
  obtain ⟨E, hE⟩ : ∃ E, askE [⟨K1, c1, true, 2⟩, ⟨K2, c2, B2, 171⟩, ⟨K3, c3, ok, 172⟩] = E := ⟨_, rfl⟩
  rw [hE] at hmk ⊢
  clear hE
  have c5 : wc.cell? ⟨q5, 0, none⟩ = some (.int .i64 0) := cell_blk HBC.out 0
  have f5 := free_blk HBC.out 0
  have hlset : ∀ u, LJ w (wc.setCell ⟨q5, 0, none⟩ u) := fun u => lj_onlyV HLC.out (setCell_only _ _ _ _) (fun k hk => by rw [show k = q5 from hk]; have := HQ5.out; omega)
  rcases hmk with ⟨hne, hm⟩ | ⟨h0, y, hy, hm⟩
  · have HM := Lib.hid hm
    have hneb : (E != 0) = true := by simpa using hne
    have HLS := Lib.hid (hlset (.int .i64 0))
    have HCS := Lib.hid (cell_blk (heap_setCell_same wc q5 0 _ _ (.int .i64 0) HBC.out) 0)
    clear hm hlset
    go_wp2_with fail
    refine ⟨_, results_tct rfl _ _ _ q5 (.int .i64 0) rfl (load_intV _ _ _ HCS.out), ?_, HLS.out⟩
    rw [HM.out]
    rfl
  · subst h0
    have HM := Lib.hid hm
    have HY := Lib.hid hy
    have HLSET := Lib.hid hlset
    have HAT2 := Lib.hid (HAT.out wc HLC.out)
    clear hm hlset hy
    go_upto_region 5 with (first
      | (go_at_call 97; (with_reducible refine HAT2.out.mono ?_); rintro e wd ⟨rfl, hl⟩; have HLD := Lib.hid hl; clear hl)
      | fail)
    obtain ⟨w3, hw3⟩ : ∃ w3, wd.alloc (.cells #[.string XP, .bool xd, .string XD] 74) = w3 := ⟨_, rfl⟩
    obtain ⟨q8, hq8⟩ : ∃ q, wd.heap.size = q := ⟨_, rfl⟩
    have HB8 := Lib.hid (show w3.heap[q8]? = some (.cells #[.string XP, .bool xd, .string XD] 74 (0, 0)) from by rw [← hw3, ← hq8]; exact alloc_blk wd _)
    have HL3 := Lib.hid (show LJ wc w3 from by rw [← hw3]; exact HLD.out.alloc _)
    have HB53 := Lib.hid (HL3.out.block HBC.out)
    have c53 : w3.cell? ⟨q5, 0, none⟩ = some (.int .i64 0) := cell_blk HB53.out 0
    have f53 := free_blk HB53.out 0
    have z2 : w3.cell? ⟨q8, 2, none⟩ = some (.string XD) := cell_blk HB8.out 2
    rw [hw3, hq8]
    clear hw3 hq8 c5 f5
    obtain ⟨w4, hw4⟩ : ∃ w4, w3.setCell ⟨q5, 0, none⟩ (.int .i64 (XD.size : Int)) = w4 := ⟨_, rfl⟩
    have h58 : q8 ≠ q5 := by
      intro e
      have h1 := HB8.out
      rw [e, HB53.out] at h1
      injection h1 with h1
      injection h1 with h1 h2
      exact absurd h2 (by decide)
    have HB54 := Lib.hid (show w4.heap[q5]? = some (.cells #[.int .i64 (XD.size : Int)] 3 (0, 0)) from by rw [← hw4]; exact heap_setCell_same w3 q5 0 _ _ (.int .i64 (XD.size : Int)) HB53.out)
    have HB84 := Lib.hid (show w4.heap[q8]? = some (.cells #[.string XP, .bool xd, .string XD] 74 (0, 0)) from by rw [← hw4]; exact (heap_setCell_other w3 ⟨q5, 0, none⟩ q8 _ h58).trans HB8.out)
    have HL4 := Lib.hid (show LJ w w4 from by rw [← hw4]; exact lj_onlyV (HLC.out.trans HL3.out) (setCell_only _ _ _ _) (fun k hk => by rw [show k = q5 from hk]; have := HQ5.out; omega))
    have HW4 := Lib.hid hw4
    clear hw4
    go_upto_region 6 with fail
    rw [HW4.out]
    clear c53 f53 z2
    go_wp2_with (first
      | (go_at_call 105; (with_reducible refine (HVIN.out w4).mono ?_); rintro e w6 ⟨q1, q2, rfl, hb1, hb2, hl3⟩; have HQ := Lib.hid (And.intro hb1 (And.intro hb2 hl3)); clear hb1 hb2 hl3)
      | fail)
    refine (wpIn_wide (n := 9)).1 ?_
    obtain ⟨hb1, hb2, hl3⟩ := HQ.out
    have HB56 := Lib.hid (hl3.block HB54.out)
    have HB86 := Lib.hid (hl3.block HB84.out)
    have HL6 := Lib.hid (HL4.out.trans hl3)
    have h25 : q2 ≠ q5 := by
      intro e
      rw [e, HB56.out] at hb2
      injection hb2 with hb2
      injection hb2 with hb2 hb3
      exact absurd hb3 (by decide)
    have hszl : w.heap.size ≤ w6.heap.size := Below.size HL6.out
    have hsz5 : q5 < w6.heap.size := lt_blk HB56.out
    have HI9 := Lib.hid hszl
    obtain ⟨x1, x2, x3, x4⟩ := HX.out
    have HD24 := Lib.hid (show XD.size ≤ 1024 from by omega)
    refine wpIn_rangeFunc_ownF rfl (by omega) (gf := 159) (lb := #[.pointer (some ⟨q1, 0, none⟩), .pointer (some ⟨q2, 0, none⟩)]) rfl trivial (enters_of Tryz.func159 (by kernel_rfl) rfl)
      (vin_stopsM 8 (by omega) q1 q2 vb jb mb l P HI.out.1 (by have := HI.out.2; omega) w6 hb1 hb2 (HVC.out.later HL6.out)) KpS.trans (fun W l' o o' _ h hc _ => KpS.put W l' o o' h hc) (Below.refl _ _) (fun _ => rfl)
      (fun (pre : List {x : Ent // x ∈ l}) W => (Boxed W q5 3 (.int .i64 ((XD.size + pre.length : Nat) : Int)) ∧ W.heap[q8]? = some (.cells #[.string XP, .bool xd, .string XD] 74 (0, 0))) ∧ Below w.heap.size w W)
      (fun _ _ _ => False)
      (OwnFrom.and (Own.from (fun s X Y row hs hg hr => ⟨boxed_own q5 3 (fun (_ : Unit) => Value.int .i64 ((XD.size + s.length : Nat) : Int)) () X Y row hs.1 hg hr, (hg.block q8 (lt_blk hs.2) (fun e' => by obtain ⟨o, ho, hc⟩ := hr q8 e'.symm; rw [hs.2] at ho; cases ho; cases hc)).trans hs.2⟩) _) (ownFrom_below (Nat.le_refl _) hszl))
      (fun _ _ _ _ _ hs _ _ => hs)
      ⟨⟨HB56.out, HB86.out⟩, HL6.out⟩
      (fun x => { tmps := #[.pointer (some ⟨vb, 0, none⟩), .string P, undef, undef, .bool false, .pointer (some ⟨q5, 0, none⟩), .int .i64 0, .int .i64 0, .pointer (some ⟨q8, 0, none⟩), .bool ok, .pointer (some ⟨vb, 0, none⟩), .agg #[.func (.func K1) #[] c1, .int .i64 2], .pointer (some ⟨vb, 0, none⟩), .string P, .slice (some ⟨wa.heap.size, 0, none⟩) 1 1, .agg #[.func (.func K2) #[] c2, .int .i64 171], .pointer (some ⟨vb, 0, none⟩), .string P, .agg #[.func (.func K3) #[] c3, .int .i64 172], .slice (some ⟨we.heap.size, 0, none⟩) 3 3, .int .i64 0, .int .i64 0, .bool false, undef, .tuple #[.agg #[.string XP, .bool xd, .string XD], .bool ok], .pointer (some ⟨vb, 0, none⟩), .string P, .tuple #[.agg #[.string XP, .bool xd, .string XD], .bool ok], .agg #[.string XP, .bool xd, .string XD], .bool ok, .pointer (some ⟨q8, 2, none⟩), .string XD, .int .i64 (XD.size : Int), .pointer (some ⟨vb, 0, none⟩), .string P, .func (.func 159) #[] #[.pointer (some ⟨q1, 0, none⟩), .pointer (some ⟨q2, 0, none⟩)], x.1.val, undef, undef, undef, undef, undef], defers := [] })
      ?assign ?body ?done ?stop
    case assign =>
      intro l' x W K hK
      clear x1 x2 x3 x4
      simp only [fold1]
      gi_wp2
      exact hK
    case body =>
      rintro l' pre x W ⟨⟨hb, hb8⟩, hB⟩ hlt
      have hcx := HI.out.2
      have hd24 := HD24.out
      have cb := hb.cell
      have fb := hb.frozen
      obtain ⟨m, hm⟩ : ∃ m, XD.size + pre.length = m := ⟨_, rfl⟩
      rw [hm] at hb cb
      have hwr : IntKind.i64.wrap ((m : Int) + 1) = ((m + 1 : Nat) : Int) := by rw [IntKind.wrap_i64]; omega
      have h5ge : w.heap.size ≤ q5 := by have := HQ5.out; omega
      have HOUT := Lib.hid (show KeepsOthers W (W.setCell ⟨q5, 0, none⟩ (.int .i64 ((m + 1 : Nat) : Int))) ∧ KpS q2 W (W.setCell ⟨q5, 0, none⟩ (.int .i64 ((m + 1 : Nat) : Int))) ∧ ((Boxed (W.setCell ⟨q5, 0, none⟩ (.int .i64 ((m + 1 : Nat) : Int))) q5 3 (.int .i64 ((XD.size + (pre ++ [x]).length : Nat) : Int)) ∧ (W.setCell ⟨q5, 0, none⟩ (.int .i64 ((m + 1 : Nat) : Int))).heap[q8]? = some (.cells #[.string XP, .bool xd, .string XD] 74 (0, 0))) ∧ Below w.heap.size w (W.setCell ⟨q5, 0, none⟩ (.int .i64 ((m + 1 : Nat) : Int)))) from by
        refine ⟨KeepsOthers.setCell _ _ _, KpS.set hb h25, ⟨?_, (Below.heap_setCell _ _ _ q8 h58).trans hb8⟩, hB.setCell (p := ⟨q5, 0, none⟩) h5ge _⟩
        rw [show XD.size + (pre ++ [x]).length = m + 1 from by rw [List.length_append]; simp only [List.length_cons, List.length_nil]; omega]
        exact hb.set _)
      clear hb hb8 hB hlt hm hcx hd24 x1 x2 x3 x4
      dsimp only
      gi_wp2_with fail
      exact HOUT.out
    case done =>
      rintro D ys W hD hys ⟨⟨hb, hb8⟩, hB⟩ hK
      have cb := hb.cell
      have fb := hb.frozen
      have z1 : W.cell? ⟨q8, 1, none⟩ = some (.bool xd) := cell_blk hb8 1
      have hlen : ys.length = (kidsE l pl).length := by
        have h1 : ys.map (·.1) = kidsE l P.data.toList := hys
        rw [HPL.out] at h1
        rw [← h1, List.length_map]
      obtain ⟨m, hm⟩ : ∃ m, XD.size + ys.length = m := ⟨_, rfl⟩
      rw [hm] at hb cb
      have h5ge : w.heap.size ≤ q5 := by have := HQ5.out; omega
      have HRL := Lib.hid (show RL = (xd, m, 0) from by
        have hy := HY.out
        rw [hy] at x1
        have e : y = x := x1
        rw [HM.out, e, ← hm, hlen, x2, x4])
      obtain ⟨W9, hW9⟩ : ∃ W9, (W.setCell ⟨q5, 0, none⟩ (.int .i64 (m : Int))).drew = W9 := ⟨_, rfl⟩
      have hk9 : W9.heap[D]? = some (.deferred (some [])) := by rw [← hW9]; exact (Below.heap_setCell _ _ _ D (show D ≠ q5 by omega)).trans hK
      have hb9 : Boxed W9 q5 3 (.int .i64 (m : Int)) := by rw [← hW9]; exact Boxed.set (W := W) _ hb
      have hl9 : Below w.heap.size w W9 := by rw [← hW9]; exact (hB.setCell (p := ⟨q5, 0, none⟩) h5ge _).drew
      have HF9 := Lib.hid (And.intro hk9 (And.intro hb9 hl9))
      have HW9 := Lib.hid hW9
      have HDW := Lib.hid (show w.heap.size ≤ D from by omega)
      have hmix : Tryz.prog.follows .mixedOrders = true := by kernel_rfl
      have cbd : W.drew.cell? ⟨q5, 0, none⟩ = some (.int .i64 (m : Int)) := cb
      have fbd : W.drew.frozen? ⟨q5, 0, none⟩ = false := fb
      have z1d : W.drew.cell? ⟨q8, 1, none⟩ = some (.bool xd) := z1
      clear hW9 hb hb8 hm hlen hB hk9 hb9 hl9
      go_wp2_with fail
      go_region
      go_wp2_with fail
      first
        | rw [HW9.out]
        | (change bodyPostM _ _ _ _ _ _ _ ((W.setCell ⟨q5, 0, none⟩ (.int .i64 (m : Int))).drew); rw [HW9.out])
      obtain ⟨hk9, hb9, hl9⟩ := HF9.out
      refine ⟨by simp, .inl ⟨_, _, rfl, run_takeDeferred hk9, ?_⟩⟩
      have hc9 := cell_kept hb9.cell (grownBy_putObj' _ D (.deferred none)) (fun r e => by cases e; exact ⟨_, hk9, rfl⟩)
      refine ⟨_, results_tct rfl _ _ _ q5 (.int .i64 (m : Int)) rfl (load_intV _ _ _ hc9), ?_, hl9.trans (belowK_b (w := w) (Nat.le_refl _) W9 D _ _ HDW.out hk9 rfl rfl)⟩
      rw [HRL.out]
      rfl
    case stop =>
      rintro D c pre W _ _ h _
      exact h.elim
end Go.Proofs.YtfpbocjmlhcgiaaGreatDoor
