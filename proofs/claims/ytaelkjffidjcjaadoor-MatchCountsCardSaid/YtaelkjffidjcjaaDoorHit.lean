/- The walk of Hit. -/
import Derived.Test.YtaelkjffidjcjaaDoorIs
import Derived.Deep.RegionWith
import Derived.BigRegion
import Derived.Deep.CutRange
set_option linter.unusedSimpArgs false
set_option linter.unusedVariables false
namespace Go.Proofs.YtaelkjffidjcjaaDoor
open Go.RowKit PX

theorem run_append (G : List St) : ∀ (u v : List UInt8) (S : Nat → Prop), run G S (u ++ v) = run G (run G S u) v
  | [], _, _ => rfl
  | b :: u, v, S => run_append G u v (after G S b)
theorem run_none (G : List St) : ∀ (v : List UInt8) (S : Nat → Prop), (∀ j, ¬ S j) → ∀ j, ¬ run G S v j
  | [], _, h => h
  | b :: v, S, h => run_none G v (after G S b) (by rintro j ⟨i, st, hi, -⟩; exact h i hi)
theorem sub_succ (s : List UInt8) {a b : Nat} (h : a ≤ b) (hb : b < s.length) : sub s a (b + 1) = sub s a b ++ [s[b]] := by
  rw [← sub_one s b hb, sub_append s h (by omega)]

/-- The set behind the bytes from a up to b. -/
def SetAt (x : Rx) (s : List UInt8) (a b : Nat) (ws : List Int) : Prop := (fun j => bitW ws j = true) = run x.machine.1 (Eps x.machine.1 x.machine.2) (sub s a b)
theorem SetAt.is {x : Rx} (hx : x.formB = true) {s : List UInt8} {a b : Nat} {ws : List Int} (h : SetAt x s a b ws) : bitW ws 0 = true ↔ x.lang (sub s a b) := by
  rw [← x.machine_lang hx]
  have := congrFun h 0
  rw [← this]
theorem SetAt.next {x : Rx} {s : List UInt8} {a b : Nat} {ws ws' : List Int} (h : SetAt x s a b ws) (hab : a ≤ b) (hb : b < s.length) (h' : ∀ i, bitW ws' i = true ↔ after x.machine.1 (fun i => bitW ws i = true) s[b] i) : SetAt x s a (b + 1) ws' := by
  unfold SetAt
  rw [sub_succ s hab hb, run_append, ← h]
  funext i
  exact propext (h' i)
theorem SetAt.dead {x : Rx} (hx : x.formB = true) {s : List UInt8} {a b : Nat} {ws : List Int} (h : SetAt x s a b ws) (hab : a ≤ b) (hz : ws = List.replicate 12 0) : ∀ k, b ≤ k → ¬ x.lang (sub s a k) := by
  intro k hk
  rw [← x.machine_lang hx, ← sub_append s hab hk, run_append, ← h]
  exact run_none _ _ _ (fun j hj => by subst hz; rw [bitW_zero] at hj; cases hj) 0

theorem run_eq12 (ws : List Int) (hw : Words ws) (w : World) : (Op.equalIn 10000 66 (.agg (wv ws).toArray) (.agg #[Value.int .u64 0, .int .u64 0, .int .u64 0, .int .u64 0, .int .u64 0, .int .u64 0, .int .u64 0, .int .u64 0, .int .u64 0, .int .u64 0, .int .u64 0, .int .u64 0])).run Tryd.prog w =
    .ok (decide (ws = List.replicate 12 0)) w :=
  eqArr_int (w := w) (d := 9998) Tryd.underlying66 Tryd.underlying22 sizeU64 _ _ ws (List.replicate 12 0) hw.len rfl rfl rfl

theorem run_lt {G : List St} (hG : OkG G) : ∀ (v : List UInt8) (S : Nat → Prop), (∀ j, S j → j < G.length) → ∀ j, run G S v j → j < G.length
  | [], _, h => h
  | b :: v, S, _ => run_lt hG v (after G S b) (fun _ hj => after_lt hG hj)
theorem SetAt.lt {x : Rx} (hx : x.formB = true) {s : List UInt8} {a b : Nat} {ws : List Int} (h : SetAt x s a b ws) (j : Nat) (hj : bitW ws j = true) : j < x.machine.1.length := by
  have hmo := x.machine_ok hx
  have h2 : run x.machine.1 (Eps x.machine.1 x.machine.2) (sub s a b) j := by rw [← congrFun h j]; exact hj
  exact run_lt hmo.1 _ _ (fun i hi => eps_lt hmo.1 hi hmo.2.1) j h2
theorem setAt_start {x : Rx} (s : List UInt8) (a : Nat) {ws : List Int} (h : ∀ i, bitW ws i = true ↔ Eps x.machine.1 x.machine.2 i) : SetAt x s a a ws := by
  unfold SetAt; rw [sub_self]; exact bits_eq h

/-- What is known of an end so far. -/
def EndAt (L : List UInt8 → Prop) (s : List UInt8) (a b e : Nat) : Prop :=
  (e = 0 ∧ ∀ k, a < k → k ≤ b → ¬ L (sub s a k)) ∨ (a < e ∧ e ≤ b ∧ L (sub s a e) ∧ ∀ k, e < k → k ≤ b → ¬ L (sub s a k))
theorem EndAt.no {L : List UInt8 → Prop} {s : List UInt8} {a b e : Nat} (h : EndAt L s a b e) (hn : ¬ L (sub s a (b + 1))) : EndAt L s a (b + 1) e := by
  rcases h with ⟨h0, h1⟩ | ⟨h0, h1, h2, h3⟩
  · refine .inl ⟨h0, fun k hk hk2 => ?_⟩
    by_cases hkb : k = b + 1
    · subst hkb; exact hn
    · exact h1 k hk (by omega)
  · refine .inr ⟨h0, by omega, h2, fun k hk hk2 => ?_⟩
    by_cases hkb : k = b + 1
    · subst hkb; exact hn
    · exact h3 k hk (by omega)
theorem EndAt.yes {L : List UInt8 → Prop} {s : List UInt8} {a b : Nat} (hab : a ≤ b) (hn : L (sub s a (b + 1))) : EndAt L s a (b + 1) (b + 1) :=
  .inr ⟨by omega, Nat.le_refl _, hn, fun k hk hk2 => by omega⟩
theorem EndAt.all {L : List UInt8 → Prop} {s : List UInt8} {a b e : Nat} (h : EndAt L s a b e) (hd : ∀ k, b < k → k ≤ s.length → ¬ L (sub s a k)) (hb : b ≤ s.length) : EndAt L s a s.length e := by
  rcases h with ⟨h0, h1⟩ | ⟨h0, h1, h2, h3⟩
  · exact .inl ⟨h0, fun k hk hk2 => by by_cases hkb : k ≤ b; exact h1 k hk hkb; exact hd k (by omega) hk2⟩
  · exact .inr ⟨h0, by omega, h2, fun k hk hk2 => by by_cases hkb : k ≤ b; exact h3 k hk hkb; exact hd k (by omega) hk2⟩

/-- What Hit tells. -/
def HitSays (x : Rx) (s : List UInt8) (from_ : Int) (e : Ending) : Prop :=
  (¬ (s.length ≤ 256 ∧ 0 ≤ from_ ∧ from_ ≤ s.length) ∧ e = .returned (.tuple #[.int .i64 0, .int .i64 0, .bool false])) ∨
  (s.length ≤ 256 ∧ ∃ f : Nat, from_ = f ∧ f ≤ s.length ∧ ((∃ a b : Nat, e = .returned (.tuple #[.int .i64 a, .int .i64 b, .bool true]) ∧ IsHit x.lang s f a b) ∨ (NoHit x.lang s f ∧ e = .returned (.tuple #[.int .i64 0, .int .i64 0, .bool false]))))

/-- A whole array is loaded by an operation whose guard lets it. -/
theorem wpList_load_row_on {P : Program} {ops : Array Oper} {rest : List Oper} {o : Oper} {a : Act} {w : World} {Q : Exit → Act → World → Prop} (hgd : Region.wanted o (yielded ops a.tmps) = true) (ty : TypeId) (x : Operand) (ho : o.op = .load ty x)
    (g : Nat) (hx : a.eval x = .pointer (some ⟨g, 0, none⟩)) (t : TypeId) (cs : Array Value) (fr : Nat × Nat) (d : TypeDesc) (hg : w.heap[g]? = some (.cells cs t fr))
    (hu : P.underlying ty = some d) (hd : (match d with | .struct _ | .array _ _ => true | _ => false) = true) (hi : (P.info? ty).map (·.size) = some cs.size)
    (h : wpList P ops Q rest (a.put o.dst (.agg cs)) w) : wpList P ops Q (o :: rest) a w :=
  wpList_step fun K hK => by rw [if_pos hgd]; exact wp_load_row ty x ho g hx t cs fr d hg hu hd hi (hK _ _ h)

theorem step_load_row {P : Program} {ops : Array Oper} {o : Oper} {a : Act} {w : World} {K : Act → World → Prop} {Q : Exit → Act → World → Prop} {E : Prop} (hgd : o.guard = none) (ty : TypeId) (x : Operand) (ho : o.op = .load ty x)
    (g : Nat) (hx : a.eval x = .pointer (some ⟨g, 0, none⟩)) (t : TypeId) (cs : Array Value) (fr : Nat × Nat) (d : TypeDesc) (hg : w.heap[g]? = some (.cells cs t fr))
    (hu : P.underlying ty = some d) (hd : (match d with | .struct _ | .array _ _ => true | _ => false) = true) (hi : (P.info? ty).map (·.size) = some cs.size)
    (h : K (a.put o.dst (.agg cs)) w) : if Region.wanted o (yielded ops a.tmps) = true then Oper.wp P o a w K Q else E := by
  rw [if_pos (by simp [Region.wanted, hgd])]
  exact wp_load_row ty x ho g hx t cs fr d hg hu hd hi h
theorem step_store_row {P : Program} {ops : Array Oper} {o : Oper} {a : Act} {w : World} {K : Act → World → Prop} {Q : Exit → Act → World → Prop} {E : Prop} (hgd : o.guard = none) (ty : TypeId) (x y : Operand) (ho : o.op = .store ty x y)
    (g : Nat) (cells : Array Value) (hx : a.eval x = .pointer (some ⟨g, 0, none⟩)) (hy : a.eval y = .agg cells)
    (t : TypeId) (old : Array Value) (hg : w.heap[g]? = some (.cells old t (0, 0))) (hi : (P.info? ty).map (·.size) = some cells.size)
    (hold : old.size = cells.size) (h1 : cells.all (·.oneCell') = true)
    (h : K (a.put o.dst undef) (w.setRow g cells)) : if Region.wanted o (yielded ops a.tmps) = true then Oper.wp P o a w K Q else E := by
  rw [if_pos (by simp [Region.wanted, hgd])]
  exact wp_store_row ty x y ho g cells hx hy t old hg hi hold h1 h

theorem hitSays_bad {x : Rx} {s : List UInt8} {f : Int} (h : ¬ (s.length ≤ 256 ∧ 0 ≤ f ∧ f ≤ s.length)) : HitSays x s f (.returned (.tuple #[.int .i64 0, .int .i64 0, .bool false])) := .inl ⟨h, rfl⟩

theorem hitMore {L : List UInt8 → Prop} {s : List UInt8} {f a : Nat} (h : ∀ c, f ≤ c → c < a → ∀ k, c < k → k ≤ s.length → ¬ L (sub s c k)) (he : EndAt L s a s.length 0) : ∀ c, f ≤ c → c < a + 1 → ∀ k, c < k → k ≤ s.length → ¬ L (sub s c k) := by
  intro c h1 h2 k h3 h4
  by_cases hc : c = a
  · subst hc
    rcases he with ⟨-, he⟩ | ⟨h0, -⟩
    · exact he k h3 h4
    · omega
  · exact h c h1 (by omega) k h3 h4
theorem hitFound {L : List UInt8 → Prop} {s : List UInt8} {f a e : Nat} (hf : f ≤ a) (h : ∀ c, f ≤ c → c < a → ∀ k, c < k → k ≤ s.length → ¬ L (sub s c k)) (he : EndAt L s a s.length e) (h0 : ¬ e = 0) : IsHit L s f a e := by
  rcases he with ⟨he, -⟩ | ⟨h1, h2, h3, h4⟩
  · exact absurd he h0
  · exact ⟨hf, h1, h2, h3, h4, h⟩

set_option maxRecDepth 100000 in
set_option maxHeartbeats 2000000 in
theorem hit_any (w : World) (p : Nat) (x : Rx) (s : ByteArray) (f : Int) (h : Machine w p x) (hT : TabAt 0 Lib.deBruijn64tab w) (hf : I64 f) :
    Calls Tryd.prog 24 #[.pointer (some ⟨p, 0, none⟩), .string s, .int .i64 f] w fun e w' => HitSays x s.data.toList f e ∧ Below w.heap.size w w' := by
  have hslen : s.data.toList.length = s.size := by rw [Array.length_toList]; rfl
  unfold I64 at hf
  by_cases h1 : 256 < s.size
  · go_enter Tryd.func24, Tryd.ntmps24
    go_wp2_with fail
    all_goals
      refine bodyPost_ret (results_tmp3 rfl _ _ _) rfl ?_
      exact ⟨hitSays_bad (by omega), Below.refl _ _⟩
  · by_cases h2 : f < 0
    · go_enter Tryd.func24, Tryd.ntmps24
      go_wp2_with fail
      all_goals
        refine bodyPost_ret (results_tmp3 rfl _ _ _) rfl ?_
        exact ⟨hitSays_bad (by omega), Below.refl _ _⟩
    · by_cases h3 : (s.size : Int) < f
      · go_enter Tryd.func24, Tryd.ntmps24
        go_wp2_with fail
        all_goals
          refine bodyPost_ret (results_tmp3 rfl _ _ _) rfl ?_
          exact ⟨hitSays_bad (by omega), Below.refl _ _⟩
      · obtain ⟨f0, rfl⟩ : ∃ f0 : Nat, f = f0 := ⟨f.toNat, by omega⟩
        have HM := Lib.hid h
        have HT := Lib.hid hT; clear hT
        have hmo := x.machine_ok h.form
        have HMO := Lib.hid hmo; clear hmo
        have hpl := h.lt
        have hf0 : f0 ≤ s.size := by omega
        clear h2 hf
        have hd3 : decide ((s.size : Int) < (f0 : Int)) = false := decide_eq_false h3
        have hd1 : decide ((256 : Int) < (s.size : Int)) = false := decide_eq_false (by omega)
        go_enter Tryd.func24, Tryd.ntmps24
        go_wp2_with fail
        go_loopw [9] (fun i wr => ∃ a : Nat, f0 ≤ a ∧ a ≤ s.size ∧ i = .int .i64 a ∧ Below w.heap.size w wr ∧ ∀ c, f0 ≤ c → c < a → ∀ k, c < k → k ≤ s.data.toList.length → ¬ x.lang (sub s.data.toList c k)) (fun i _ => s.size - (intOf i).toNat)
        case atStart => exact ⟨f0, Nat.le_refl _, hf0, rfl, Below.refl _ _, fun c h1 h2 => by omega⟩
        case round =>
          obtain ⟨a, hfa, has, rfl, hbl, hno⟩ := hrel
          obtain ⟨wo, rfl⟩ : ∃ wo, wo = wr := ⟨_, rfl⟩
          have HNO := Lib.hid hno; clear hno
          have HBL := Lib.hid hbl; clear hbl
          by_cases hae : a = s.size
          · subst hae
            go_wp2_with fail
            refine bodyPost_ret (results_tmp3 rfl _ _ _) rfl ?_
            exact ⟨.inr ⟨by omega, f0, rfl, by omega, .inr ⟨fun c k h1 h2 h3 => HNO.out c h1 (by omega) k h2 h3, rfl⟩⟩, HBL.out⟩
          · have hmr : Machine wo p x := HM.out.below HBL.out
            obtain ⟨v, ws, hp, hv, hw, hs⟩ := hmr.ex
            obtain ⟨CS, HCS⟩ : ∃ CS, Hid ((wv ws).toArray = CS) := ⟨_, rfl⟩
            have HSZ := Lib.hid (wvInfo hw)
            have H12 := Lib.hid (show (12 : Nat) = (wv ws).toArray.size from (wv12 hw).symm)
            have H1 := Lib.hid (wvOne ws)
            rw [HCS.out] at HSZ H12 H1
            have HC := Lib.hid (show ∀ j u, CS[j]? = some u → wo.cell? ⟨p, 1 + j, none⟩ = some u by
              intro j u hj
              rw [cell_of_block hp, List.getElem?_toArray, Nat.add_comm, List.getElem?_cons_succ, ← List.getElem?_toArray, HCS.out]
              exact hj)
            have HZ := Lib.hid (show (wo.alloc zero12).heap[wo.heap.size]? = some zero12 from alloc_block wo _)
            clear hp
            go_wp2_with (first
              | refine wpList_load_at rfl 66 (.tmp 35) rfl p 1 rfl CS _ HC.out Tryd.underlying66 rfl HSZ.out ?_
              | refine wpList_store_row rfl 66 (.tmp 11) (.tmp 36) rfl wo.heap.size CS rfl rfl 66 _ HZ.out HSZ.out H12.out H1.out ?_)
            have hW1 : ∀ W1, W1 = (wo.alloc zero12).setRow wo.heap.size CS → W1.heap.size = wo.heap.size + 1 ∧ W1.heap[wo.heap.size]? = some (.cells CS 66 (0, 0)) ∧ Below wo.heap.size wo W1 := by
              rintro W1 rfl
              refine ⟨by simp, setRow_heap _ _ _ _ _ _ HZ.out, ?_⟩
              have h1 := (Below.refl wo.heap.size wo).alloc (Nat.le_refl _) zero12
              exact ⟨h1.os, h1.tape, h1.output, by simp, fun k hk => (setRow_other _ _ _ _ (by omega)).trans (h1.block k hk)⟩
            generalize hg1 : World.setRow (World.alloc wo _) _ _ = W1
            obtain ⟨hz1, hr1, hb1⟩ := hW1 W1 hg1.symm
            clear hW1 hg1
            have HR1 := Lib.hid hr1; clear hr1
            have HB1 := Lib.hid hb1; clear hb1
            have hwrs := HBL.out.size
            go_loopw [10, 12] (fun e b wi => ∃ en bb : Nat, e = .int .i64 en ∧ b = .int .i64 bb ∧ a ≤ bb ∧ bb ≤ s.size ∧ EndAt x.lang s.data.toList a bb en ∧ ∃ wsi, wi.heap[wo.heap.size]? = some (.cells (wv wsi).toArray 66 (0, 0)) ∧ Words wsi ∧
                SetAt x s.data.toList a bb wsi ∧ Only (fun j => j = wo.heap.size) W1 wi) (fun _ b _ => s.size - (intOf b).toNat)
            case atStart =>
              exact ⟨0, a, rfl, rfl, Nat.le_refl _, by omega, .inl ⟨rfl, fun k h1 h2 => by omega⟩, ws, by rw [HCS.out]; exact HR1.out, hw, setAt_start _ _ hs, Only.refl _ _⟩
            case round =>
              obtain ⟨en, bb, rfl, rfl, hab, hbs, hend, wsi, hq, hwi, hset, honly⟩ := hrel
              have HEND := Lib.hid hend; clear hend
              have HSET := Lib.hid hset; clear hset
              obtain ⟨CX, HCX⟩ : ∃ CX, Hid ((wv wsi).toArray = CX) := ⟨_, rfl⟩
              have HSX := Lib.hid (wvInfo hwi)
              have hne := run_eq12 wsi hwi
              rw [HCX.out] at hq HSX hne
              have hbwi : Below wo.heap.size wo wr := HB1.out.trans (honly.below (by omega) (by intro j hj; omega))
              have hbwr : Below w.heap.size w wr := HBL.out.trans (hbwi.mono hwrs)
              have HQ := Lib.hid hq; clear hq
              by_cases hbe : bb = s.size
              · have hd : decide ((bb : Int) < (s.size : Int)) = false := decide_eq_false (by omega)
                have hall : EndAt x.lang s.data.toList a s.data.toList.length en := HEND.out.all (fun k h1 h2 => by omega) (by omega)
                have HALL := Lib.hid hall; clear hall hne
                by_cases hen : en = 0
                · subst hen
                  go_wp2_with fail
                  exact ⟨⟨a + 1, by omega, by omega, by simp, hbwr, hitMore HNO.out HALL.out⟩, by simp only [intOf]; omega⟩
                · go_wp2_with fail
                  refine bodyPost_ret (results_tmp3 rfl _ _ _) rfl ?_
                  exact ⟨.inr ⟨by omega, f0, rfl, by omega, .inl ⟨a, en, rfl, hitFound hfa HNO.out HALL.out hen⟩⟩, hbwr⟩
              · have hd : decide ((bb : Int) < (s.size : Int)) = true := decide_eq_true (by omega)
                have hbi : (bb : Int) < (s.size : Int) := by omega
                by_cases hz : wsi = List.replicate 12 0
                · have hall : EndAt x.lang s.data.toList a s.data.toList.length en := HEND.out.all (fun k h1 h2 => HSET.out.dead h.form hab hz k (by omega)) (by omega)
                  have HALL := Lib.hid hall; clear hall
                  rw [decide_eq_true hz] at hne
                  clear hz
                  by_cases hen : en = 0
                  · subst hen
                    go_wp2_with (first
                      | refine wpList_load_row_on rfl 66 (.tmp 11) rfl wo.heap.size rfl 66 CX (0, 0) _ HQ.out Tryd.underlying66 rfl HSX.out ?_)
                    exact ⟨⟨a + 1, by omega, by omega, by simp, hbwr, hitMore HNO.out HALL.out⟩, by simp only [intOf]; omega⟩
                  · go_wp2_with (first
                      | refine wpList_load_row_on rfl 66 (.tmp 11) rfl wo.heap.size rfl 66 CX (0, 0) _ HQ.out Tryd.underlying66 rfl HSX.out ?_)
                    refine bodyPost_ret (results_tmp3 rfl _ _ _) rfl ?_
                    exact ⟨.inr ⟨by omega, f0, rfl, by omega, .inl ⟨a, en, rfl, hitFound hfa HNO.out HALL.out hen⟩⟩, hbwr⟩
                · rw [decide_eq_false hz] at hne
                  clear hz
                  go_wp2_with (first
                    | refine wpList_load_row_on rfl 66 (.tmp 11) rfl wo.heap.size rfl 66 CX (0, 0) _ HQ.out Tryd.underlying66 rfl HSX.out ?_)
                  have hbl : bb < s.data.toList.length := by omega
                  obtain ⟨c, HBB⟩ : ∃ c : UInt8, Hid (s.data.toList[bb] = c) := ⟨_, Lib.hid rfl⟩
                  have hidx : ∀ W : World, (Instr.index 9 (.string s) (.int .i64 bb)).run Tryd.prog W = .ok (.int .u8 c.toNat) W := by
                    intro W
                    have hi : (0 : Int) ≤ (bb : Int) ∧ (bb : Int) < (s.size : Int) := by omega
                    rw [run_index_string (h := Tryd.underlying9), dif_pos hi, ← HBB.out]
                    rfl
                  have hmr2 : Machine wr p x := HM.out.below hbwr
                  have hstep : Calls Tryd.prog 42 #[.pointer (some ⟨p, 0, none⟩), .agg CX, .int .u8 c.toNat] wr.drew fun e w' => ∃ ws', e = .returned (.agg (wv ws').toArray) ∧ Words ws' ∧
                      (∀ i, bitW ws' i = true ↔ after x.machine.1 (fun i => bitW wsi i = true) c i) ∧ Below wr.heap.size wr w' := by
                    obtain ⟨v', ws', hp', hv', -, -⟩ := hmr2.ex
                    have h := step_any wr.drew p v' x.machine.1 wsi c.toNat ⟨hv'.ex⟩ (by rw [show wr.drew.cell? ⟨p, 0, none⟩ = wr.cell? ⟨p, 0, none⟩ from rfl, cell_of_block hp']; rfl) (TabAt.below HT.out hbwr.drew) HMO.out.1 (machine_64 h.ok) (by have := h.few; omega) hwi (HSET.out.lt h.form) (UInt8.toNat_lt _)
                    rw [HCX.out, UInt8.ofNat_toNat] at h
                    refine h.mono ?_
                    rintro e w' ⟨ws2, h1, h2, h3, h4⟩
                    exact ⟨ws2, h1, h2, h3, ((Below.refl wr.heap.size wr).drew).trans h4⟩
                  have HSTEP := Lib.hid hstep; clear hstep hne
                  go_cut [] from 49 to 54 (fun wc => ∃ ws1, wc.heap[wo.heap.size]? = some (.cells (wv ws1).toArray 66 (0, 0)) ∧ Words ws1 ∧ (∀ i, bitW ws1 i = true ↔ after x.machine.1 (fun i => bitW wsi i = true) c i) ∧ Only (fun j => j = wo.heap.size) W1 wc)
                  case first =>
                    refine wp_region_any (by kernel_rfl) ?_
                    change wpAny _ _ _ _ _ _ _ (World.drew _)
                    refine wpAny_take (i := 0) (v := .pointer (some ⟨p, 0, none⟩)) rfl (by kernel_rfl) (by kernel_rfl) (by kernel_rfl) (fun _ _ _ h => h) (Or.inl ⟨by rfl, fun w => by go_simp⟩) ?_
                    refine wpAny_take (i := 2) (v := .string s) rfl (by kernel_rfl) (by kernel_rfl) (by kernel_rfl) (fun _ _ _ h => h) (Or.inl ⟨by rfl, fun w => by go_simp⟩) ?_
                    refine wpAny_take (i := 3) (v := .int .i64 bb) rfl (by kernel_rfl) (by kernel_rfl) (by kernel_rfl) (fun _ _ _ h => h) (Or.inl ⟨by rfl, fun w => by go_simp⟩) ?_
                    refine wpAny_take (i := 4) (v := .int .u8 c.toNat) rfl (by kernel_rfl) (by kernel_rfl) (by kernel_rfl) (fun _ _ _ h => h) (Or.inl ⟨by rfl, fun w => by go_simp⟩) ?_
                    refine wpAny_ready (rs := [1]) (by kernel_rfl) (by simp) (AllReady.cons rfl (fun K hK => ?_) AllReady.nil)
                    refine step_load_row rfl 66 (.tmp 11) rfl wo.heap.size rfl 66 CX (0, 0) _ HQ.out Tryd.underlying66 rfl HSX.out ?_
                    refine hK _ _ ?_
                    clear hK K
                    refine wpAny_ready (rs := [5]) (by kernel_rfl) (by simp) (AllReady.cons rfl (fun K hK => ?_) AllReady.nil)
                    go_simp
                    refine HSTEP.out.mono ?_
                    rintro e w1 ⟨ws1, rfl, hw1, hb1, hbl1⟩
                    obtain ⟨C1, HC1⟩ : ∃ C1, Hid ((wv ws1).toArray = C1) := ⟨_, rfl⟩
                    rw [HC1.out]
                    refine hK _ _ ?_
                    clear hK K
                    refine wpAny_ready (rs := [6]) (by kernel_rfl) (by simp) (AllReady.cons rfl (fun K hK => ?_) AllReady.nil)
                    refine step_store_row rfl 66 (.tmp 11) (.tmp 54) rfl wo.heap.size C1 rfl rfl 66 CX ((hbl1.block wo.heap.size (lt_of_block HQ.out)).trans HQ.out) (by rw [← HC1.out]; exact wvInfo hw1) (by rw [← HC1.out, wv12 hw1, ← HCX.out, wv12 hwi]) (by rw [← HC1.out]; exact wvOne ws1) ?_
                    refine hK _ _ ?_
                    clear hK K
                    refine wpAny_done (by kernel_rfl) ?_ _
                    go_wp2_with fail
                    go_meet
                    case rel =>
                      exact ⟨ws1, by rw [HC1.out]; exact setRow_heap _ _ _ _ _ _ ((hbl1.block wo.heap.size (lt_of_block HQ.out)).trans HQ.out), hw1, hb1, (honly.trans (Only.of_below hbl1)).setRow (.inl rfl) _⟩
                  case rest =>
                    obtain ⟨ws1, hq1, hw1, hb1, hon1⟩ := hcut
                    have hset1 : SetAt x s.data.toList a (bb + 1) ws1 := HSET.out.next hab hbl (by rw [HBB.out]; exact hb1)
                    have hdone := done_any wc ws1 hw1
                    obtain ⟨C1, HC1⟩ : ∃ C1, Hid ((wv ws1).toArray = C1) := ⟨_, rfl⟩
                    have HS1 := Lib.hid (wvInfo hw1)
                    rw [HC1.out] at hdone hq1 HS1
                    have HDN := Lib.hid hdone; clear hdone
                    have HQ1 := Lib.hid hq1; clear hq1
                    have HSET1 := Lib.hid hset1; clear hset1
                    cases hdn : bitW ws1 0
                    · rw [hdn] at HDN
                      have hend1 : EndAt x.lang s.data.toList a (bb + 1) en := HEND.out.no (fun h' => by rw [(HSET1.out.is h.form).2 h'] at hdn; cases hdn)
                      have HEND1 := Lib.hid hend1; clear hend1
                      go_wp2_with (first
                        | refine wpList_load_row rfl 66 (.tmp 11) rfl wo.heap.size rfl 66 C1 (0, 0) _ HQ1.out Tryd.underlying66 rfl HS1.out ?_
                        | (go_at_call 43; refine HDN.out.mono ?_; rintro e w1 ⟨rfl, hbl1⟩))
                      go_roundw
                      case measure => simp only [intOf]; omega
                      case rel =>
                        exact ⟨en, bb + 1, rfl, by simp, by omega, by omega, HEND1.out, ws1, by rw [HC1.out, hbl1.block _ (lt_of_block HQ1.out)]; exact HQ1.out, hw1, HSET1.out, hon1.trans (Only.of_below hbl1)⟩
                    · rw [hdn] at HDN
                      have hend1 : EndAt x.lang s.data.toList a (bb + 1) (bb + 1) := EndAt.yes hab ((HSET1.out.is h.form).1 hdn)
                      have HEND1 := Lib.hid hend1; clear hend1
                      go_wp2_with (first
                        | refine wpList_load_row rfl 66 (.tmp 11) rfl wo.heap.size rfl 66 C1 (0, 0) _ HQ1.out Tryd.underlying66 rfl HS1.out ?_
                        | (go_at_call 43; refine HDN.out.mono ?_; rintro e w1 ⟨rfl, hbl1⟩))
                      go_roundw
                      case measure => simp only [intOf]; omega
                      case rel =>
                        exact ⟨bb + 1, bb + 1, by simp, by simp, by omega, by omega, HEND1.out, ws1, by rw [HC1.out, hbl1.block _ (lt_of_block HQ1.out)]; exact HQ1.out, hw1, HSET1.out, hon1.trans (Only.of_below hbl1)⟩
end Go.Proofs.YtaelkjffidjcjaaDoor
