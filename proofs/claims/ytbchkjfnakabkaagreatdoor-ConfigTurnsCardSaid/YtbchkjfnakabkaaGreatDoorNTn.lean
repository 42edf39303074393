/- The walk of law11.ConfigTurns. (Printed by gen_ntn.py.) -/
import Derived.Test.YtbchkjfnakabkaaGreatDoorNSS
import Derived.Deep.AppendLies
import Derived.Deep.CutRange
import Derived.Deep.RegionHeld3
import Derived.Deep.CutBlock
set_option linter.unusedSimpArgs false
set_option linter.unusedVariables false
namespace Go.Proofs.YtbchkjfnakabkaaGreatDoor
open Go.RowKit PX PC
open Go.Act renaming put → p0
open Later renaming refl → l0, drew → l1, trans → l2
open List renaming getElem_toArray → p1, getElem_cons_succ → p2, getElem_cons_zero → p3, setIfInBounds_toArray → p4, set_cons_zero → p5, set_cons_succ → p6

theorem info_ot : (Tryz.prog.info? 51).map (fun i => (i.zero, i.size, i.bytes)) = some (some (.agg #[.int .i64 0, .int .i64 0, .int .i64 0, .int .i64 0, .int .i64 0]), 5, 40) := by kernel_rfl
theorem info_rt : (Tryz.prog.info? 53).map (fun i => (i.zero, i.size, i.bytes)) = some (some (.agg #[.int .i64 0, .int .i64 0, .int .i64 0, .string ⟨#[]⟩, .string ⟨#[]⟩]), 5, 56) := by kernel_rfl
theorem row_big {α : Type} {w : World} {B k : Nat} {e : TypeId} {v : Value} {f : α → List Value} {l : List α} (hf : ∀ x, (f x).length = k) (hn : l.length * k ≤ 140737488355328) (h : w.ownsRow B e k v l.length (flatC f l)) : RowAt w k v (l.map f) := by
  have hlt := h.lt
  have hfl : ∀ l : List α, (flatC f l).length = l.length * k := fun l => by
    induction l with
    | nil => simp [flatC]
    | cons y l ih => simp [flatC, ih, hf, Nat.add_mul]; omega
  rcases h.2 with ⟨rfl, h0⟩ | ⟨g, cap, cur, rfl, hg, hb, hc1, hc2, -⟩
  · have hl : l = [] := List.eq_nil_of_length_eq_zero h0
    subst hl
    exact RowAt.nil w k
  · have hcell := fun j hj => h.cellAt j hj
    refine ⟨some ⟨g, 0, none⟩, cap, by rw [List.length_map], by rw [List.length_map]; exact hc1, hc2, by rw [List.length_map]; exact hn, .inr ⟨g, 0, rfl, (hlt g rfl).2, fun i hi j hj => ?_⟩⟩
    rw [List.length_map] at hi
    have hij : i * k + j < l.length * k := by
      have : (i + 1) * k ≤ l.length * k := Nat.mul_le_mul_right _ hi
      rw [Nat.add_mul] at this; omega
    rw [Nat.zero_add, hcell _ hij, flatC_get f k hf l i hi j hj, List.getElem_map]
def revT {α : Type} (l : List α) (j : Nat) : List α := l.reverse.take j
theorem revT_len {α : Type} (l : List α) {j : Nat} (h : j ≤ l.length) : (revT l j).length = j := by unfold revT; rw [List.length_take, List.length_reverse]; omega
theorem revT_succ {α : Type} (l : List α) {j i : Nat} (h : i < l.length) (hi : i + j + 1 = l.length) : revT l (j + 1) = revT l j ++ [l[i]] := by
  have hj : j < l.reverse.length := by rw [List.length_reverse]; omega
  unfold revT
  rw [take_succ_snoc hj, List.getElem_reverse]
  congr 2
  congr 1
  omega
theorem revT_all {α : Type} (l : List α) : revT l l.length = l.reverse := by unfold revT; rw [List.take_of_length_le (by simp)]
theorem own_apartT {w : World} {B1 B2 n1 n2 k1 k2 : Nat} {e1 e2 : TypeId} {v1 v2 : Value} {x1 x2 : List Value} (h1 : w.ownsRow B1 e1 k1 v1 n1 x1) (h2 : w.ownsRow B2 e2 k2 v2 n2 x2) (hne : e1 ≠ e2) : v1.ownBlock = none ∨ v1.ownBlock ≠ v2.ownBlock := by
  rcases h1.2 with ⟨rfl, -⟩ | ⟨g1, c1, u1, rfl, -, b1, -⟩
  · exact .inl rfl
  · rcases h2.2 with ⟨rfl, -⟩ | ⟨g2, c2, u2, rfl, -, b2, -⟩
    · exact .inr (by simp [Value.ownBlock])
    · refine .inr fun e => hne ?_
      have : g1 = g2 := by simpa [Value.ownBlock] using e
      subst this
      rw [b1] at b2
      have := Option.some.inj b2
      injection this
structure TurnIn (w0 : World) (p q B : Nat) (c : Cfg) (v : V7) (lV : List Vol) (lO : List Por) (lR : List Ru) (dV dO dR : Value) (w : World) : Prop where
  later : Later w0 w
  par : VarAt w p c v
  var : VarAt w q { c with volumes := lV, ports := lO, rules := lR } { v with V := dV, O := dO, R := dR }
  oV : RowAt w0 4 dV (lV.map volC) ∨ w.ownsRow B 28 4 dV lV.length (flatC volC lV)
  oO : RowAt w0 5 dO (lO.map porC) ∨ w.ownsRow B 51 5 dO lO.length (flatC porC lO)
  oR : RowAt w0 5 dR (lR.map ruC) ∨ w.ownsRow B 53 5 dR lR.length (flatC ruC lR)
theorem own_alloc_drew {w : World} {B n k : Nat} {e : TypeId} {v : Value} {xs : List Value} (h : w.ownsRow B e k v n xs) (o : Obj) : (w.alloc o).drew.ownsRow B e k v n xs := h.alloc o
theorem own_setT {w : World} {B n k q : Nat} {e : TypeId} {v : Value} {xs : List Value} (h : w.ownsRow B e k v n xs) (hq : q < B) (j : Nat) (u : Value) : (w.setCell ⟨q, j, none⟩ u).ownsRow B e k v n xs :=
  (setC_only w q j u).ownsRow h fun g hg hr => by have := (h.lt g hg).1; have : g = q := hr; omega
variable {w0 w w3 : World} {p q B n g cap : Nat} {c : Cfg} {v : V7} {lV : List Vol} {lO : List Por} {lR : List Ru} {dV dO dR : Value}
theorem turn_core (h : TurnIn w0 p q B c v lV lO lR dV dO dR w) (o : Obj) {d : Option Nat} (hlt : ∀ k, d = some k → B ≤ k) (hg : ((w.alloc o).drew).grownBy w3 d) (h0 : w0.heap.size ≤ p) (hpq : p < q) (hqB : q < B) (hB : B ≤ w.heap.size) :
    Later w0 w3 ∧ VarAt w3 p c v ∧ VarAt w3 q { c with volumes := lV, ports := lO, rules := lR } { v with V := dV, O := dO, R := dR } := by
  have hsz : w.heap.size < (w.alloc o).drew.heap.size := by show w.heap.size < (w.alloc o).heap.size; simp
  have hp0 := h.par.lt
  have hq0 := h.var.lt
  exact ⟨Later.grown ((h.later.alloc o).drew) hg (fun k e => by have := hlt k e; omega), (hg.block p (by omega) (fun e => by have := hlt p e.symm; omega)).trans (alloc_old h.par _), (hg.block q (by omega) (fun e => by have := hlt q e.symm; omega)).trans (alloc_old h.var _)⟩
theorem or_set {A : Prop} {e : TypeId} {k m : Nat} {d : Value} {xs : List Value} (hh : A ∨ w.ownsRow B e k d m xs) (hqB : q < B) (j : Nat) (u : Value) : A ∨ (w.setCell ⟨q, j, none⟩ u).ownsRow B e k d m xs := hh.imp id fun x => own_setT x hqB j u
theorem or_keep {A : Prop} {e e2 : TypeId} {k m k2 m2 : Nat} {d d2 : Value} {xs xs2 : List Value} (hh : A ∨ w.ownsRow B e k d m xs) (hown : w.ownsRow B e2 k2 d2 m2 xs2) {o : Obj} (hg : ((w.alloc o).drew).grownBy w3 d2.ownBlock) (hne : e ≠ e2) (hqB : q < B) (j : Nat) (u : Value) :
    A ∨ (w3.setCell ⟨q, j, none⟩ u).ownsRow B e k d m xs := hh.imp id fun x => own_setT ((own_alloc_drew x o).kept hg (own_apartT x hown hne)) hqB j u
theorem TurnIn.putV (h : TurnIn w0 p q B c v lV lO lR dV dO dR w) (hown : w.ownsRow B 28 4 dV lV.length (flatC volC lV)) (x : Vol) (o : Obj) (hn : lV.length = n)
    (h3 : w3.ownsRow B 28 4 (.slice (some ⟨g, 0, none⟩) (n + 1) cap) (n + 1) (flatC volC lV ++ volC x)) (hg : ((w.alloc o).drew).grownBy w3 dV.ownBlock) (h0 : w0.heap.size ≤ p) (hpq : p < q) (hqB : q < B) (hB : B ≤ w.heap.size) :
    TurnIn w0 p q B c v (lV ++ [x]) lO lR (.slice (some ⟨g, 0, none⟩) (n + 1) cap) dO dR (w3.setCell ⟨q, 5, none⟩ (.slice (some ⟨g, 0, none⟩) (n + 1) cap)) := by
  obtain ⟨k1, k2, k3⟩ := turn_core h o (fun k e => (hown.lt k e).1) hg h0 hpq hqB hB
  exact ⟨Later.setC k1 (by omega) _ _, ((setC_only w3 q 5 _).block p k2.lt (by omega)).trans k2, VarAt.set k3 5 _ rfl, .inr (by rw [flatC_snoc, List.length_append, List.length_singleton, hn]; exact own_setT h3 hqB _ _), or_keep h.oO hown hg (by decide) hqB _ _, or_keep h.oR hown hg (by decide) hqB _ _⟩
theorem TurnIn.putO (h : TurnIn w0 p q B c v lV lO lR dV dO dR w) (hown : w.ownsRow B 51 5 dO lO.length (flatC porC lO)) (x : Por) (o : Obj) (hn : lO.length = n)
    (h3 : w3.ownsRow B 51 5 (.slice (some ⟨g, 0, none⟩) (n + 1) cap) (n + 1) (flatC porC lO ++ porC x)) (hg : ((w.alloc o).drew).grownBy w3 dO.ownBlock) (h0 : w0.heap.size ≤ p) (hpq : p < q) (hqB : q < B) (hB : B ≤ w.heap.size) :
    TurnIn w0 p q B c v lV (lO ++ [x]) lR dV (.slice (some ⟨g, 0, none⟩) (n + 1) cap) dR (w3.setCell ⟨q, 4, none⟩ (.slice (some ⟨g, 0, none⟩) (n + 1) cap)) := by
  obtain ⟨k1, k2, k3⟩ := turn_core h o (fun k e => (hown.lt k e).1) hg h0 hpq hqB hB
  exact ⟨Later.setC k1 (by omega) _ _, ((setC_only w3 q 4 _).block p k2.lt (by omega)).trans k2, VarAt.set k3 4 _ rfl, or_keep h.oV hown hg (by decide) hqB _ _, .inr (by rw [flatC_snoc, List.length_append, List.length_singleton, hn]; exact own_setT h3 hqB _ _), or_keep h.oR hown hg (by decide) hqB _ _⟩
theorem TurnIn.putR (h : TurnIn w0 p q B c v lV lO lR dV dO dR w) (hown : w.ownsRow B 53 5 dR lR.length (flatC ruC lR)) (x : Ru) (o : Obj) (hn : lR.length = n)
    (h3 : w3.ownsRow B 53 5 (.slice (some ⟨g, 0, none⟩) (n + 1) cap) (n + 1) (flatC ruC lR ++ ruC x)) (hg : ((w.alloc o).drew).grownBy w3 dR.ownBlock) (h0 : w0.heap.size ≤ p) (hpq : p < q) (hqB : q < B) (hB : B ≤ w.heap.size) :
    TurnIn w0 p q B c v lV lO (lR ++ [x]) dV dO (.slice (some ⟨g, 0, none⟩) (n + 1) cap) (w3.setCell ⟨q, 12, none⟩ (.slice (some ⟨g, 0, none⟩) (n + 1) cap)) := by
  obtain ⟨k1, k2, k3⟩ := turn_core h o (fun k e => (hown.lt k e).1) hg h0 hpq hqB hB
  exact ⟨Later.setC k1 (by omega) _ _, ((setC_only w3 q 12 _).block p k2.lt (by omega)).trans k2, VarAt.set k3 12 _ rfl, or_keep h.oV hown hg (by decide) hqB _ _, or_keep h.oO hown hg (by decide) hqB _ _, .inr (by rw [flatC_snoc, List.length_append, List.length_singleton, hn]; exact own_setT h3 hqB _ _)⟩
theorem turn_zeroO (h : TurnIn w0 p q B c v lV lO lR dV dO dR w) (h0 : w0.heap.size ≤ p) (hpq : p < q) (hqB : q < B) : TurnIn w0 p q B c v lV [] lR dV (.slice none 0 0) dR (w.setCell ⟨q, 4, none⟩ (.slice none 0 0)) :=
  ⟨Later.setC h.later (by omega) _ _, ((setC_only w q 4 _).block p h.par.lt (by omega)).trans h.par, VarAt.set h.var 4 _ rfl, or_set h.oV hqB _ _, .inr (World.ownsRow_nil _ _ _ _), or_set h.oR hqB _ _⟩
theorem turn_zeroR (h : TurnIn w0 p q B c v lV lO lR dV dO dR w) (h0 : w0.heap.size ≤ p) (hpq : p < q) (hqB : q < B) : TurnIn w0 p q B c v lV lO [] dV dO (.slice none 0 0) (w.setCell ⟨q, 12, none⟩ (.slice none 0 0)) :=
  ⟨Later.setC h.later (by omega) _ _, ((setC_only w q 12 _).block p h.par.lt (by omega)).trans h.par, VarAt.set h.var 12 _ rfl, or_set h.oV hqB _ _, or_set h.oO hqB _ _, .inr (World.ownsRow_nil _ _ _ _)⟩
theorem ld_rowT {o : Oper} {a : Act} {t : Tmp} {p : Nat} {c : Cfg} {v : V7} {w : World} (ho : o.op = .load 32 (.tmp t)) (ha : a.eval (.tmp t) = .pointer (some ⟨p, 0, none⟩)) (h : VarAt w p c v) : (execOp a.eval o).run Tryz.prog w = .ok (.value (.agg (cfgA c v))) w := by
  have h1 := run_loadVar_row w p 32 32 (cfgA c v) (0, 0) _ h Tryz.underlying32 rfl (cfgA_info c v)
  unfold execOp
  simp only [ho, ha, Instr.loadAt, Instr.sureAddr, Sem.run_bind, Sem.run_pure, Result.andThen_ok, h1]
theorem turn_rows (h : TurnIn w0 p q B c v lV lO lR dV dO dR w) (r : RowsOf w0 c v) (bV : lV.length * 4 ≤ 140737488355328) (bO : lO.length * 5 ≤ 140737488355328) (bR : lR.length * 5 ≤ 140737488355328) :
    RowsOf w { c with volumes := lV, ports := lO, rules := lR } { v with V := dV, O := dO, R := dR } := by
  refine ⟨r.rF.later h.later, r.rP.later h.later, r.rW.later h.later, ?_, ?_, ?_, r.rK.later h.later⟩
  · rcases h.oO with hh | hh
    · exact hh.later h.later
    · exact row_big (fun _ => rfl) bO hh
  · rcases h.oV with hh | hh
    · exact hh.later h.later
    · exact row_big (fun _ => rfl) bV hh
  · rcases h.oR with hh | hh
    · exact hh.later h.later
    · exact row_big (fun _ => rfl) bR hh
theorem turned_I {c : Cfg} (h : CfgI c) : CfgI c.turned :=
  ⟨h.levels, h.flows, h.parts, h.windows, fun x hx => h.ports x (List.mem_reverse.1 hx), fun x hx => h.volumes x (List.mem_reverse.1 hx), h.audit, h.boot, h.sectors, fun x hx => h.rules x (List.mem_reverse.1 hx), h.keys, h.login, h.recovery, h.bound⟩
theorem turned_W {c : Cfg} (h : CfgW c) : CfgW c.turned := by
  unfold CfgW Cfg.turned at *
  simp only [List.length_reverse]
  exact h
theorem chk_turned (w : World) (c : Cfg) (v : V7) (h : RowsOf w c.turned v) (hI : CfgI c) (hW : CfgW c) : Calls Tryz.prog 10 #[.agg (cfgA c.turned v)] w fun e w' => e = .returned (.int .i64 (chkI c)) ∧ Later w w' := by
  have := check_at w c.turned v h (turned_I hI) (turned_W hW)
  rwa [show chkI c.turned = chkI c by unfold chkI; rw [turned_check]] at this
theorem need_turned (w : World) (c : Cfg) (v : V7) (h : RowsOf w c.turned v) (hI : CfgI c) (hW : CfgW c) : Calls Tryz.prog 12 #[.agg (cfgA c.turned v)] w fun e w' => e = .returned (.int .i64 c.needB) ∧ Later w w' := by
  have := need_at w c.turned v h (turned_I hI) (turned_W hW)
  rwa [turned_needB] at this

set_option maxRecDepth 100000 in
set_option maxHeartbeats 8000000 in
theorem cturns_any (w : World) (c : Cfg) (v : V7) (h0 : RowsOf w c v) (hI : CfgI c) (hW : CfgW c) :
    Calls Tryz.prog 7 #[.agg (cfgA c v)] w fun e w' => e = .returned (.bool true) ∧ Later w w' := by
  have HFX := Lib.hid fixed11_any
  obtain ⟨aV, cV, eqV, pV1, pV2, pV3⟩ := row_val h0.rV
  obtain ⟨aO, cO, eqO, pO1, pO2, pO3⟩ := row_val h0.rO
  obtain ⟨aR, cR, eqR, pR1, pR2, pR3⟩ := row_val h0.rR
  have HROWV := Lib.hid (fun (w' : World) (h : Later w w') => eqV ▸ h0.rV.later h)
  have HROWO := Lib.hid (fun (w' : World) (h : Later w w') => eqO ▸ h0.rO.later h)
  have HROWR := Lib.hid (fun (w' : World) (h : Later w w') => eqR ▸ h0.rR.later h)
  obtain ⟨nV, hnV⟩ : ∃ n, c.volumes.length = n := ⟨_, rfl⟩
  obtain ⟨nO, hnO⟩ : ∃ n, c.ports.length = n := ⟨_, rfl⟩
  obtain ⟨nR, hnR⟩ : ∃ n, c.rules.length = n := ⟨_, rfl⟩
  have HNV := Lib.hid hnV
  have HNO := Lib.hid hnO
  have HNR := Lib.hid hnR
  rw [hnV] at HROWV pV1 pV3 eqV
  rw [hnO] at HROWO pO1 pO3 eqO
  rw [hnR] at HROWR pR1 pR3 eqR
  have hWV : nV * 32 ≤ 140737488351232 := by rw [← hnV]; exact hW.1
  have hWO : nO * 40 ≤ 140737488351232 := by rw [← hnO]; exact hW.2.1
  have hWR : nR * 56 ≤ 140737488351232 := by rw [← hnR]; exact hW.2.2
  have HVV := Lib.hid eqV
  have HVO := Lib.hid eqO
  have HVR := Lib.hid eqR
  have H0 := Lib.hid h0
  obtain ⟨p, hp⟩ : ∃ p, w.heap.size = p := ⟨_, rfl⟩
  obtain ⟨w1, hw1⟩ : ∃ w1, w.alloc (.cells (cfgA c v) 32) = w1 := ⟨_, rfl⟩
  have hl1 : Later w w1 := by rw [← hw1]; exact (Later.refl w).alloc _
  have hv1 : VarAt w1 p c v := by unfold VarAt; rw [← hw1, ← hp]; exact alloc_block w _
  have hs1 : w1.heap.size = p + 1 := by rw [← hw1, ← hp]; simp
  have HW1 := Lib.hid hw1
  have HP := Lib.hid hp
  have hp0 : w.heap.size ≤ p := by omega
  have HONE := Lib.hid h0.one
  have HS1 := Lib.hid hs1
  have HIW := Lib.hid (And.intro hI hW)
  clear hp hw1 hnV hnO hnR eqV eqO eqR h0 hI hW hs1
  go_enter Tryz.func7, Tryz.ntmps7
  go_upto_region 1 with fail
  rw [HW1.out, HP.out]
  go_upto_region 2 with (first
    | refine wpList_load_row_on rfl 32 (.tmp 1) rfl p rfl 32 (cfgA c v) (0, 0) _ hv1 Tryz.underlying32 rfl (cfgA_info _ _) ?_
    | refine wpList_store_row rfl 32 (.tmp 3) (.tmp 7) rfl w1.heap.size (cfgA c v) rfl rfl 32 _ (alloc_block _ _) (cfgA_info _ _) rfl HONE.out ?_
    | fail)
  generalize hW2 : World.setRow _ _ _ = W2
  have hv2 : VarAt W2 w1.heap.size c v := by rw [← hW2]; exact (var_new _ _ _ _).1
  have hl2 : Later w1 W2 := by rw [← hW2]; exact (var_new _ _ _ _).2
  clear hW2
  rw [HS1.out] at hv2
  (try rw [HS1.out])
  obtain ⟨q, hq⟩ : ∃ q, p + 1 = q := ⟨_, rfl⟩
  rw [hq] at hv2
  (try rw [hq])
  obtain ⟨B, hB⟩ : ∃ B, q + 1 = B := ⟨_, rfl⟩
  have hBs2 : B ≤ W2.heap.size := by have := hv2.lt; omega
  have hvp := hv1.later hl2
  obtain ⟨u, m0⟩ := Option.isSome_iff_exists.1 (show (W2.cell? ⟨q, 5, none⟩).isSome = true by rw [cell_of_block hv2 5]; rfl)
  have m1 := free_of_block hv2 5
  have HV2 := Lib.hid (And.intro hv2 (And.intro hvp (hl1.trans hl2)))
  clear hv2 hvp hl1 hl2 hv1
  go_upto_region 3 with fail
  generalize hW3 : World.setCell _ _ _ = W3
  have ht0 : TurnIn w p q B c v [] c.ports c.rules (.slice none 0 0) v.O v.R W3 := by
    rw [← hW3]
    have hon := setC_only W2 q 5 (.slice none 0 0)
    exact ⟨Later.setC HV2.out.2.2 (by omega) _ _, (hon.block p HV2.out.2.1.lt (by omega)).trans HV2.out.2.1, VarAt.set HV2.out.1 5 _ rfl, .inr (World.ownsRow_nil _ _ _ _), .inl H0.out.rO, .inl H0.out.rR⟩
  have hB3 : B ≤ W3.heap.size := by rw [← hW3]; simpa using hBs2
  have HT0 := Lib.hid (And.intro ht0 (And.intro (show W3.ownsRow B 28 4 (.slice none 0 0) 0 (flatC volC (revT c.volumes 0)) from World.ownsRow_nil _ _ _ _) hB3))
  have p5 : W3.cell? ⟨p, 5, none⟩ = some (.slice aV nV cV) := (cell_of_block ht0.par 5).trans (by rw [show (cfgA c v)[5]? = some v.V from rfl, HVV.out])
  have hsub : IntKind.i64.wrap ((nV : Int) - 1) = (nV : Int) - 1 := by rw [IntKind.wrap_i64]; omega
  clear hW3 ht0 m0 m1
  go_wp2_with fail
  go_loopw [4] (fun vi wr => ∃ (j : Nat) (da : Option Addr) (dcap : Nat), j ≤ nV ∧ vi = .int .i64 ((nV : Int) - 1 - j) ∧ TurnIn w p q B c v (revT c.volumes j) c.ports c.rules (.slice da j dcap) v.O v.R wr ∧ wr.ownsRow B 28 4 (.slice da j dcap) j (flatC volC (revT c.volumes j)) ∧ B ≤ wr.heap.size) (fun vi _ => (intOf vi + 1).toNat)
  case atStart => exact ⟨0, none, 0, by omega, by simp, HT0.out.1, HT0.out.2.1, HT0.out.2.2⟩
  case round =>
   obtain ⟨j, da, dcap, hj, rfl, ht, hown, hBs⟩ := hrel
   clear p5 HT0
   have p5 := (cell_of_block ht.par 5).trans (show (cfgA c v)[5]? = some (.slice aV nV cV) by rw [show (cfgA c v)[5]? = some v.V from rfl, HVV.out])
   by_cases hlt : j < nV
   · obtain ⟨i, hi⟩ : ∃ i, i + j + 1 = nV := ⟨nV - 1 - j, by omega⟩
     have hidx : (nV : Int) - 1 - j = (i : Int) := by omega
     rw [hidx]
     have hlt2 : i < c.volumes.length := by rw [HNV.out]; omega
     obtain ⟨b, o, hao, hb', hcc⟩ := row_at (HROWV.out _ ht.later) hlt2
     have HRV := Lib.hid (revT_succ c.volumes hlt2 (show i + j + 1 = c.volumes.length by rw [HNV.out]; exact hi))
     obtain ⟨x, hx⟩ : ∃ x, c.volumes[i] = x := ⟨_, rfl⟩
     rw [hx] at hcc HRV
     rw [hao] at p5
     clear hx hao
     obtain ⟨y1, y2, y3, y4⟩ := x
     have e0 := hcc 0 (by omega)
     have e1 := hcc 1 (by omega)
     have e2 := hcc 2 (by omega)
     have e3 := hcc 3 (by omega)
     simp only [volC, List.getElem?_cons_zero, List.getElem?_cons_succ, Nat.add_zero] at e0 e1 e2 e3
     have q5 : wr.cell? ⟨q, 5, none⟩ = some (.slice da j dcap) := cell_of_block ht.var 5
     have la : Later wr (wr.alloc (.cells #[.int .i64 y1, .int .i64 y2, .int .i64 y3, .int .i64 y4] 28)) := (Later.refl _).alloc _
     have g1 := la.cell q5
     have g2 := la.cell p5
     have h0 := la.cell e0
     have h1 := la.cell e1
     have h2 := la.cell e2
     have h3 := la.cell e3
     have hin : i < nV := by omega
     have HT := Lib.hid ht
     have HO := Lib.hid hown
     have HOA := Lib.hid (own_alloc_drew hown (.cells #[.int .i64 y1, .int .i64 y2, .int .i64 y3, .int .i64 y4] 28))
     obtain ⟨iE, hiE, hz0, hz1, hz2⟩ := info_parts info_vol3
     have hjl : (revT c.volumes j).length = j := revT_len _ (by rw [HNV.out]; omega)
     have HJL := Lib.hid hjl
     clear hcc ht hown la hjl
     go_upto_block 1 with fail
     go_cut [] from 17 to 26 (fun wx => ∃ g cap', TurnIn w p q B c v (revT c.volumes j ++ [⟨y1, y2, y3, y4⟩]) c.ports c.rules (.slice (some ⟨g, 0, none⟩) (j + 1) cap') v.O v.R wx ∧ wx.ownsRow B 28 4 (.slice (some ⟨g, 0, none⟩) (j + 1) cap') (j + 1) (flatC volC (revT c.volumes j) ++ [.int .i64 y1, .int .i64 y2, .int .i64 y3, .int .i64 y4]) ∧ B ≤ wx.heap.size)
     case first =>
      go_upto_region 6 with fail
      go_region_law (first
        | (refine step_append_lies _ rfl (.tmp 18) (.tmp 24) 26 rfl B 28 iE (.agg #[.int .i64 0, .int .i64 0, .int .i64 0, .int .i64 0]) 4 32 Tryz.underlying26 hiE hz0 hz1 hz2 rfl (by decide) (.slice da j dcap) j (flatC volC (revT c.volumes j)) rfl HOA.out ⟨wr.heap.size, 0, none⟩ 1 1 [.int .i64 y1, .int .i64 y2, .int .i64 y3, .int .i64 y4] rfl rfl (cells_newC wr [.int .i64 y1, .int .i64 y2, .int .i64 y3, .int .i64 y4] 28) (by simp [Value.oneCell']) (by decide) (by unfold maxLen; omega) (by omega) (by simp; omega) _ rfl ?_
           intro g cap' w3 hown3 hgrow hgat hglt
           have hq3 : VarAt w3 q _ _ := (hgrow.block q (by have := HT.out.var.lt; simp; omega) (fun e => by have := (HO.out.lt q e.symm).1; omega)).trans (alloc_old HT.out.var _)
           have hc3 : w3.cell? ⟨q, 5, none⟩ = some (.slice da j dcap) := cell_of_block hq3 5
           have hf3 : w3.frozen? ⟨q, 5, none⟩ = false := free_of_block hq3 5
           have HG3 := Lib.hid (And.intro hown3 hgrow)
           clear hown3 hgrow hq3)
        | fail)
      all_goals
        go_wp2_with fail
        go_meet
        case rel =>
          refine ⟨g, cap', TurnIn.putV HT.out (by rw [HJL.out]; exact HO.out) ⟨y1, y2, y3, y4⟩ (.cells #[.int .i64 y1, .int .i64 y2, .int .i64 y3, .int .i64 y4] 28) HJL.out HG3.out.1 HG3.out.2 (by omega) (by omega) (by omega) hBs, own_setT HG3.out.1 (by omega) _ _, ?_⟩
          have := HG3.out.2.size
          simp at this ⊢
          omega
     case rest =>
      obtain ⟨g, cap', ht2, hown2, hB2⟩ := hcut
      have hwr : IntKind.i64.wrap ((i : Int) - 1) = (i : Int) - 1 := by rw [IntKind.wrap_i64]; omega
      go_wp2_with fail
      refine ⟨⟨j + 1, some ⟨g, 0, none⟩, cap', by omega, by congr 1; omega, ?_, ?_, hB2⟩, by simp only [intOf]; omega⟩
      · rw [HRV.out]; exact ht2
      · rw [HRV.out, flatC_snoc]; exact hown2
   · obtain rfl : j = nV := by omega
     have hidx : (j : Int) - 1 - j = -1 := by omega
     rw [hidx]
     have hall : revT c.volumes j = c.volumes.reverse := by rw [← HNV.out, revT_all]
     rw [hall] at ht hown
     obtain ⟨eV, heo⟩ : ∃ e, Value.slice da j dcap = e := ⟨_, rfl⟩
     have ht' := ht
     rw [heo] at ht'
     obtain ⟨u, m0⟩ := Option.isSome_iff_exists.1 (show (wr.cell? ⟨q, 4, none⟩).isSome = true by rw [cell_of_block ht.var 4]; rfl)
     have m1 := free_of_block ht.var 4
     have HTT := Lib.hid ht'
     clear ht ht' hown
     go_upto_region 8 with fail
     generalize hW : World.setCell _ _ _ = Wn
     have ht0 : TurnIn w p q B c v c.volumes.reverse [] c.rules eV (.slice none 0 0) v.R Wn := by
       rw [← hW]
       exact turn_zeroO HTT.out (by omega) (by omega) (by omega)
     have hBn : B ≤ Wn.heap.size := by rw [← hW]; simpa using hBs
     clear hW m0 m1
     have HT0 := Lib.hid (And.intro ht0 (And.intro (show Wn.ownsRow B 51 5 (.slice none 0 0) 0 (flatC porC (revT c.ports 0)) from World.ownsRow_nil _ _ _ _) hBn))
     have p5 : Wn.cell? ⟨p, 4, none⟩ = some (.slice aO nO cO) := (cell_of_block ht0.par 4).trans (by rw [show (cfgA c v)[4]? = some v.O from rfl, HVO.out])
     have hsub2 : IntKind.i64.wrap ((nO : Int) - 1) = (nO : Int) - 1 := by rw [IntKind.wrap_i64]; omega
     clear ht0
     go_wp2_with fail
     go_loopw [5] (fun vi wr => ∃ (j : Nat) (da : Option Addr) (dcap : Nat), j ≤ nO ∧ vi = .int .i64 ((nO : Int) - 1 - j) ∧ TurnIn w p q B c v c.volumes.reverse (revT c.ports j) c.rules eV (.slice da j dcap) v.R wr ∧ wr.ownsRow B 51 5 (.slice da j dcap) j (flatC porC (revT c.ports j)) ∧ B ≤ wr.heap.size) (fun vi _ => (intOf vi + 1).toNat)
     case atStart => exact ⟨0, none, 0, by omega, by simp, HT0.out.1, HT0.out.2.1, HT0.out.2.2⟩
     case round =>
      obtain ⟨j, da, dcap, hj, rfl, ht, hown, hBs⟩ := hrel
      clear p5 HT0
      have p5 := (cell_of_block ht.par 4).trans (show (cfgA c v)[4]? = some (.slice aO nO cO) by rw [show (cfgA c v)[4]? = some v.O from rfl, HVO.out])
      by_cases hlt : j < nO
      · obtain ⟨i, hi⟩ : ∃ i, i + j + 1 = nO := ⟨nO - 1 - j, by omega⟩
        have hidx : (nO : Int) - 1 - j = (i : Int) := by omega
        rw [hidx]
        have hlt2 : i < c.ports.length := by rw [HNO.out]; omega
        obtain ⟨b, o, hao, hb', hcc⟩ := row_at (HROWO.out _ ht.later) hlt2
        have HRV := Lib.hid (revT_succ c.ports hlt2 (show i + j + 1 = c.ports.length by rw [HNO.out]; exact hi))
        obtain ⟨x, hx⟩ : ∃ x, c.ports[i] = x := ⟨_, rfl⟩
        rw [hx] at hcc HRV
        rw [hao] at p5
        clear hx hao
        obtain ⟨y1, y2, y3, y4, y5⟩ := x
        have e0 := hcc 0 (by omega)
        have e1 := hcc 1 (by omega)
        have e2 := hcc 2 (by omega)
        have e3 := hcc 3 (by omega)
        have e4 := hcc 4 (by omega)
        simp only [porC, List.getElem?_cons_zero, List.getElem?_cons_succ, Nat.add_zero] at e0 e1 e2 e3 e4
        have q5 : wr.cell? ⟨q, 4, none⟩ = some (.slice da j dcap) := cell_of_block ht.var 4
        have la : Later wr (wr.alloc (.cells #[.int .i64 y1, .int .i64 y2, .int .i64 y3, .int .i64 y4, .int .i64 y5] 51)) := (Later.refl _).alloc _
        have g1 := la.cell q5
        have g2 := la.cell p5
        have h0 := la.cell e0
        have h1 := la.cell e1
        have h2 := la.cell e2
        have h3 := la.cell e3
        have h4 := la.cell e4
        have hin : i < nO := by omega
        have HT := Lib.hid ht
        have HO := Lib.hid hown
        have HOA := Lib.hid (own_alloc_drew hown (.cells #[.int .i64 y1, .int .i64 y2, .int .i64 y3, .int .i64 y4, .int .i64 y5] 51))
        obtain ⟨iE, hiE, hz0, hz1, hz2⟩ := info_parts info_ot
        have hjl : (revT c.ports j).length = j := revT_len _ (by rw [HNO.out]; omega)
        have HJL := Lib.hid hjl
        clear hcc ht hown la hjl
        go_upto_block 3 with fail
        go_cut [] from 36 to 45 (fun wx => ∃ g cap', TurnIn w p q B c v c.volumes.reverse (revT c.ports j ++ [⟨y1, y2, y3, y4, y5⟩]) c.rules eV (.slice (some ⟨g, 0, none⟩) (j + 1) cap') v.R wx ∧ wx.ownsRow B 51 5 (.slice (some ⟨g, 0, none⟩) (j + 1) cap') (j + 1) (flatC porC (revT c.ports j) ++ [.int .i64 y1, .int .i64 y2, .int .i64 y3, .int .i64 y4, .int .i64 y5]) ∧ B ≤ wx.heap.size)
        case first =>
         go_upto_region 11 with fail
         go_region_law (first
           | (refine step_append_lies _ rfl (.tmp 37) (.tmp 43) 25 rfl B 51 iE (.agg #[.int .i64 0, .int .i64 0, .int .i64 0, .int .i64 0, .int .i64 0]) 5 40 Tryz.underlying25 hiE hz0 hz1 hz2 rfl (by decide) (.slice da j dcap) j (flatC porC (revT c.ports j)) rfl HOA.out ⟨wr.heap.size, 0, none⟩ 1 1 [.int .i64 y1, .int .i64 y2, .int .i64 y3, .int .i64 y4, .int .i64 y5] rfl rfl (cells_newC wr [.int .i64 y1, .int .i64 y2, .int .i64 y3, .int .i64 y4, .int .i64 y5] 51) (by simp [Value.oneCell']) (by decide) (by unfold maxLen; omega) (by omega) (by simp; omega) _ rfl ?_
              intro g cap' w3 hown3 hgrow hgat hglt
              have hq3 : VarAt w3 q _ _ := (hgrow.block q (by have := HT.out.var.lt; simp; omega) (fun e => by have := (HO.out.lt q e.symm).1; omega)).trans (alloc_old HT.out.var _)
              have hc3 : w3.cell? ⟨q, 4, none⟩ = some (.slice da j dcap) := cell_of_block hq3 4
              have hf3 : w3.frozen? ⟨q, 4, none⟩ = false := free_of_block hq3 4
              have HG3 := Lib.hid (And.intro hown3 hgrow)
              clear hown3 hgrow hq3)
           | fail)
         all_goals
           go_wp2_with fail
           go_meet
           case rel =>
             refine ⟨g, cap', TurnIn.putO HT.out (by rw [HJL.out]; exact HO.out) ⟨y1, y2, y3, y4, y5⟩ (.cells #[.int .i64 y1, .int .i64 y2, .int .i64 y3, .int .i64 y4, .int .i64 y5] 51) HJL.out HG3.out.1 HG3.out.2 (by omega) (by omega) (by omega) hBs, own_setT HG3.out.1 (by omega) _ _, ?_⟩
             have := HG3.out.2.size
             simp at this ⊢
             omega
        case rest =>
         obtain ⟨g, cap', ht2, hown2, hB2⟩ := hcut
         have hwr : IntKind.i64.wrap ((i : Int) - 1) = (i : Int) - 1 := by rw [IntKind.wrap_i64]; omega
         go_wp2_with fail
         refine ⟨⟨j + 1, some ⟨g, 0, none⟩, cap', by omega, by congr 1; omega, ?_, ?_, hB2⟩, by simp only [intOf]; omega⟩
         · rw [HRV.out]; exact ht2
         · rw [HRV.out, flatC_snoc]; exact hown2
      · obtain rfl : j = nO := by omega
        have hidx : (j : Int) - 1 - j = -1 := by omega
        rw [hidx]
        have hall : revT c.ports j = c.ports.reverse := by rw [← HNO.out, revT_all]
        rw [hall] at ht hown
        obtain ⟨eO, heo⟩ : ∃ e, Value.slice da j dcap = e := ⟨_, rfl⟩
        have ht' := ht
        rw [heo] at ht'
        obtain ⟨u, m0⟩ := Option.isSome_iff_exists.1 (show (wr.cell? ⟨q, 12, none⟩).isSome = true by rw [cell_of_block ht.var 12]; rfl)
        have m1 := free_of_block ht.var 12
        have HTT := Lib.hid ht'
        clear ht ht' hown
        go_upto_region 13 with fail
        generalize hW : World.setCell _ _ _ = Wn
        have ht0 : TurnIn w p q B c v c.volumes.reverse c.ports.reverse [] eV eO (.slice none 0 0) Wn := by
          rw [← hW]
          exact turn_zeroR HTT.out (by omega) (by omega) (by omega)
        have hBn : B ≤ Wn.heap.size := by rw [← hW]; simpa using hBs
        clear hW m0 m1
        have HT0 := Lib.hid (And.intro ht0 (And.intro (show Wn.ownsRow B 53 5 (.slice none 0 0) 0 (flatC ruC (revT c.rules 0)) from World.ownsRow_nil _ _ _ _) hBn))
        have p5 : Wn.cell? ⟨p, 12, none⟩ = some (.slice aR nR cR) := (cell_of_block ht0.par 12).trans (by rw [show (cfgA c v)[12]? = some v.R from rfl, HVR.out])
        have hsub2 : IntKind.i64.wrap ((nR : Int) - 1) = (nR : Int) - 1 := by rw [IntKind.wrap_i64]; omega
        clear ht0
        go_wp2_with fail
        go_loopw [6] (fun vi wr => ∃ (j : Nat) (da : Option Addr) (dcap : Nat), j ≤ nR ∧ vi = .int .i64 ((nR : Int) - 1 - j) ∧ TurnIn w p q B c v c.volumes.reverse c.ports.reverse (revT c.rules j) eV eO (.slice da j dcap) wr ∧ wr.ownsRow B 53 5 (.slice da j dcap) j (flatC ruC (revT c.rules j)) ∧ B ≤ wr.heap.size) (fun vi _ => (intOf vi + 1).toNat)
        case atStart => exact ⟨0, none, 0, by omega, by simp, HT0.out.1, HT0.out.2.1, HT0.out.2.2⟩
        case round =>
         obtain ⟨j, da, dcap, hj, rfl, ht, hown, hBs⟩ := hrel
         clear p5 HT0
         have p5 := (cell_of_block ht.par 12).trans (show (cfgA c v)[12]? = some (.slice aR nR cR) by rw [show (cfgA c v)[12]? = some v.R from rfl, HVR.out])
         by_cases hlt : j < nR
         · obtain ⟨i, hi⟩ : ∃ i, i + j + 1 = nR := ⟨nR - 1 - j, by omega⟩
           have hidx : (nR : Int) - 1 - j = (i : Int) := by omega
           rw [hidx]
           have hlt2 : i < c.rules.length := by rw [HNR.out]; omega
           obtain ⟨b, o, hao, hb', hcc⟩ := row_at (HROWR.out _ ht.later) hlt2
           have HRV := Lib.hid (revT_succ c.rules hlt2 (show i + j + 1 = c.rules.length by rw [HNR.out]; exact hi))
           obtain ⟨x, hx⟩ : ∃ x, c.rules[i] = x := ⟨_, rfl⟩
           rw [hx] at hcc HRV
           rw [hao] at p5
           clear hx hao
           obtain ⟨y1, y2, y3, y4, y5⟩ := x
           have e0 := hcc 0 (by omega)
           have e1 := hcc 1 (by omega)
           have e2 := hcc 2 (by omega)
           have e3 := hcc 3 (by omega)
           have e4 := hcc 4 (by omega)
           simp only [ruC, List.getElem?_cons_zero, List.getElem?_cons_succ, Nat.add_zero] at e0 e1 e2 e3 e4
           have q5 : wr.cell? ⟨q, 12, none⟩ = some (.slice da j dcap) := cell_of_block ht.var 12
           have la : Later wr (wr.alloc (.cells #[.int .i64 y1, .int .i64 y2, .int .i64 y3, .string y4, .string y5] 53)) := (Later.refl _).alloc _
           have g1 := la.cell q5
           have g2 := la.cell p5
           have h0 := la.cell e0
           have h1 := la.cell e1
           have h2 := la.cell e2
           have h3 := la.cell e3
           have h4 := la.cell e4
           have hin : i < nR := by omega
           have HT := Lib.hid ht
           have HO := Lib.hid hown
           have HOA := Lib.hid (own_alloc_drew hown (.cells #[.int .i64 y1, .int .i64 y2, .int .i64 y3, .string y4, .string y5] 53))
           obtain ⟨iE, hiE, hz0, hz1, hz2⟩ := info_parts info_rt
           have hjl : (revT c.rules j).length = j := revT_len _ (by rw [HNR.out]; omega)
           have HJL := Lib.hid hjl
           clear hcc ht hown la hjl
           go_upto_block 5 with fail
           go_cut [] from 55 to 64 (fun wx => ∃ g cap', TurnIn w p q B c v c.volumes.reverse c.ports.reverse (revT c.rules j ++ [⟨y1, y2, y3, y4, y5⟩]) eV eO (.slice (some ⟨g, 0, none⟩) (j + 1) cap') wx ∧ wx.ownsRow B 53 5 (.slice (some ⟨g, 0, none⟩) (j + 1) cap') (j + 1) (flatC ruC (revT c.rules j) ++ [.int .i64 y1, .int .i64 y2, .int .i64 y3, .string y4, .string y5]) ∧ B ≤ wx.heap.size)
           case first =>
            go_upto_region 16 with fail
            go_region_law (first
              | (refine step_append_lies _ rfl (.tmp 56) (.tmp 62) 29 rfl B 53 iE (.agg #[.int .i64 0, .int .i64 0, .int .i64 0, .string ⟨#[]⟩, .string ⟨#[]⟩]) 5 56 Tryz.underlying29 hiE hz0 hz1 hz2 rfl (by decide) (.slice da j dcap) j (flatC ruC (revT c.rules j)) rfl HOA.out ⟨wr.heap.size, 0, none⟩ 1 1 [.int .i64 y1, .int .i64 y2, .int .i64 y3, .string y4, .string y5] rfl rfl (cells_newC wr [.int .i64 y1, .int .i64 y2, .int .i64 y3, .string y4, .string y5] 53) (by simp [Value.oneCell']) (by decide) (by unfold maxLen; omega) (by omega) (by simp; omega) _ rfl ?_
                 intro g cap' w3 hown3 hgrow hgat hglt
                 have hq3 : VarAt w3 q _ _ := (hgrow.block q (by have := HT.out.var.lt; simp; omega) (fun e => by have := (HO.out.lt q e.symm).1; omega)).trans (alloc_old HT.out.var _)
                 have hc3 : w3.cell? ⟨q, 12, none⟩ = some (.slice da j dcap) := cell_of_block hq3 12
                 have hf3 : w3.frozen? ⟨q, 12, none⟩ = false := free_of_block hq3 12
                 have HG3 := Lib.hid (And.intro hown3 hgrow)
                 clear hown3 hgrow hq3)
              | fail)
            all_goals
              go_wp2_with fail
              go_meet
              case rel =>
                refine ⟨g, cap', TurnIn.putR HT.out (by rw [HJL.out]; exact HO.out) ⟨y1, y2, y3, y4, y5⟩ (.cells #[.int .i64 y1, .int .i64 y2, .int .i64 y3, .string y4, .string y5] 53) HJL.out HG3.out.1 HG3.out.2 (by omega) (by omega) (by omega) hBs, own_setT HG3.out.1 (by omega) _ _, ?_⟩
                have := HG3.out.2.size
                simp at this ⊢
                omega
           case rest =>
            obtain ⟨g, cap', ht2, hown2, hB2⟩ := hcut
            have hwr : IntKind.i64.wrap ((i : Int) - 1) = (i : Int) - 1 := by rw [IntKind.wrap_i64]; omega
            go_wp2_with fail
            refine ⟨⟨j + 1, some ⟨g, 0, none⟩, cap', by omega, by congr 1; omega, ?_, ?_, hB2⟩, by simp only [intOf]; omega⟩
            · rw [HRV.out]; exact ht2
            · rw [HRV.out, flatC_snoc]; exact hown2
         · obtain rfl : j = nR := by omega
           have hidx : (j : Int) - 1 - j = -1 := by omega
           rw [hidx]
           have hall : revT c.rules j = c.rules.reverse := by rw [← HNR.out, revT_all]
           rw [hall] at ht hown
           have hvt := ht.var
           have hpt := ht.par
           have hlt9 := ht.later
           have hrt := turn_rows ht H0.out (by rw [List.length_reverse, HNV.out]; omega) (by rw [List.length_reverse, HNO.out]; omega) (by rw [List.length_reverse, HNR.out]; omega)
           obtain ⟨vt, hvt0⟩ : ∃ vt : V7, ({ v with V := eV, O := eO, R := .slice da j dcap } : V7) = vt := ⟨_, rfl⟩
           rw [hvt0] at hvt hrt
           have hvt1 : VarAt wr q c.turned vt := hvt
           have hrt1 : RowsOf wr c.turned vt := hrt
           have HK := Lib.hid (fun (w' : World) (h : Later wr w') => And.intro (hpt.later h) (hvt1.later h))
           have HC1 := Lib.hid (fun (w' : World) (h : Later wr w') => check_at w' c v (H0.out.later (hlt9.trans h)) HIW.out.1 HIW.out.2)
           have HC2 := Lib.hid (fun (w' : World) (h : Later wr w') => chk_turned w' c vt (hrt1.later h) HIW.out.1 HIW.out.2)
           have HN1 := Lib.hid (fun (w' : World) (h : Later wr w') => need_at w' c v (H0.out.later (hlt9.trans h)) HIW.out.1 HIW.out.2)
           have HN2 := Lib.hid (fun (w' : World) (h : Later wr w') => need_turned w' c vt (hrt1.later h) HIW.out.1 HIW.out.2)
           have hq1 : (chkI c == chkI c) = true := by simp
           have hq2 : (c.needB == c.needB) = true := by simp
           clear hvt hpt hrt hvt1 hrt1 ht hown p5 hvt0
           go_upto_region 17 with fail
           refine wp_region_held_drew (S := fun w' => VarAt w' p c v ∧ VarAt w' q c.turned vt) (by kernel_rfl) (HK.out _ (by repeat (first | assumption | exact l0 _ | refine l1 ?_ | refine l2 ?_ (by assumption)))) (fun hHeld => ?_)
           refine tkT (i := 0) (v := .agg (cfgA c v)) (fun w hSw => ld_rowT rfl rfl hSw.1) hHeld ?_
           (try simp only [p0, p1, p2, p3, p4, p5, p6])
           refine tkT (i := 2) (v := .agg (cfgA c.turned vt)) (fun w hSw => ld_rowT rfl rfl hSw.2) hHeld ?_
           (try simp only [p0, p1, p2, p3, p4, p5, p6])
           refine wpAnyH_ready (rs := [1]) (by kernel_rfl) (by simp) ?_
           refine AllReadyH.cons rfl (fun K hK => ?_) AllReadyH.nil
           go_simp
           refine (HC1.out _ (by repeat (first | assumption | exact l0 _ | refine l1 ?_ | refine l2 ?_ (by assumption)))).mono ?_; rintro e x1 ⟨rfl, hx1⟩
           refine hK.out _ _ ?_ (fun hHeld => ?_)
           · exact HK.out _ (by repeat (first | assumption | exact l0 _ | refine l1 ?_ | refine l2 ?_ (by assumption)))
           clear hK K
           (try simp only [p0, p1, p2, p3, p4, p5, p6])
           refine wpAnyH_ready (rs := [3]) (by kernel_rfl) (by simp) ?_
           refine AllReadyH.cons rfl (fun K hK => ?_) AllReadyH.nil
           go_simp
           refine (HC2.out _ (by repeat (first | assumption | exact l0 _ | refine l1 ?_ | refine l2 ?_ (by assumption)))).mono ?_; rintro e x2 ⟨rfl, hx2⟩
           refine hK.out _ _ ?_ (fun hHeld => ?_)
           · exact HK.out _ (by repeat (first | assumption | exact l0 _ | refine l1 ?_ | refine l2 ?_ (by assumption)))
           clear hK K
           (try simp only [p0, p1, p2, p3, p4, p5, p6])
           refine tkT (i := 4) (v := ?_) ?_ hHeld ?_
           rotate_left
           · intro w hSw; (try dsimp only at hSw); go_simp; (try with_reducible rfl)
           (try simp only [p0, p1, p2, p3, p4, p5, p6])
           refine tkT (i := 5) (v := ?_) ?_ hHeld ?_
           rotate_left
           · intro w hSw; (try dsimp only at hSw); go_simp; (try with_reducible rfl)
           (try simp only [p0, p1, p2, p3, p4, p5, p6])
           refine tkT (i := 6) (v := .agg (cfgA c v)) (fun w hSw => ld_rowT rfl rfl hSw.1) hHeld ?_
           (try simp only [p0, p1, p2, p3, p4, p5, p6])
           refine tkT (i := 8) (v := .agg (cfgA c.turned vt)) (fun w hSw => ld_rowT rfl rfl hSw.2) hHeld ?_
           (try simp only [p0, p1, p2, p3, p4, p5, p6])
           refine wpAnyH_ready (rs := [7]) (by kernel_rfl) (by simp) ?_
           refine AllReadyH.cons rfl (fun K hK => ?_) AllReadyH.nil
           go_simp
           refine (HN1.out _ (by repeat (first | assumption | exact l0 _ | refine l1 ?_ | refine l2 ?_ (by assumption)))).mono ?_; rintro e x3 ⟨rfl, hx3⟩
           refine hK.out _ _ ?_ (fun hHeld => ?_)
           · exact HK.out _ (by repeat (first | assumption | exact l0 _ | refine l1 ?_ | refine l2 ?_ (by assumption)))
           clear hK K
           (try simp only [p0, p1, p2, p3, p4, p5, p6])
           refine wpAnyH_ready (rs := [9]) (by kernel_rfl) (by simp) ?_
           refine AllReadyH.cons rfl (fun K hK => ?_) AllReadyH.nil
           go_simp
           refine (HN2.out _ (by repeat (first | assumption | exact l0 _ | refine l1 ?_ | refine l2 ?_ (by assumption)))).mono ?_; rintro e x4 ⟨rfl, hx4⟩
           refine hK.out _ _ ?_ (fun hHeld => ?_)
           · exact HK.out _ (by repeat (first | assumption | exact l0 _ | refine l1 ?_ | refine l2 ?_ (by assumption)))
           clear hK K
           (try simp only [p0, p1, p2, p3, p4, p5, p6])
           refine tkT (i := 10) (v := ?_) ?_ hHeld ?_
           rotate_left
           · intro w hSw; (try dsimp only at hSw); go_simp; (try with_reducible rfl)
           (try simp only [p0, p1, p2, p3, p4, p5, p6])
           refine tkT (i := 11) (v := ?_) ?_ hHeld ?_
           rotate_left
           · intro w hSw; (try dsimp only at hSw); go_simp; (try with_reducible rfl)
           (try simp only [p0, p1, p2, p3, p4, p5, p6])
           refine tkT (i := 12) (v := ?_) ?_ hHeld ?_
           rotate_left
           · intro w hSw; (try dsimp only at hSw); go_simp; (try with_reducible rfl)
           (try simp only [p0, p1, p2, p3, p4, p5, p6])
           refine wpAnyH_ready (rs := [13]) (by kernel_rfl) (by simp) ?_
           refine AllReadyH.cons rfl (fun K hK => ?_) AllReadyH.nil
           go_simp
           refine (HFX.out _).mono ?_; rintro e x5 ⟨rfl, hx5⟩
           refine hK.out _ _ ?_ (fun hHeld => ?_)
           · exact HK.out _ (by repeat (first | assumption | exact l0 _ | refine l1 ?_ | refine l2 ?_ (by assumption)))
           clear hK K
           (try simp only [p0, p1, p2, p3, p4, p5, p6])
           refine tkT (i := 14) (v := ?_) ?_ hHeld ?_
           rotate_left
           · intro w hSw; (try dsimp only at hSw); go_simp; (try with_reducible rfl)
           (try simp only [p0, p1, p2, p3, p4, p5, p6])
           refine tkT (i := 15) (v := ?_) ?_ hHeld ?_
           rotate_left
           · intro w hSw; (try dsimp only at hSw); go_simp; (try with_reducible rfl)
           (try simp only [p0, p1, p2, p3, p4, p5, p6])
           refine wpAnyH_done (by kernel_rfl) ?_ _
           go_wp2_with fail
           go_ret
           exact ⟨rfl, hlt9.trans (by repeat (first | assumption | exact l0 _ | refine l1 ?_ | refine l2 ?_ (by assumption)))⟩
theorem cturns_cfg (w : World) (cs : List Value) (c : Cfg) (h : CfgIn w cs c) (hI : CfgI c) (hW : CfgW c) :
    Calls Tryz.prog 7 #[.agg cs.toArray] w fun e w' => e = .returned (.bool true) ∧ Below w.heap.size w w' := by
  obtain ⟨v, hv, hr⟩ := h.asA
  rw [hv]
  exact (cturns_any w c v hr hI hW).mono fun e w' ⟨he, hl⟩ => ⟨he, hl.out⟩

end Go.Proofs.YtbchkjfnakabkaaGreatDoor
