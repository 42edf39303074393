/- Vg5, merged: VM14 VM13 VM15. -/
import Derived.Test.YtfpbocjmlhcgiaaGreatDoorVg4
import Derived.Maps.OwnSet
import Derived.Laws.Rows
import Derived.Test.YtfpbocjmlhcgiaaGreatDoorJNX
import Derived.Test.YtfpbocjmlhcgiaaGreatDoorJg15
import Derived.Test.YtfpbocjmlhcgiaaGreatDoorVg3
set_option linter.unusedSimpArgs false
set_option linter.unusedVariables false
/- Maps of entries written; the volume's with, without, at. -/
namespace Go.Proofs.YtfpbocjmlhcgiaaGreatDoor
open Go.RowKit PJ Go.Maps Go.WideMaps Go.Shelf

theorem results_cell_row2 {P : Program} {fn : Func} {p u : Tmp} {ty : TypeId} (h : fn.results = #[.cell p ty, .tmp u]) (tmps : Array Value) (w : World) (g : Nat) (t : TypeId) (cs : Array Value) (fr : Nat × Nat) (d : TypeDesc)
    (hp : tmps.getD p undef = .pointer (some ⟨g, 0, none⟩)) (hg : w.heap[g]? = some (.cells cs t fr))
    (hu : P.underlying ty = some d) (hd : (match d with | .struct _ | .array _ _ => true | _ => false) = true) (hi : (P.info? ty).map (·.size) = some cs.size) :
    (results fn tmps).run P w = .ok (.tuple #[.agg cs, tmps.getD u undef]) w := by
  have hp' : tmps[p]?.getD undef = .pointer (some ⟨g, 0, none⟩) := by simpa using hp
  simp [results, h, hp', asAddr, run_loadVar_row w g t ty cs fr d hg hu hd hi]
theorem info_e3 : (Tryz.prog.info? 74).map (fun i => i.size) = some 3 := by kernel_rfl
theorem lj_onlyV {w a b : World} {F : Nat → Prop} (h : LJ w a) (ho : OnlyJ F a b) (hF : ∀ q, F q → w.heap.size ≤ q) : LJ w b := by
  have hs := Below.size h
  exact ⟨ho.os.trans h.os, ho.tape.trans h.tape, ho.output.trans h.output, Nat.le_trans hs ho.size, fun k hk => (ho.block k (by omega) (fun e => by have := hF k e; omega)).trans (Below.block h k hk)⟩
theorem vrow_heap (w : World) (g : Nat) (cur cs : Array Value) (t : TypeId) (h : w.heap[g]? = some (.cells cur t (0, 0))) : (w.setRow g cs).heap[g]? = some (.cells cs t (0, 0)) := setRow_heap w g cur cs t (0, 0) h
theorem vrow_only (w : World) (g : Nat) (cs : Array Value) : OnlyJ (fun q => q = g) w (w.setRow g cs) := ⟨rfl, rfl, rfl, by rw [setRow_size]; exact Nat.le_refl _, fun q _ hne => setRow_other w g q cs hne⟩
def entOf (P : ByteArray) (d : Bool) (S : ByteArray) : Ent := ⟨P.data.toList, d, S.data.toList⟩
theorem own_rebaseE {w : World} {b n : Nat} {D : DataW Unit} (h : w.ownsMap Tryz.prog 9 entR b n D) : w.ownsMap Tryz.prog 9 entR b (size D) D ∧ size D ≤ n := by
  have hl := h.len Tryz.underlying141 0
  obtain ⟨es, clock, hb, hf, hn, hD⟩ := h
  have h2 : (Builtin.len_ #[141] 0 #[.map (some b)]).run Tryz.prog w = .ok (.int .i64 es.size) w := by
    simp [Builtin.len_, go_sem, run_getObj_map w b es clock hb]
  rw [h2] at hl
  simp only [Result.ok.injEq, Value.int.injEq, and_true, true_and] at hl
  have e : es.size = size D := by omega
  exact ⟨⟨es, clock, hb, hf, by omega, hD⟩, by omega⟩
theorem own_tidy {w : World} {b n : Nat} {D : DataW Unit} (h : w.ownsMap Tryz.prog 9 entR b n D) : Tidy D := h.tidy law_str
theorem key_arr {S : ByteArray} (hp : S.size ≤ 140737488355328) : keyOf Tryz.prog 9 (.string S) = some (.string S.data.toList) := str_key (p := S.data.toList) (by rw [Array.length_toList]; exact hp)
theorem EMap.put {w : World} {mb : Nat} {l : List Ent} (h : EMap w mb l) (P : ByteArray) (d : Bool) (S : ByteArray) (hp : P.size ≤ 140737488355328) (hl : l.length ≤ 4000) :
    ∃ w', (Instr.mapUpdate 141 (.map (some mb)) (.string P) (.agg #[.string P, .bool d, .string S])).run Tryz.prog w = .ok () w' ∧ EMap w' mb (putE l (entOf P d S)) ∧ w.grownBy w' (some mb) := by
  obtain ⟨n, D, ho, hm, hn⟩ := h
  obtain ⟨w', hrun, h1, h2⟩ := ho.update law_str Tryz.underlying141 (by unfold maxLen; omega) (key_arr hp) (entR_val (entOf P d S))
  obtain ⟨h3, h4⟩ := own_rebaseE h1
  have hm' := hm.put ho.isMap (own_tidy ho) (entOf P d S)
  refine ⟨w', hrun, ⟨_, _, h3, hm', ?_⟩, h2⟩
  refine Nat.le_trans (Nat.le_of_eq hm'.size) ?_
  have := put_len_le hm.rise (entOf P d S)
  omega
theorem EMap.del {w : World} {mb : Nat} {l : List Ent} (h : EMap w mb l) (P : ByteArray) (hp : P.size ≤ 140737488355328) (ty : TypeId) :
    ∃ w', (Builtin.delete_ #[141, 9] ty #[.map (some mb), .string P]).run Tryz.prog w = .ok (.tuple #[]) w' ∧ EMap w' mb (delE l P.data.toList) ∧ w.mapTurned w' mb := by
  obtain ⟨n, D, ho, hm, hn⟩ := h
  obtain ⟨w', hrun, h1, h2⟩ := ho.drop law_str Tryz.underlying141 (key_arr hp) ty
  have hm' := hm.del (own_tidy ho) P.data.toList
  exact ⟨w', hrun, ⟨_, _, h1, hm', hn⟩, h2⟩
theorem eclone_any (w : World) (mb : Nat) (l : List Ent) (h : EMap w mb l) :
    Calls Tryz.prog 116 #[.map (some mb)] w fun e w' => e = .returned (.map (some w.heap.size)) ∧ EMap w' w.heap.size l ∧ LJ w w' := by
  obtain ⟨n, D, ho, hm, hn⟩ := h
  have h := AnyW.maps_Clone_owns Tryz.ecloneA 9 entR mb n D w ho
  change Calls Tryz.prog 116 _ _ _ at h
  exact h.mono (by rintro e w' ⟨rfl, h1, _, hB⟩; exact ⟨rfl, ⟨n, D, h1, hm, hn⟩, hB⟩)
set_option maxRecDepth 100000 in
set_option maxHeartbeats 2000000 in
theorem vwith_any (w : World) (vb mb jb : Nat) (l : List Ent) (P : ByteArray) (d : Bool) (S : ByteArray) (hp : P.size ≤ 140737488355328) (hl : l.length ≤ 4000) (hv : w.heap[vb]? = some (.cells (volC jb mb) 143 (0, 0))) (h : EMap w mb l) :
    Calls Tryz.prog 103 #[.pointer (some ⟨vb, 0, none⟩), .agg #[.string P, .bool d, .string S]] w fun e w' => ∃ m, e = .returned (.map (some m)) ∧ EMap w' m (putE l (entOf P d S)) ∧ w.heap.size ≤ m ∧ LJ w w' := by
  obtain ⟨w1, hw1⟩ : ∃ w1, w.alloc (.cells #[.string P, .bool d, .string S] 74) = w1 := ⟨_, rfl⟩
  have hb1 : w1.heap[w.heap.size]? = some (.cells #[.string P, .bool d, .string S] 74 (0, 0)) := by rw [← hw1]; exact alloc_blk w _
  have hl1 : LJ w w1 := by rw [← hw1]; exact (LJ.refl w).alloc _
  have c1 : w1.cell? ⟨vb, 1, none⟩ = some (.map (some mb)) := cell_blk (hl1.block hv) 1
  have HCL := Lib.hid (eclone_any w1 mb l (h.later hl1))
  have HB1 := Lib.hid hb1
  have HL1 := Lib.hid hl1
  have HW1 := Lib.hid hw1
  have hs1 : w.heap.size ≤ w1.heap.size := Below.size hl1
  clear h hv hw1 hb1 hl1
  go_enter Tryz.func103, Tryz.ntmps103
  go_upto_region 1 with fail
  rw [HW1.out]
  go_upto_region 2 with (first
    | (go_at_call 116; (with_reducible refine HCL.out.mono ?_); rintro e w2 ⟨rfl, hm2, hl2⟩; have HM2 := Lib.hid hm2; have HL2 := Lib.hid hl2; clear hm2 hl2)
    | fail)
  obtain ⟨w3, hrun, hm3, hg3⟩ := HM2.out.put P d S hp hl
  have hb2 := HL2.out.block HB1.out
  have l0 := cell_blk hb2 0
  have l1 := cell_blk hb2 1
  have l2 := cell_blk hb2 2
  have HM3 := Lib.hid hm3
  have HG3 := Lib.hid hg3
  clear hm3 hg3 hb2
  go_wp2_with fail
  go_ret
  have hl12 := HL1.out.trans HL2.out
  exact ⟨_, rfl, HM3.out, hs1, Below.grown hl12 HG3.out (Below.size hl12) (fun k hk => by cases hk; exact hs1)⟩
set_option maxRecDepth 100000 in
set_option maxHeartbeats 2000000 in
theorem vwithout_any (w : World) (vb mb jb : Nat) (l : List Ent) (P : ByteArray) (hp : P.size ≤ 140737488355328) (hv : w.heap[vb]? = some (.cells (volC jb mb) 143 (0, 0))) (h : EMap w mb l) :
    Calls Tryz.prog 98 #[.pointer (some ⟨vb, 0, none⟩), .string P] w fun e w' => ∃ m, e = .returned (.map (some m)) ∧ EMap w' m (delE l P.data.toList) ∧ w.heap.size ≤ m ∧ LJ w w' := by
  have c1 : w.cell? ⟨vb, 1, none⟩ = some (.map (some mb)) := cell_blk hv 1
  have HCL := Lib.hid (eclone_any w mb l h)
  clear h hv
  go_enter Tryz.func98, Tryz.ntmps98
  go_upto_region 2 with (first
    | (go_at_call 116; (with_reducible refine HCL.out.mono ?_); rintro e w2 ⟨rfl, hm2, hl2⟩; have HM2 := Lib.hid hm2; have HL2 := Lib.hid hl2; clear hm2 hl2)
    | fail)
  obtain ⟨n, D, ho, hm, hn⟩ := HM2.out
  have HMD := Lib.hid (And.intro (hm.del (own_tidy ho) P.data.toList) hn)
  have hky := key_arr hp
  clear hm hn HM2
  go_wp2_with (first
    | (at_delete; refine wpList_delete_own _ rfl _ _ 141 9 rfl 74 law_str Tryz.underlying141 _ w.heap.size n D rfl ho _ _ rfl hky ?_; intro w3 hm3 hg3; have HM3 := Lib.hid (show EMap w3 w.heap.size (delE l P.data.toList) from ⟨_, _, hm3, HMD.out.1, HMD.out.2⟩); have HG3 := Lib.hid hg3; clear hm3 hg3 ho)
    | fail)
  go_ret
  exact ⟨_, rfl, HM3.out, Nat.le_refl _, Below.grown HL2.out HG3.out.grown (Below.size HL2.out) (fun k hk => by cases hk; exact Nat.le_refl _)⟩
set_option maxRecDepth 100000 in
set_option maxHeartbeats 2000000 in
theorem vat_any (w : World) (vb mb jb : Nat) (l : List Ent) (S : ByteArray) (p : List UInt8) (hS : S.data.toList = p) (hp : S.size ≤ 140737488355328) (hv : w.heap[vb]? = some (.cells (volC jb mb) 143 (0, 0))) (h : EMap w mb l) :
    Calls Tryz.prog 97 #[.pointer (some ⟨vb, 0, none⟩), .string S] w fun e w' => e = .returned (.tuple #[((atE l p).getD zeroE).val, .bool (atE l p).isSome]) ∧ LJ w w' := by
  obtain ⟨w1, hw1⟩ : ∃ w1, w.alloc (.cells #[.string ⟨#[]⟩, .bool false, .string ⟨#[]⟩] 74) = w1 := ⟨_, rfl⟩
  obtain ⟨q, hq⟩ : ∃ q, w.heap.size = q := ⟨_, rfl⟩
  have HB1 := Lib.hid (show w1.heap[q]? = some (.cells #[.string ⟨#[]⟩, .bool false, .string ⟨#[]⟩] 74 (0, 0)) from by rw [← hw1, ← hq]; exact alloc_blk w _)
  have hl1 : LJ w w1 := by rw [← hw1]; exact (LJ.refl w).alloc _
  have c1 : w1.cell? ⟨vb, 1, none⟩ = some (.map (some mb)) := cell_blk (hl1.block hv) 1
  have hsl : S.toList = p := by rw [ByteArray.toList_eq, hS]
  have hlk : (Instr.lookup 141 (.map (some mb)) (.string S) true).run Tryz.prog w1 = .ok (.tuple #[((findE l p).getD zeroE).val, .bool (findE l p).isSome]) w1 := by
    have h1 := (h.later hl1).look_ok S.data.toList (by rw [Array.length_toList]; exact hp)
    rw [hS] at h1
    rw [← h1, ← hS]
  have HL1 := Lib.hid hl1
  have HW1 := Lib.hid hw1
  have HQ := Lib.hid hq
  by_cases h0 : p = [47]
  · have he : atE l p = some rootE := if_pos h0
    rw [he]
    subst h0
    clear h hv hw1 hlk he hl1 c1
    go_enter Tryz.func97, Tryz.ntmps97
    go_upto_region 1 with fail
    rw [HW1.out]
    clear hq
    go_wp2_with (first
      | (refine wpList_store_row rfl 74 (.tmp 4) (.tmp 10) rfl q #[.string ⟨#[47]⟩, .bool true, .string ⟨#[]⟩] rfl rfl 74 _ HB1.out info_e3 rfl (by simp [Value.oneCell']) ?_)
      | fail)
    refine bodyPost_ret (results_cell_row2 rfl _ _ q 74 #[.string ⟨#[47]⟩, .bool true, .string ⟨#[]⟩] (0, 0) _ rfl (vrow_heap w1 q _ _ _ HB1.out) Tryz.underlying74 rfl info_e3) rfl ?_
    exact ⟨rfl, lj_onlyV HL1.out (vrow_only _ _ _) (fun k hk => by have h2 := HQ.out; show w.heap.size ≤ k; rw [h2]; exact Nat.le_of_eq hk.symm)⟩
  · have he : atE l p = findE l p := if_neg h0
    have hb0 : (p == [47]) = false := by simpa using h0
    rw [he]
    obtain ⟨x, hx⟩ : ∃ x, (findE l p).getD zeroE = x := ⟨_, rfl⟩
    obtain ⟨ok, hok⟩ : ∃ b, (findE l p).isSome = b := ⟨_, rfl⟩
    rw [hx, hok] at hlk ⊢
    obtain ⟨P, hP⟩ : ∃ P : ByteArray, (⟨x.p.toArray⟩ : ByteArray) = P := ⟨_, rfl⟩
    obtain ⟨D, hD⟩ : ∃ D : ByteArray, (⟨x.s.toArray⟩ : ByteArray) = D := ⟨_, rfl⟩
    have hval : x.val = .agg #[.string P, .bool x.d, .string D] := by rw [← hP, ← hD]; rfl
    obtain ⟨b, hb⟩ : ∃ b, x.d = b := ⟨_, rfl⟩
    rw [hb] at hval
    rw [hval] at hlk ⊢
    obtain ⟨w2, hw2⟩ : ∃ w2, w1.alloc (.cells #[.string P, .bool b, .string D] 74) = w2 := ⟨_, rfl⟩
    obtain ⟨q2, hq2⟩ : ∃ q2, w1.heap.size = q2 := ⟨_, rfl⟩
    have HB2 := Lib.hid (show w2.heap[q2]? = some (.cells #[.string P, .bool b, .string D] 74 (0, 0)) from by rw [← hw2, ← hq2]; exact alloc_blk w1 _)
    have HL2 := Lib.hid (show LJ w1 w2 from by rw [← hw2]; exact (LJ.refl w1).alloc _)
    have HB21 := Lib.hid (HL2.out.block HB1.out)
    have HW2 := Lib.hid hw2
    clear h hv hw1 hw2 he hl1 hP hD hval hb hx hok
    go_enter Tryz.func97, Tryz.ntmps97
    go_upto_region 1 with fail
    rw [HW1.out]
    clear hq
    go_upto_region 4 with fail
    rw [HW2.out]
    clear hq2
    go_wp2_with (first
      | (refine wpList_load_row rfl 74 (.tmp 6) rfl q2 rfl 74 _ (0, 0) _ HB2.out Tryz.underlying74 rfl info_e3 ?_)
      | (refine wpList_store_row rfl 74 (.tmp 4) (.tmp 20) rfl q #[.string P, .bool b, .string D] rfl rfl 74 _ HB21.out info_e3 rfl (by simp [Value.oneCell']) ?_)
      | fail)
    refine bodyPost_ret (results_cell_row2 rfl _ _ q 74 #[.string P, .bool b, .string D] (0, 0) _ rfl (vrow_heap w2 q _ _ _ HB21.out) Tryz.underlying74 rfl info_e3) rfl ?_
    exact ⟨rfl, lj_onlyV (HL1.out.trans HL2.out) (vrow_only _ _ _) (fun k hk => by have h2 := HQ.out; show w.heap.size ≤ k; rw [h2]; exact Nat.le_of_eq hk.symm)⟩
end Go.Proofs.YtfpbocjmlhcgiaaGreatDoor
/- The volume's image. -/
namespace Go.Proofs.YtfpbocjmlhcgiaaGreatDoor
open Go.RowKit PJ Go.Maps

theorem flat_pre (l : List Ent) (j : Nat) : ((l.take j).flatMap entB).length ≤ (l.flatMap entB).length := by
  have h : l.flatMap entB = (l.take j).flatMap entB ++ (l.drop j).flatMap entB := by rw [← List.flatMap_append, List.take_append_drop]
  rw [h, List.length_append]
  omega
theorem flat_snoc {l : List Ent} {j : Nat} {x : Ent} (h : l[j]? = some x) : (l.take (j + 1)).flatMap entB = (l.take j).flatMap entB ++ entB x := by
  rw [List.take_add_one, h, List.flatMap_append]
  simp
theorem ent_bytes (x : Ent) : entB x = be (if x.d then 2 else 1) 1 ++ be x.p.length 1 ++ x.p ++ be x.s.length 2 ++ x.s := by simp [entB]
set_option maxRecDepth 100000 in
set_option maxHeartbeats 8000000 in
theorem vimage_any (w : World) (mb : Nat) (l : List Ent) (h : EMap w mb l) (hi : VInv l) (hl : l.length ≤ 800) :
    Calls Tryz.prog 110 #[.map (some mb)] w fun e w' => e = .returned (.string ⟨(imageE l).toArray⟩) ∧ LJ w w' := by
  have HHI := Lib.hid hi.hi
  obtain ⟨n, hn⟩ : ∃ n, l.length = n := ⟨_, rfl⟩
  have HIL := Lib.hid (hi.image_le hl)
  obtain ⟨w1, hw1⟩ : ∃ w1, w.alloc (.cells #[.pointer none, .slice none 0 0] 164) = w1 := ⟨_, rfl⟩
  have hl1 : LJ w w1 := by rw [← hw1]; exact (LJ.refl w).alloc _
  have HJ1 := Lib.hid (show JB w.heap.size w.heap.size [] w1 from by rw [← hw1]; exact JB.fresh w)
  have h1 := h.later hl1
  have hlen : ∀ ty, (Builtin.len_ #[141] ty #[.map (some mb)]).run Tryz.prog w1 = .ok (.int .i64 (n : Int)) w1 := fun ty => by rw [← hn]; exact h1.len ty
  obtain ⟨C0, hC0⟩ : ∃ C0 : ByteArray, (⟨(be n 2).toArray⟩ : ByteArray) = C0 := ⟨_, rfl⟩
  have hC0d : C0.data.toList = be n 2 := by rw [← hC0]
  have hC0s : C0.size = 2 := by rw [← hC0]; show (be n 2).toArray.size = 2; rw [List.size_toArray, be_len]
  have HP0 := Lib.hid (fun W => show Calls Tryz.prog 161 #[.int .i64 n, .int .i64 2] W fun e w' => e = .returned (.string C0) ∧ LJ W w' from by rw [← hC0]; exact vput_any W n 2 (by omega) (by omega) (by omega))
  have HM := Lib.hid h
  have hmb := h.lt
  have hs1 : w.heap.size ≤ w1.heap.size := Below.size hl1
  have HW0 := Lib.hid (fun W (hW : LJ w1 W) => jbput_any w.heap.size w.heap.size [] C0 W (HJ1.out.later hW) (by rw [hC0s]; decide) (by have := Below.size hW; omega))
  rw [List.nil_append, hC0d] at HW0
  have HSR := Lib.hid (fun W (hW : Below w.heap.size w1 W) => show Calls Tryz.prog 88 #[.map (some mb)] W fun e w' => ∃ a cap, e = .returned (.slice a n cap) ∧ w'.ownsRow W.heap.size 74 3 (.slice a n cap) n (entsC l) ∧ LJ W w' from by
    have hk : W.heap[mb]? = w.heap[mb]? := (hW.block mb hmb).trans (Below.block hl1 mb hmb)
    refine (vsorted_any W mb l (HM.out.kept hk) (by omega) (fun x hx => by have := (HHI.out x hx).1; omega)).mono ?_
    rintro e w' ⟨v, rfl, h2, h3⟩
    rw [hn] at h2
    rcases h2.2 with ⟨e1, e2⟩ | ⟨g, cap, cur, e1, _⟩
    · exact ⟨none, 0, by rw [e1, e2], by rw [e1] at h2; rw [e2] at h2 ⊢; exact h2, h3⟩
    · exact ⟨some ⟨g, 0, none⟩, cap, by rw [e1], by rw [e1] at h2; exact h2, h3⟩)
  have HW1 := Lib.hid hw1
  have HL1 := Lib.hid hl1
  have HN := Lib.hid hn
  have hn800 : n ≤ 800 := by omega
  have HEND : Hid (imageE l = be n 2 ++ l.flatMap entB) := Lib.hid (by unfold imageE; rw [hn])
  clear hw1 hl1 h1 hC0 h hi hl hn
  go_enter Tryz.func110, Tryz.ntmps110
  go_upto_region 2 with fail
  rw [HW1.out]
  go_upto_region 4 with (first
    | (go_at_call 161; (with_reducible refine (HP0.out _).mono ?_); rintro e w2 ⟨rfl, hl2⟩; have HL2 := Lib.hid hl2; clear hl2)
    | (go_at_call 113; (with_reducible refine (HW0.out _ HL2.out).mono ?_); rintro e w3 ⟨rfl, hj3, hb3, ho3⟩; have HJ3 := Lib.hid hj3; have HB3 := Lib.hid (show Below w.heap.size w1 w3 from (Below.mono HL2.out hs1).trans hb3); clear hj3 hb3 ho3)
    | (go_at_call 88; (with_reducible refine (HSR.out _ HB3.out).mono ?_); rintro e w4 ⟨ak, ck, rfl, hown4, hl4⟩; have HO4 := Lib.hid hown4; have HJ4 := Lib.hid (HJ3.out.later hl4); have HB4 := Lib.hid (show Below w.heap.size w1 w4 from HB3.out.trans (Below.mono hl4 (by have := HB3.out.size; omega))); clear hown4 hl4)
    | fail)
  clear hlen
  have HR0 := Lib.hid (show w4.ownsRow w.heap.size 74 3 (.slice ak n ck) n (entsC l) from own_base HO4.out (by have := HB3.out.size; omega))
  go_loopw [14] (fun v14 wr => ∃ i : Nat, i ≤ n ∧ v14 = .int .i64 (i : Int) ∧ Hid (wr.ownsRow w.heap.size 74 3 (.slice ak n ck) n (entsC l)) ∧ Hid (JB w.heap.size w.heap.size (be n 2 ++ (l.take i).flatMap entB) wr) ∧ Hid (Below w.heap.size w1 wr)) (fun v14 _ => n - (intOf v14).toNat)
  case atStart => exact ⟨0, by omega, rfl, HR0, Lib.hid (by rw [List.take_zero]; simpa using HJ4.out), HB4⟩
  case round =>
    obtain ⟨i, hin, rfl, HR, HJ, HB⟩ := hrel
    have hsr : w.heap.size ≤ wr.heap.size := by have := HB.out.size; omega
    by_cases hlt : i < n
    · have hii : (i : Int) < (n : Int) := by omega
      obtain ⟨gk, ck', hf, hgk, hgl⟩ := HR.out.form (by omega)
      have hf1 : ak = some ⟨gk, 0, none⟩ := by injection hf
      subst hf1
      obtain ⟨x, hx⟩ : ∃ x, l[i]? = some x := ⟨_, List.getElem?_eq_getElem (by have := HN.out; omega)⟩
      have hxm := List.mem_of_getElem? hx
      obtain ⟨hx1, hx2⟩ := HHI.out x hxm
      obtain ⟨P, hP⟩ : ∃ P : ByteArray, (⟨x.p.toArray⟩ : ByteArray) = P := ⟨_, rfl⟩
      obtain ⟨S, hS⟩ : ∃ S : ByteArray, (⟨x.s.toArray⟩ : ByteArray) = S := ⟨_, rfl⟩
      have hPd : P.data.toList = x.p := by rw [← hP]
      have hSd : S.data.toList = x.s := by rw [← hS]
      have hPs : P.size = x.p.length := by rw [← hP]; show x.p.toArray.size = _; rw [List.size_toArray]
      have hSs : S.size = x.s.length := by rw [← hS]; show x.s.toArray.size = _; rw [List.size_toArray]
      obtain ⟨e0, e1, e2⟩ := entsC_get hx
      rw [hP] at e0
      rw [hS] at e2
      have c0 : wr.cell? ⟨gk, i * 3, none⟩ = some (.string P) := by
        have h1 := HR.out.cells (g := gk) rfl (i * 3) _ e0
        rw [addr_none, Nat.zero_add] at h1
        exact h1
      have c1 : wr.cell? ⟨gk, i * 3 + 1, none⟩ = some (.bool x.d) := by
        have h1 := HR.out.cells (g := gk) rfl (i * 3 + 1) _ e1
        rw [addr_none, Nat.zero_add] at h1
        exact h1
      have c2 : wr.cell? ⟨gk, i * 3 + 2, none⟩ = some (.string S) := by
        have h1 := HR.out.cells (g := gk) rfl (i * 3 + 2) _ e2
        rw [addr_none, Nat.zero_add] at h1
        exact h1
      obtain ⟨b, hb⟩ : ∃ b, x.d = b := ⟨_, rfl⟩
      rw [hb] at c1
      obtain ⟨kd, hkd⟩ : ∃ kd : Int, kd = (if b then 2 else 1) := ⟨_, rfl⟩
      have hk0 : 0 ≤ kd ∧ kd ≤ 2 := by cases b <;> simp at hkd <;> omega
      obtain ⟨KB, hKB⟩ : ∃ B : ByteArray, (⟨(be kd.toNat 1).toArray⟩ : ByteArray) = B := ⟨_, rfl⟩
      obtain ⟨PB, hPB⟩ : ∃ B : ByteArray, (⟨(be P.size 1).toArray⟩ : ByteArray) = B := ⟨_, rfl⟩
      obtain ⟨SB, hSB⟩ : ∃ B : ByteArray, (⟨(be S.size 2).toArray⟩ : ByteArray) = B := ⟨_, rfl⟩
      have HK := Lib.hid (fun W => show Calls Tryz.prog 161 #[.int .i64 kd, .int .i64 1] W fun e w' => e = .returned (.string KB) ∧ LJ W w' from by
        have h1 := vput_any W kd.toNat 1 (by omega) (by omega) (by omega)
        rw [show ((kd.toNat : Nat) : Int) = kd from by omega, hKB] at h1
        exact h1)
      have HPL := Lib.hid (fun W => show Calls Tryz.prog 161 #[.int .i64 (P.size : Int), .int .i64 1] W fun e w' => e = .returned (.string PB) ∧ LJ W w' from by rw [← hPB]; exact vput_any W P.size 1 (by omega) (by omega) (by omega))
      have HSL := Lib.hid (fun W => show Calls Tryz.prog 161 #[.int .i64 (S.size : Int), .int .i64 2] W fun e w' => e = .returned (.string SB) ∧ LJ W w' from by rw [← hSB]; exact vput_any W S.size 2 (by omega) (by omega) (by omega))
      have sK : KB.size = 1 := by rw [← hKB]; show (be kd.toNat 1).toArray.size = 1; rw [List.size_toArray, be_len]
      have sP : PB.size = 1 := by rw [← hPB]; show (be P.size 1).toArray.size = 1; rw [List.size_toArray, be_len]
      have sS : SB.size = 2 := by rw [← hSB]; show (be S.size 2).toArray.size = 2; rw [List.size_toArray, be_len]
      obtain ⟨C1, hC1⟩ : ∃ C, KB ++ PB = C := ⟨_, rfl⟩
      obtain ⟨C2, hC2⟩ : ∃ C, C1 ++ P = C := ⟨_, rfl⟩
      obtain ⟨C3, hC3⟩ : ∃ C, C2 ++ SB = C := ⟨_, rfl⟩
      obtain ⟨C4, hC4⟩ : ∃ C, C3 ++ S = C := ⟨_, rfl⟩
      have t1 : C1.size = 2 := by rw [← hC1, ByteArray.size_append]; omega
      have t2 : C2.size = 2 + P.size := by rw [← hC2, ByteArray.size_append]; omega
      have t3 : C3.size = 4 + P.size := by rw [← hC3, ByteArray.size_append]; omega
      have t4 : C4.size = 4 + P.size + S.size := by rw [← hC4, ByteArray.size_append]; omega
      have g1 : ¬ 9223372036854775807 < KB.size + PB.size := by omega
      have g2 : ¬ 9223372036854775807 < C1.size + P.size := by omega
      have g3 : ¬ 9223372036854775807 < C2.size + SB.size := by omega
      have g4 : ¬ 9223372036854775807 < C3.size + S.size := by omega
      have hC4d : C4.data.toList = entB x := by
        rw [← hC4, ← hC3, ← hC2, ← hC1, app_data, app_data, app_data, app_data, ← hKB, ← hPB, ← hSB, hPd, hSd, hPs, hSs, ent_bytes, hkd, hb]
        cases b <;> rfl
      have HNX := Lib.hid (show be n 2 ++ (l.take i).flatMap entB ++ C4.data.toList = be n 2 ++ (l.take (i + 1)).flatMap entB from by rw [flat_snoc hx, hC4d, List.append_assoc])
      have HLE := Lib.hid (show (be n 2 ++ (l.take i).flatMap entB).length + C4.size ≤ 1000000 from by
        have h1 : C4.data.toList.length = C4.size := by rw [Array.length_toList]; rfl
        have h2 := congrArg List.length HNX.out
        have h3 := flat_pre l (i + 1)
        have h4 := HIL.out
        rw [HEND.out] at h4
        simp only [List.length_append] at h2 h4 ⊢
        omega)
      have HWX := Lib.hid (fun W (hW : JB w.heap.size w.heap.size (be n 2 ++ (l.take i).flatMap entB) W) (hs : w.heap.size ≤ W.heap.size) => show Calls Tryz.prog 113 #[.pointer (some ⟨w.heap.size, 0, none⟩), .string C4] W fun e w' => e = .returned (.tuple #[.int .i64 C4.size, .nilIface]) ∧ JB w.heap.size w.heap.size (be n 2 ++ (l.take (i + 1)).flatMap entB) w' ∧ Below w.heap.size W w' ∧ Others W w' from by
        have h1 := jbput_any w.heap.size w.heap.size _ C4 W hW HLE.out hs
        rw [HNX.out] at h1
        exact h1)
      obtain ⟨w5, hw5⟩ : ∃ w5, wr.alloc (.cells #[.string P, .bool b, .string S] 74) = w5 := ⟨_, rfl⟩
      obtain ⟨q, hq⟩ : ∃ q, wr.heap.size = q := ⟨_, rfl⟩
      have HB5 := Lib.hid (show w5.heap[q]? = some (.cells #[.string P, .bool b, .string S] 74 (0, 0)) from by rw [← hw5, ← hq]; exact alloc_blk wr _)
      have HL5 := Lib.hid (show LJ wr w5 from by rw [← hw5]; exact (LJ.refl wr).alloc _)
      have l1 : w5.cell? ⟨q, 1, none⟩ = some (.bool b) := cell_blk HB5.out 1
      have HW5 := Lib.hid hw5
      have HQ := Lib.hid hq
      clear hx hxm hx1 hx2 hP hS hPd hSd hPs hSs e0 e1 e2 hb hKB hPB hSB sK sP sS t1 t2 t3 t4 hC4d hw5 hf hgk hgl hk0
      cases b with
      | true =>
        have hkd2 : kd = 2 := hkd
        subst hkd2
        clear hkd
        go_upto_region 6 with fail
        rw [HW5.out]
        go_upto_region 9 with fail
        refine wp_region_held_drew (S := fun w' => w'.heap[q]? = some (.cells #[.string P, .bool true, .string S] 74 (0, 0))) (by kernel_rfl) HB5.out (fun hHeld => ?_)
        clear l1
        have hL := Lib.hid HL5.out.drew
        refine tkS 0 hHeld ?_ (hy := by intro w hSw; have l0 := cell_blk hSw 0; have l1 := cell_blk hSw 1; have l2 := cell_blk hSw 2; go_simp; (try with_reducible rfl))
        refine tkS 2 hHeld ?_ (hy := by intro w hSw; have l0 := cell_blk hSw 0; have l1 := cell_blk hSw 1; have l2 := cell_blk hSw 2; go_simp; (try with_reducible rfl))
        refine tkS 3 hHeld ?_ (hy := by intro w hSw; have l0 := cell_blk hSw 0; have l1 := cell_blk hSw 1; have l2 := cell_blk hSw 2; go_simp; (try with_reducible rfl))
        refine tkS 4 hHeld ?_ (hy := by intro w hSw; have l0 := cell_blk hSw 0; have l1 := cell_blk hSw 1; have l2 := cell_blk hSw 2; go_simp; (try with_reducible rfl))
        refine tkS 7 hHeld ?_ (hy := by intro w hSw; have l0 := cell_blk hSw 0; have l1 := cell_blk hSw 1; have l2 := cell_blk hSw 2; go_simp; (try with_reducible rfl))
        refine tkS 8 hHeld ?_ (hy := by intro w hSw; have l0 := cell_blk hSw 0; have l1 := cell_blk hSw 1; have l2 := cell_blk hSw 2; go_simp; (try with_reducible rfl))
        refine tkS 10 hHeld ?_ (hy := by intro w hSw; have l0 := cell_blk hSw 0; have l1 := cell_blk hSw 1; have l2 := cell_blk hSw 2; go_simp; (try with_reducible rfl))
        refine tkS 11 hHeld ?_ (hy := by intro w hSw; have l0 := cell_blk hSw 0; have l1 := cell_blk hSw 1; have l2 := cell_blk hSw 2; go_simp; (try with_reducible rfl))
        refine tkS 12 hHeld ?_ (hy := by intro w hSw; have l0 := cell_blk hSw 0; have l1 := cell_blk hSw 1; have l2 := cell_blk hSw 2; go_simp; (try with_reducible rfl))
        refine tkS 15 hHeld ?_ (hy := by intro w hSw; have l0 := cell_blk hSw 0; have l1 := cell_blk hSw 1; have l2 := cell_blk hSw 2; go_simp; (try with_reducible rfl))
        refine tkS 16 hHeld ?_ (hy := by intro w hSw; have l0 := cell_blk hSw 0; have l1 := cell_blk hSw 1; have l2 := cell_blk hSw 2; go_simp; (try with_reducible rfl))
        refine wpAnyH_ready (rs := [1]) (by kernel_rfl) (by simp) ?_
        refine AllReadyH.cons rfl (fun K hK => ?_) AllReadyH.nil
        go_simp
        (with_reducible refine (HK.out _).mono ?_); rintro e wx ⟨rfl, hx⟩
        have hS2 := hx.block hHeld
        have hL := Lib.hid (hL.out.trans hx)
        clear hx
        refine hK.out _ _ hS2 (fun hHeld => ?_)
        clear hK K hS2
        refine wpAnyH_ready (rs := [5]) (by kernel_rfl) (by simp) ?_
        refine AllReadyH.cons rfl (fun K hK => ?_) AllReadyH.nil
        go_simp
        (with_reducible refine (HPL.out _).mono ?_); rintro e wx ⟨rfl, hx⟩
        have hS2 := hx.block hHeld
        have hL := Lib.hid (hL.out.trans hx)
        clear hx
        refine hK.out _ _ hS2 (fun hHeld => ?_)
        clear hK K hS2
        refine tkS 6 hHeld ?_
        refine tkS 9 hHeld ?_
        refine wpAnyH_ready (rs := [13]) (by kernel_rfl) (by simp) ?_
        refine AllReadyH.cons rfl (fun K hK => ?_) AllReadyH.nil
        go_simp
        (with_reducible refine (HSL.out _).mono ?_); rintro e wx ⟨rfl, hx⟩
        have hS2 := hx.block hHeld
        have hL := Lib.hid (hL.out.trans hx)
        clear hx
        refine hK.out _ _ hS2 (fun hHeld => ?_)
        clear hK K hS2
        refine tkS 14 hHeld ?_
        refine tkS 17 hHeld ?_
        refine wpAnyH_ready (rs := [18]) (by kernel_rfl) (by simp) ?_
        refine AllReadyH.cons rfl (fun K hK => ?_) AllReadyH.nil
        go_simp
        have hsL := Nat.le_trans hsr (Below.size hL.out)
        (with_reducible refine (HWX.out _ (HJ.out.later hL.out) hsL).mono ?_); rintro e wx ⟨rfl, hj6, hb6, ho6⟩
        have HJ6 := Lib.hid hj6
        have HB6 := Lib.hid (HB.out.trans ((Below.mono hL.out hsr).trans hb6))
        have HR6 := Lib.hid (own_others (own_below HR.out hL.out) ho6 (by decide) (by decide))
        have hS2 := ho6 _ _ _ _ hHeld (by decide) (by decide)
        clear hj6 hb6 ho6
        refine hK.out _ _ hS2 (fun hHeld => ?_)
        clear hK K hS2
        refine wpAnyH_done (by kernel_rfl) ?_ _
        go_simp
        go_wp2_with fail
        go_roundw
        case rel => exact ⟨i + 1, by omega, by simp, HR6, HJ6, HB6⟩
        case measure => simp [intOf]; omega
      | false =>
        have hkd2 : kd = 1 := hkd
        subst hkd2
        clear hkd
        go_upto_region 6 with fail
        rw [HW5.out]
        go_upto_region 9 with fail
        refine wp_region_held_drew (S := fun w' => w'.heap[q]? = some (.cells #[.string P, .bool false, .string S] 74 (0, 0))) (by kernel_rfl) HB5.out (fun hHeld => ?_)
        clear l1
        have hL := Lib.hid HL5.out.drew
        refine tkS 0 hHeld ?_ (hy := by intro w hSw; have l0 := cell_blk hSw 0; have l1 := cell_blk hSw 1; have l2 := cell_blk hSw 2; go_simp; (try with_reducible rfl))
        refine tkS 2 hHeld ?_ (hy := by intro w hSw; have l0 := cell_blk hSw 0; have l1 := cell_blk hSw 1; have l2 := cell_blk hSw 2; go_simp; (try with_reducible rfl))
        refine tkS 3 hHeld ?_ (hy := by intro w hSw; have l0 := cell_blk hSw 0; have l1 := cell_blk hSw 1; have l2 := cell_blk hSw 2; go_simp; (try with_reducible rfl))
        refine tkS 4 hHeld ?_ (hy := by intro w hSw; have l0 := cell_blk hSw 0; have l1 := cell_blk hSw 1; have l2 := cell_blk hSw 2; go_simp; (try with_reducible rfl))
        refine tkS 7 hHeld ?_ (hy := by intro w hSw; have l0 := cell_blk hSw 0; have l1 := cell_blk hSw 1; have l2 := cell_blk hSw 2; go_simp; (try with_reducible rfl))
        refine tkS 8 hHeld ?_ (hy := by intro w hSw; have l0 := cell_blk hSw 0; have l1 := cell_blk hSw 1; have l2 := cell_blk hSw 2; go_simp; (try with_reducible rfl))
        refine tkS 10 hHeld ?_ (hy := by intro w hSw; have l0 := cell_blk hSw 0; have l1 := cell_blk hSw 1; have l2 := cell_blk hSw 2; go_simp; (try with_reducible rfl))
        refine tkS 11 hHeld ?_ (hy := by intro w hSw; have l0 := cell_blk hSw 0; have l1 := cell_blk hSw 1; have l2 := cell_blk hSw 2; go_simp; (try with_reducible rfl))
        refine tkS 12 hHeld ?_ (hy := by intro w hSw; have l0 := cell_blk hSw 0; have l1 := cell_blk hSw 1; have l2 := cell_blk hSw 2; go_simp; (try with_reducible rfl))
        refine tkS 15 hHeld ?_ (hy := by intro w hSw; have l0 := cell_blk hSw 0; have l1 := cell_blk hSw 1; have l2 := cell_blk hSw 2; go_simp; (try with_reducible rfl))
        refine tkS 16 hHeld ?_ (hy := by intro w hSw; have l0 := cell_blk hSw 0; have l1 := cell_blk hSw 1; have l2 := cell_blk hSw 2; go_simp; (try with_reducible rfl))
        refine wpAnyH_ready (rs := [1]) (by kernel_rfl) (by simp) ?_
        refine AllReadyH.cons rfl (fun K hK => ?_) AllReadyH.nil
        go_simp
        (with_reducible refine (HK.out _).mono ?_); rintro e wx ⟨rfl, hx⟩
        have hS2 := hx.block hHeld
        have hL := Lib.hid (hL.out.trans hx)
        clear hx
        refine hK.out _ _ hS2 (fun hHeld => ?_)
        clear hK K hS2
        refine wpAnyH_ready (rs := [5]) (by kernel_rfl) (by simp) ?_
        refine AllReadyH.cons rfl (fun K hK => ?_) AllReadyH.nil
        go_simp
        (with_reducible refine (HPL.out _).mono ?_); rintro e wx ⟨rfl, hx⟩
        have hS2 := hx.block hHeld
        have hL := Lib.hid (hL.out.trans hx)
        clear hx
        refine hK.out _ _ hS2 (fun hHeld => ?_)
        clear hK K hS2
        refine tkS 6 hHeld ?_
        refine tkS 9 hHeld ?_
        refine wpAnyH_ready (rs := [13]) (by kernel_rfl) (by simp) ?_
        refine AllReadyH.cons rfl (fun K hK => ?_) AllReadyH.nil
        go_simp
        (with_reducible refine (HSL.out _).mono ?_); rintro e wx ⟨rfl, hx⟩
        have hS2 := hx.block hHeld
        have hL := Lib.hid (hL.out.trans hx)
        clear hx
        refine hK.out _ _ hS2 (fun hHeld => ?_)
        clear hK K hS2
        refine tkS 14 hHeld ?_
        refine tkS 17 hHeld ?_
        refine wpAnyH_ready (rs := [18]) (by kernel_rfl) (by simp) ?_
        refine AllReadyH.cons rfl (fun K hK => ?_) AllReadyH.nil
        go_simp
        have hsL := Nat.le_trans hsr (Below.size hL.out)
        (with_reducible refine (HWX.out _ (HJ.out.later hL.out) hsL).mono ?_); rintro e wx ⟨rfl, hj6, hb6, ho6⟩
        have HJ6 := Lib.hid hj6
        have HB6 := Lib.hid (HB.out.trans ((Below.mono hL.out hsr).trans hb6))
        have HR6 := Lib.hid (own_others (own_below HR.out hL.out) ho6 (by decide) (by decide))
        have hS2 := ho6 _ _ _ _ hHeld (by decide) (by decide)
        clear hj6 hb6 ho6
        refine hK.out _ _ hS2 (fun hHeld => ?_)
        clear hK K hS2
        refine wpAnyH_done (by kernel_rfl) ?_ _
        go_simp
        go_wp2_with fail
        go_roundw
        case rel => exact ⟨i + 1, by omega, by simp, HR6, HJ6, HB6⟩
        case measure => simp [intOf]; omega
    · have hie : i = n := by omega
      have hii : ¬ (i : Int) < (n : Int) := by omega
      have HST := Lib.hid (jbstring_any w.heap.size w.heap.size _ wr HJ.out hsr)
      have he : be n 2 ++ (l.take i).flatMap entB = imageE l := by rw [HEND.out, hie, ← HN.out, List.take_length]
      rw [he] at HST
      obtain ⟨OUT, hO⟩ : ∃ OUT : ByteArray, (⟨(imageE l).toArray⟩ : ByteArray) = OUT := ⟨_, rfl⟩
      rw [hO] at HST
      have HOUT := Lib.hid hO
      clear hie he hO
      go_wp2_with (first
        | (go_at_call 115; (with_reducible refine HST.out.mono ?_); rintro e w6 ⟨rfl, hj6, hb6⟩; have HB6 := Lib.hid hb6; clear hj6 hb6)
        | fail)
      go_ret
      exact ⟨ret_str HOUT.out.symm, Below.trans HL1.out (HB.out.trans HB6.out)⟩
end Go.Proofs.YtfpbocjmlhcgiaaGreatDoor
/- The volume's read: an image is read as its entries. -/
namespace Go.Proofs.YtfpbocjmlhcgiaaGreatDoor
open Go.RowKit PJ Go.Maps Go.WideMaps Go.Shelf

/-- A reader that has these bytes left. -/
def RL (w : World) (R : Nat) (s : List UInt8) : Prop := RdAt w R ⟨s.toArray⟩ false
theorem ba_list (s : List UInt8) : (⟨s.toArray⟩ : ByteArray).data.toList = s := rfl
theorem take_app {a b : List UInt8} {n : Nat} (ha : a.length = n) : takeB ⟨(a ++ b).toArray⟩ false n = (⟨a.toArray⟩, ⟨b.toArray⟩, false) := by
  have hs : (⟨(a ++ b).toArray⟩ : ByteArray).size = n + b.length := by show (a ++ b).toArray.size = _; simp; omega
  unfold takeB
  rw [if_neg (by rintro (e | e); cases e; omega)]
  have e1 : (⟨(a ++ b).toArray⟩ : ByteArray).extract 0 n = ⟨a.toArray⟩ := by
    apply ByteArray.ext
    apply Array.toList_inj.1
    rw [ex_list]
    simp [← ha]
  have e2 : (⟨(a ++ b).toArray⟩ : ByteArray).extract n (⟨(a ++ b).toArray⟩ : ByteArray).size = ⟨b.toArray⟩ := by
    apply ByteArray.ext
    apply Array.toList_inj.1
    rw [ex_list, hs]
    simp [← ha]
  rw [e1, e2]
theorem RL.kept {w w' : World} {R : Nat} {s : List UInt8} (h : RL w R s) (hb : w'.heap[R]? = w.heap[R]?) : RL w' R s := hb.trans h
theorem RL.later {w w' : World} {R : Nat} {s : List UInt8} (h : RL w R s) (hl : LJ w w') : RL w' R s := hl.block h
theorem vnum_rl (w : World) (R : Nat) (a b : List UInt8) (k : Nat) (n : Int) (ha : a.length = k) (hk : k ≤ 2) (hn : (ofL a : Int) = n) (h : RL w R (a ++ b)) :
    Calls Tryz.prog 163 #[.pointer (some ⟨R, 0, none⟩), .int .i64 k] w fun e w' => e = .returned (.int .i64 n) ∧ RL w' R b ∧ OnlyJ (fun q => q = R) w w' := by
  have h1 := vnumber_any w R _ false k hk h
  rw [take_app ha, ba_list] at h1
  rw [← hn]
  exact h1
theorem vtake_rl (w : World) (R : Nat) (a b : List UInt8) (n : Nat) (ha : a.length = n) (h : RL w R (a ++ b)) :
    Calls Tryz.prog 164 #[.pointer (some ⟨R, 0, none⟩), .int .i64 n] w fun e w' => e = .returned (.string ⟨a.toArray⟩) ∧ RL w' R b ∧ OnlyJ (fun q => q = R) w w' := by
  have h1 := vtake_any w R _ false n h
  rw [take_app ha] at h1
  exact h1
/-- The path that was read last. -/
def prevP (l : List Ent) : Nat → List UInt8
  | 0 => []
  | j + 1 => ((l[j]?).map (·.p)).getD []
theorem last_lt {l : List Ent} (h : VInv l) {i : Nat} {x : Ent} (hx : l[i]? = some x) : prevP l i < x.p := by
  cases i with
  | zero =>
    have h2 := (h.two x (List.mem_of_getElem? hx)).1
    cases hp : x.p with
    | nil => rw [hp] at h2; simp at h2
    | cons c r => exact List.Lex.nil
  | succ j =>
    obtain ⟨c1, c2⟩ := List.getElem?_eq_some_iff.1 hx
    have hj : l[j]? = some (l[j]'(by omega)) := List.getElem?_eq_getElem _
    show (((l[j]?).map (·.p)).getD []) < x.p
    rw [hj]
    have := List.pairwise_iff_getElem.1 h.rise j (j + 1) (by omega) c1 (by omega)
    rw [c2] at this
    exact this
def tailE (l : List Ent) (k i : Nat) : List UInt8 := (l.drop i).flatMap entB ++ List.replicate k 0
theorem tail_at {l : List Ent} {k i : Nat} {x : Ent} (hx : l[i]? = some x) : tailE l k i = be (if x.d then 2 else 1) 1 ++ (be x.p.length 1 ++ (x.p ++ (be x.s.length 2 ++ (x.s ++ tailE l k (i + 1))))) := by
  unfold tailE
  rw [ent_rest hx, ent_bytes]
  simp only [List.append_assoc]
theorem tail_end (l : List Ent) (k : Nat) : tailE l k l.length = List.replicate k 0 := by
  unfold tailE
  rw [List.drop_length]
  rfl
theorem image_tail (l : List Ent) (k : Nat) : imageE l ++ List.replicate k 0 = be l.length 2 ++ tailE l k 0 := by
  unfold imageE tailE
  rw [List.append_assoc]
  rfl
theorem trim_zs (k : Nat) : Lib.trimS (List.replicate k (0 : UInt8)) [0] = [] := by
  unfold Lib.trimS Lib.trimLeftS Lib.trimRightS
  have h : ∀ k : Nat, (List.replicate k (0 : UInt8)).dropWhile ([0] : List UInt8).contains = [] := by
    intro k
    rw [dropW_nil, List.all_eq_true]
    intro c hc
    rw [List.eq_of_mem_replicate hc]
    rfl
  rw [List.reverse_replicate, h k]
  rfl
set_option maxRecDepth 100000 in
set_option maxHeartbeats 8000000 in
theorem vread_any (w : World) (S : ByteArray) (l : List Ent) (hi : VInv l) (hl : l.length ≤ 800) (k : Nat) (hk : k ≤ 1000000) (hS : S.data.toList = imageE l ++ List.replicate k 0) :
    Calls Tryz.prog 114 #[.string S] w fun e w' => ∃ m, e = .returned (.tuple #[.map (some m), .bool true]) ∧ EMap w' m l ∧ w.heap.size ≤ m ∧ LJ w w' := by
  have hmm := @run_makeMap Tryz.prog
  obtain ⟨n, hn⟩ : ∃ n, l.length = n := ⟨_, rfl⟩
  have hn800 : n ≤ 800 := by omega
  have HV := Lib.hid hi
  have HN := Lib.hid hn
  obtain ⟨R, hR⟩ : ∃ R, w.heap.size = R := ⟨_, rfl⟩
  obtain ⟨w1, hw1⟩ : ∃ w1, w.alloc (.cells #[.string S, .bool false] 208) = w1 := ⟨_, rfl⟩
  have hl1 : LJ w w1 := by rw [← hw1]; exact (LJ.refl w).alloc _
  have hb1 : w1.heap[R]? = some (.cells #[.string S, .bool false] 208 (0, 0)) := by rw [← hw1, ← hR]; exact alloc_blk w _
  obtain ⟨mb, hmb⟩ : ∃ mb, w1.heap.size = mb := ⟨_, rfl⟩
  obtain ⟨w2, hw2⟩ : ∃ w2, w1.alloc (.map #[] 0) = w2 := ⟨_, rfl⟩
  have hl2 : LJ w1 w2 := by rw [← hw2]; exact (LJ.refl w1).alloc _
  have HM2 := Lib.hid (show EMap w2 mb (l.take 0) from by rw [List.take_zero, ← hw2, ← hmb]; exact EMap.made w1)
  have HR2 := Lib.hid (show RL w2 R (be n 2 ++ tailE l k 0) from by
    have e : S = ⟨(be n 2 ++ tailE l k 0).toArray⟩ := by
      apply ByteArray.ext
      apply Array.toList_inj.1
      rw [hS, image_tail, hn]
    show RdAt w2 R _ false
    rw [← e]
    exact hl2.block hb1)
  have HN2 := Lib.hid (fun W (h : RL W R (be n 2 ++ tailE l k 0)) => show Calls Tryz.prog 163 #[.pointer (some ⟨R, 0, none⟩), .int .i64 2] W fun e w' => e = .returned (.int .i64 n) ∧ RL w' R (tailE l k 0) ∧ OnlyJ (fun q => q = R) W w' from
    vnum_rl W R _ _ 2 n (by rw [be_len]) (by omega) (by rw [ofL_be_lt (by omega)]) h)
  have HLT := Lib.hid (And.intro (Below.size hl1) (Below.size hl2))
  have hRm : R < mb := by rw [← hmb, ← hR, ← hw1, World.size_alloc]; omega
  have HL2 := Lib.hid (hl1.trans hl2)
  have HW1 := Lib.hid hw1
  have HW2 := Lib.hid hw2
  have HRE := Lib.hid hR
  have HMB := Lib.hid hmb
  clear hw1 hw2 hl1 hl2 hb1 hi hl hS hn
  go_enter Tryz.func114, Tryz.ntmps114
  go_upto_region 2 with fail
  rw [HW1.out]
  go_upto_region 3 with fail
  rw [HW2.out]
  clear hmm
  go_upto_region 5 with (first
    | (go_at_call 163; (with_reducible refine (HN2.out _ HR2.out).mono ?_); rintro e w3 ⟨rfl, hr3, ho3⟩; have HR3 := Lib.hid hr3; have HO3 := Lib.hid ho3; clear hr3 ho3)
    | fail)
  have hsm : mb < w2.heap.size := HM2.out.lt
  have HM3 := Lib.hid (HM2.out.kept (HO3.out.block mb hsm (by omega)))
  have HB3 := Lib.hid (show Below w.heap.size w w3 from by
    rw [HRE.out]
    have h0 := HL2.out
    have hs := HO3.out.size
    refine ⟨HO3.out.os.trans h0.os, HO3.out.tape.trans h0.tape, HO3.out.output.trans h0.output, by have := Below.size h0; omega, fun q hq => ?_⟩
    exact (HO3.out.block q (by omega) (by omega)).trans (Below.block h0 q (by rw [HRE.out]; exact hq)))
  go_loopw [6, 16] (fun v6 v16 wr => ∃ i : Nat, i ≤ n ∧ v16 = .int .i64 (i : Int) ∧ v6 = .string ⟨(prevP l i).toArray⟩ ∧ Hid (RL wr R (tailE l k i)) ∧ Hid (EMap wr mb (l.take i)) ∧ Hid (Below w.heap.size w wr)) (fun _ v16 _ => n - (intOf v16).toNat)
  case atStart => exact ⟨0, by omega, rfl, rfl, HR3, HM3, HB3⟩
  case round =>
    obtain ⟨i, hin, rfl, rfl, HR, HM, HB⟩ := hrel
    by_cases hlt : i < n
    · have hii : (i : Int) < (n : Int) := by omega
      obtain ⟨x, hx⟩ : ∃ x, l[i]? = some x := ⟨_, List.getElem?_eq_getElem (by have := HN.out; omega)⟩
      have hxm := List.mem_of_getElem? hx
      obtain ⟨hx1, hx2⟩ := HV.out.hi x hxm
      have hlast := last_lt HV.out hx
      have hpth := HV.out.path x hxm
      have hdir := HV.out.dirS x hxm
      have HAH := Lib.hid (fun hr => HV.out.ahead hx hr)
      have HPT := Lib.hid (put_take HV.out.rise hx)
      obtain ⟨p, hp⟩ : ∃ p, x.p = p := ⟨_, rfl⟩
      obtain ⟨s, hs⟩ : ∃ s, x.s = s := ⟨_, rfl⟩
      obtain ⟨b, hb⟩ : ∃ b, x.d = b := ⟨_, rfl⟩
      obtain ⟨LB, hLB⟩ : ∃ B : ByteArray, (⟨(prevP l i).toArray⟩ : ByteArray) = B := ⟨_, rfl⟩
      have hLl : LB.toList = prevP l i := by rw [ByteArray.toList_eq, ← hLB]
      have HTL := Lib.hid (tail_at (k := k) hx)
      have HXE := Lib.hid (show x = ⟨p, b, s⟩ from by rw [← hp, ← hb, ← hs])
      rw [hp, hs, hb] at HTL
      rw [hp] at hx1 hlast hpth HAH
      rw [hs] at hx2 hdir
      rw [hb] at hdir
      obtain ⟨hpb, hp47⟩ := hpth
      obtain ⟨kd, hkd⟩ : ∃ kd : Int, kd = (if b then 2 else 1) := ⟨_, rfl⟩
      obtain ⟨P, hP⟩ : ∃ P : ByteArray, (⟨p.toArray⟩ : ByteArray) = P := ⟨_, rfl⟩
      obtain ⟨D, hD⟩ : ∃ D : ByteArray, (⟨s.toArray⟩ : ByteArray) = D := ⟨_, rfl⟩
      have hPd : P.data.toList = p := by rw [← hP]
      have hPl : P.toList = p := by rw [ByteArray.toList_eq, hPd]
      have hPs : P.size = p.length := by rw [← hP]; show p.toArray.size = _; rw [List.size_toArray]
      have hDs : D.size = s.length := by rw [← hD]; show s.toArray.size = _; rw [List.size_toArray]
      have hDd : D.data.toList = s := by rw [← hD]
      have hD4 : ¬ (1024 : Int) < (D.size : Int) := by omega
      have hb47 : (p == [47]) = false := by simpa using hp47
      obtain ⟨T1, hT1⟩ : ∃ T, be s.length 2 ++ (s ++ tailE l k (i + 1)) = T := ⟨_, rfl⟩
      obtain ⟨T2, hT2⟩ : ∃ T, be p.length 1 ++ (p ++ T1) = T := ⟨_, rfl⟩
      rw [hT1, hT2] at HTL
      have hp1 : 1 ≤ p.length := by
        rcases Nat.eq_zero_or_pos p.length with e | e
        · rw [List.length_eq_zero_iff.1 e] at hlast
          exact absurd hlast (by simp)
        · exact e
      have HC1 := Lib.hid (fun W (h : RL W R (tailE l k i)) => show Calls Tryz.prog 163 #[.pointer (some ⟨R, 0, none⟩), .int .i64 1] W fun e w' => e = .returned (.int .i64 kd) ∧ RL w' R T2 ∧ OnlyJ (fun q => q = R) W w' from by
        rw [HTL.out] at h
        exact vnum_rl W R _ _ 1 kd (by rw [be_len]) (by omega) (by rw [hkd]; cases b <;> rfl) h)
      have HC2 := Lib.hid (fun W (h : RL W R T2) => show Calls Tryz.prog 163 #[.pointer (some ⟨R, 0, none⟩), .int .i64 1] W fun e w' => e = .returned (.int .i64 (p.length : Int)) ∧ RL w' R (p ++ T1) ∧ OnlyJ (fun q => q = R) W w' from by
        rw [← hT2] at h
        exact vnum_rl W R _ _ 1 p.length (by rw [be_len]) (by omega) (by rw [ofL_be_lt (by omega)]) h)
      have HC3 := Lib.hid (fun W (h : RL W R (p ++ T1)) => show Calls Tryz.prog 164 #[.pointer (some ⟨R, 0, none⟩), .int .i64 (p.length : Int)] W fun e w' => e = .returned (.string P) ∧ RL w' R T1 ∧ OnlyJ (fun q => q = R) W w' from by
        rw [← hP]
        exact vtake_rl W R _ _ p.length rfl h)
      have HC4 := Lib.hid (fun W (h : RL W R T1) => show Calls Tryz.prog 163 #[.pointer (some ⟨R, 0, none⟩), .int .i64 2] W fun e w' => e = .returned (.int .i64 (s.length : Int)) ∧ RL w' R (s ++ tailE l k (i + 1)) ∧ OnlyJ (fun q => q = R) W w' from by
        rw [← hT1] at h
        exact vnum_rl W R _ _ 2 s.length (by rw [be_len]) (by omega) (by rw [ofL_be_lt (by omega)]) h)
      have HC5 := Lib.hid (fun W (h : RL W R (s ++ tailE l k (i + 1))) => show Calls Tryz.prog 164 #[.pointer (some ⟨R, 0, none⟩), .int .i64 (s.length : Int)] W fun e w' => e = .returned (.string D) ∧ RL w' R (tailE l k (i + 1)) ∧ OnlyJ (fun q => q = R) W w' from by
        rw [← hD]
        exact vtake_rl W R _ _ s.length rfl h)
      have HPA := Lib.hid (fun W => show Calls Tryz.prog 28 #[.string P] W fun e w' => e = .returned (.bool true) ∧ LJ W w' from by
        have h1 := vpath_any W P (by omega)
        rw [hPd, hpb] at h1
        exact h1)
      obtain ⟨UP, hUP⟩ : ∃ B : ByteArray, (⟨(upP p).toArray⟩ : ByteArray) = B := ⟨_, rfl⟩
      have hUl : UP.toList = upP p := by rw [ByteArray.toList_eq, ← hUP]
      have HUP := Lib.hid (fun W => show Calls Tryz.prog 89 #[.string P] W fun e w' => e = .returned (.string UP) ∧ w' = W from by
        have h1 := vparent_any W P (by omega) (by omega)
        rw [hPd, hUP] at h1
        exact h1)
      have hUs : UP.size ≤ 48 := by
        have h1 : UP.size = (upP p).length := by rw [← hUP]; show (upP p).toArray.size = _; rw [List.size_toArray]
        rw [h1]
        unfold upP
        rw [List.length_take]
        omega
      obtain ⟨up, hup⟩ : ∃ u, upP p = u := ⟨_, rfl⟩
      rw [hup] at hUl HAH
      have hUd : UP.data.toList = up := by rw [← hUP, hup]
      have hP48 : P.size ≤ 48 := by omega
      have hbl : Op.bytesLess p (prevP l i) = false := by rw [Proofs.bytesLess_eq, decide_eq_false (fun h => List.lt_irrefl _ (List.lt_trans h hlast))]
      have hne : ¬ p = prevP l i := fun h => lt_ne hlast h.symm
      have hneb : (p == prevP l i) = false := by simpa using hne
      have hD5 : (D.size : Int) ≤ 1024 := by omega
      have HPE := Lib.hid (show entOf P b D = x from by rw [HXE.out]; unfold entOf; rw [hPd, hDd])
      have HLN := Lib.hid (show (⟨(prevP l (i + 1)).toArray⟩ : ByteArray) = P from by
        have e : prevP l (i + 1) = p := by show (((l[i]?).map (·.p)).getD []) = p; rw [hx, ← hp]; rfl
        rw [e, hP])
      rw [hLB]
      have HMLT := Lib.hid HM.out.lt
      have HDD := Lib.hid hD
      clear hx hxm hp hs hb hP hD hT1 hT2 hUP hLB hup hlast hPd hDd hPs hDs hpb
      cases b with
      | true =>
        have hkd2 : kd = 2 := hkd
        subst hkd2
        clear hkd
        have hDe : D = ⟨#[]⟩ := by rw [← HDD.out, hdir rfl]
        subst hDe
        clear hdir
        go_upto_region 7 with (first
          | (go_at_call 163; (with_reducible refine (HC1.out _ HR.out).mono ?_); rintro e w4 ⟨rfl, hr4, ho4⟩; have HR4 := Lib.hid hr4; have HO4 := Lib.hid ho4; clear hr4 ho4)
          | fail)
        go_upto_region 8 with (first
          | (go_at_call 163; (with_reducible refine (HC2.out _ HR4.out).mono ?_); rintro e w5 ⟨rfl, hr5, ho5⟩; have HR5 := Lib.hid hr5; have HO5 := Lib.hid ho5; clear hr5 ho5)
          | (go_at_call 164; (with_reducible refine (HC3.out _ HR5.out).mono ?_); rintro e w6 ⟨rfl, hr6, ho6⟩; have HR6 := Lib.hid hr6; have HO6 := Lib.hid ho6; clear hr6 ho6)
          | fail)
        obtain ⟨w7, hw7⟩ : ∃ w7, w6.alloc (.cells #[.string P, .bool true, .string ⟨#[]⟩] 74) = w7 := ⟨_, rfl⟩
        obtain ⟨q, hq⟩ : ∃ q, w6.heap.size = q := ⟨_, rfl⟩
        have HB7 := Lib.hid (show w7.heap[q]? = some (.cells #[.string P, .bool true, .string ⟨#[]⟩] 74 (0, 0)) from by rw [← hw7, ← hq]; exact alloc_blk w6 _)
        have HL7 := Lib.hid (show LJ w6 w7 from by rw [← hw7]; exact (LJ.refl w6).alloc _)
        have HO7 := Lib.hid (show OnlyJ (fun q => q = R) wr w7 from ((HO4.out.trans HO5.out).trans HO6.out).trans (OnlyJ.of_below HL7.out))
        have HR7 := Lib.hid (HR6.out.later HL7.out)
        have hRr : R < wr.heap.size := lt_blk HR.out
        have hqR : q ≠ R := by have h1 := ((HO4.out.trans HO5.out).trans HO6.out).size; omega
        have hqw : wr.heap.size ≤ q := by have h1 := ((HO4.out.trans HO5.out).trans HO6.out).size; omega
        rw [hw7, hq]
        clear hw7 hq
        go_upto_region 9 with (first
          | (go_at_call 163; (with_reducible refine (HC4.out _ HR7.out).mono ?_); rintro e w8 ⟨rfl, hr8, ho8⟩; have HR8 := Lib.hid hr8; have HO8 := Lib.hid ho8; clear hr8 ho8)
          | (go_at_call 164; (with_reducible refine (HC5.out _ HR8.out).mono ?_); rintro e w9 ⟨rfl, hr9, ho9⟩; have HR9 := Lib.hid hr9; have HO9 := Lib.hid (HO8.out.trans ho9); have HB9 := Lib.hid ((HO9.out.block q (lt_blk HB7.out) hqR).trans HB7.out); have c92 := cell_blk HB9.out 2; have f92 := free_blk HB9.out 2; clear hr9 ho9)
          | fail)
        (try clear c92)
        (try clear f92)
        obtain ⟨w10, hw10⟩ : ∃ w10, w9.setCell ⟨q, 2, none⟩ (.string ⟨#[]⟩) = w10 := ⟨_, rfl⟩
        have HB10 := Lib.hid (show w10.heap[q]? = some (.cells #[.string P, .bool true, .string ⟨#[]⟩] 74 (0, 0)) from by rw [← hw10]; exact heap_setCell_same _ _ 2 _ _ (.string ⟨#[]⟩) HB9.out)
        have HR10 := Lib.hid (HR9.out.kept (w' := w10) (by rw [← hw10]; exact heap_setCell_other w9 ⟨q, 2, none⟩ R _ (fun e => hqR e.symm)))
        have HO10 := Lib.hid (show OnlyJ (fun k => k = R ∨ k = q) wr w10 from by rw [← hw10]; exact ((HO7.out.trans HO9.out).mono (fun _ _ e => .inl e)).trans ((setCell_only w9 q 2 _).mono (fun _ _ e => .inr e)))
        rw [hw10]
        clear hw10
        have r1 : w10.cell? ⟨R, 1, none⟩ = some (.bool false) := cell_blk HR10.out 1
        have l0 := cell_blk HB10.out 0
        have l1 := cell_blk HB10.out 1
        have l2 := cell_blk HB10.out 2
        go_upto_region 12 with (first
          | (go_at_call 28; (with_reducible refine (HPA.out _).mono ?_); rintro e w11 ⟨rfl, hl11⟩; have HL11 := Lib.hid hl11; have m0 := hl11.cell l0; have m1 := hl11.cell l1; have m2 := hl11.cell l2; clear hl11)
          | (go_at_call 89; (with_reducible refine (HUP.out _).mono ?_); rintro e w12 ⟨rfl, hw12⟩; have hw12 := hw12.symm; subst hw12)
          | fail)
        have HB11 := Lib.hid (HL11.out.block HB10.out)
        have HR11 := Lib.hid (HR10.out.later HL11.out)
        have hm11 : EMap w11 mb (l.take i) := HM.out.kept ((Below.block HL11.out mb (Nat.lt_of_lt_of_le HMLT.out HO10.out.size)).trans (HO10.out.block mb HMLT.out (by rintro (e | e); omega; have := HMLT.out; omega)))
        have HM11 := Lib.hid hm11
        have HBW := Lib.hid (show Below w.heap.size w w11 from by
          have h1 := HO10.out.size
          have h2 := Below.size HL11.out
          have h3 := HB.out.size
          refine ⟨HL11.out.os.trans (HO10.out.os.trans HB.out.os), HL11.out.tape.trans (HO10.out.tape.trans HB.out.tape), HL11.out.output.trans (HO10.out.output.trans HB.out.output), by omega, fun k hk => ?_⟩
          have h4 := HRE.out
          exact (Below.block HL11.out k (by omega)).trans ((HO10.out.block k (by omega) (by rintro (e | e) <;> omega)).trans (HB.out.block k hk)))
        clear m0 m1 m2 l0 l1 l2 r1
        by_cases hu : up = [47]
        · subst hu
          go_upto_region 14 with fail
          obtain ⟨w13, hrun, hm13, hg13⟩ := (show EMap w11.drew mb (l.take i) from HM11.out.kept rfl).put P true ⟨#[]⟩ (by omega) (by rw [List.length_take]; omega)
          rw [HPE.out, HPT.out] at hm13
          have HM13 := Lib.hid hm13
          have HG13 := Lib.hid hg13
          clear hm13 hg13
          refine wp_region_held_drew (S := fun w' => w'.heap[q]? = some (.cells #[.string P, .bool true, .string ⟨#[]⟩] 74 (0, 0))) (by kernel_rfl) HB11.out (fun hHeld => ?_)
          refine tkS 0 hHeld ?_ (hy := by intro w hSw; have l0 := cell_blk hSw 0; have l1 := cell_blk hSw 1; have l2 := cell_blk hSw 2; go_simp; (try with_reducible rfl))
          refine tkS 1 hHeld ?_ (hy := by intro w hSw; have l0 := cell_blk hSw 0; have l1 := cell_blk hSw 1; have l2 := cell_blk hSw 2; go_simp; (try with_reducible rfl))
          refine tkS 2 hHeld ?_ (hy := by intro w hSw; have l0 := cell_blk hSw 0; have l1 := cell_blk hSw 1; have l2 := cell_blk hSw 2; go_simp; (try with_reducible rfl))
          refine tkS 3 hHeld ?_ (hy := by intro w hSw; have l0 := cell_blk hSw 0; have l1 := cell_blk hSw 1; have l2 := cell_blk hSw 2; go_simp; (try with_reducible rfl))
          refine tkS 4 hHeld ?_ (hy := by intro w hSw; have l0 := cell_blk hSw 0; have l1 := cell_blk hSw 1; have l2 := cell_blk hSw 2; go_simp; (try with_reducible rfl))
          refine tkS 5 hHeld ?_ (hy := by intro w hSw; have l0 := cell_blk hSw 0; have l1 := cell_blk hSw 1; have l2 := cell_blk hSw 2; go_simp; (try with_reducible rfl))
          refine wpAnyH_ready (rs := [6]) (by kernel_rfl) (by simp) ?_
          refine AllReadyH.cons rfl (fun K hK => ?_) AllReadyH.nil
          go_simp
          have hS2 := (HG13.out.block q (lt_blk HB11.out) (fun e => by have e' : q = mb := Option.some.inj e; have := HMLT.out; omega)).trans HB11.out
          refine hK.out _ _ hS2 (fun hHeld => ?_)
          clear hK K hS2 hrun
          refine tkS 7 hHeld ?_
          refine wpAnyH_done (by kernel_rfl) ?_ _
          go_simp
          go_wp2_with fail
          go_roundw
          case rel =>
            refine ⟨i + 1, by omega, by simp, by rw [HLN.out], Lib.hid (HR11.out.kept (w' := w13) (HG13.out.block R (lt_blk HR11.out) (fun e => by have e' : R = mb := Option.some.inj e; omega))), HM13, Lib.hid (Below.grown HBW.out ⟨HG13.out.os, HG13.out.tape, HG13.out.output, HG13.out.size, HG13.out.block⟩ HBW.out.size (fun k hk => by cases hk; have := HRE.out; omega))⟩
          case measure => simp [intOf]; omega
        · have hub : (up == [47]) = false := by simpa using hu
          obtain ⟨u, hu1, hu2⟩ := HAH.out hu
          obtain ⟨UPP, hUPP⟩ : ∃ B : ByteArray, (⟨u.p.toArray⟩ : ByteArray) = B := ⟨_, rfl⟩
          obtain ⟨UPD, hUPD⟩ : ∃ B : ByteArray, (⟨u.s.toArray⟩ : ByteArray) = B := ⟨_, rfl⟩
          have hlk : (Instr.lookup 141 (.map (some mb)) (.string UP) false).run Tryz.prog w11 = .ok (.agg #[.string UPP, .bool true, .string UPD]) w11 := by
            have h1 := HM11.out.look UP.data.toList (by rw [Array.length_toList]; have h9 : UP.data.size = UP.size := rfl; omega)
            rw [hUd, hu1] at h1
            have e : (⟨up.toArray⟩ : ByteArray) = UP := by rw [← hUd]
            rw [e] at h1
            rw [h1, ← hUPP, ← hUPD, ← hu2]
            rfl
          clear hu1 hu2 hUPP hUPD
          have hfd : ∀ W : World, (Instr.field 74 (.agg #[.string UPP, .bool true, .string UPD]) 1).run Tryz.prog W = .ok (.bool true) W := fun W => by kernel_rfl
          go_upto_region 14 with fail
          obtain ⟨w13, hrun, hm13, hg13⟩ := (show EMap w11.drew mb (l.take i) from HM11.out.kept rfl).put P true ⟨#[]⟩ (by omega) (by rw [List.length_take]; omega)
          rw [HPE.out, HPT.out] at hm13
          have HM13 := Lib.hid hm13
          have HG13 := Lib.hid hg13
          clear hm13 hg13
          refine wp_region_held_drew (S := fun w' => w'.heap[q]? = some (.cells #[.string P, .bool true, .string ⟨#[]⟩] 74 (0, 0))) (by kernel_rfl) HB11.out (fun hHeld => ?_)
          refine tkS 0 hHeld ?_ (hy := by intro w hSw; have l0 := cell_blk hSw 0; have l1 := cell_blk hSw 1; have l2 := cell_blk hSw 2; go_simp; (try with_reducible rfl))
          refine tkS 1 hHeld ?_ (hy := by intro w hSw; have l0 := cell_blk hSw 0; have l1 := cell_blk hSw 1; have l2 := cell_blk hSw 2; go_simp; (try with_reducible rfl))
          refine tkS 2 hHeld ?_ (hy := by intro w hSw; have l0 := cell_blk hSw 0; have l1 := cell_blk hSw 1; have l2 := cell_blk hSw 2; go_simp; (try with_reducible rfl))
          refine tkS 3 hHeld ?_ (hy := by intro w hSw; have l0 := cell_blk hSw 0; have l1 := cell_blk hSw 1; have l2 := cell_blk hSw 2; go_simp; (try with_reducible rfl))
          refine tkS 4 hHeld ?_ (hy := by intro w hSw; have l0 := cell_blk hSw 0; have l1 := cell_blk hSw 1; have l2 := cell_blk hSw 2; go_simp; (try with_reducible rfl))
          refine tkS 5 hHeld ?_ (hy := by intro w hSw; have l0 := cell_blk hSw 0; have l1 := cell_blk hSw 1; have l2 := cell_blk hSw 2; go_simp; (try with_reducible rfl))
          refine wpAnyH_ready (rs := [6]) (by kernel_rfl) (by simp) ?_
          refine AllReadyH.cons rfl (fun K hK => ?_) AllReadyH.nil
          go_simp
          have hS2 := (HG13.out.block q (lt_blk HB11.out) (fun e => by have e' : q = mb := Option.some.inj e; have := HMLT.out; omega)).trans HB11.out
          refine hK.out _ _ hS2 (fun hHeld => ?_)
          clear hK K hS2 hrun
          refine tkS 7 hHeld ?_
          refine wpAnyH_done (by kernel_rfl) ?_ _
          go_simp
          go_wp2_with fail
          go_roundw
          case rel =>
            refine ⟨i + 1, by omega, by simp, by rw [HLN.out], Lib.hid (HR11.out.kept (w' := w13) (HG13.out.block R (lt_blk HR11.out) (fun e => by have e' : R = mb := Option.some.inj e; omega))), HM13, Lib.hid (Below.grown HBW.out ⟨HG13.out.os, HG13.out.tape, HG13.out.output, HG13.out.size, HG13.out.block⟩ HBW.out.size (fun k hk => by cases hk; have := HRE.out; omega))⟩
          case measure => simp [intOf]; omega
      | false =>
        have hkd2 : kd = 1 := hkd
        subst hkd2
        clear hkd
        go_upto_region 7 with (first
          | (go_at_call 163; (with_reducible refine (HC1.out _ HR.out).mono ?_); rintro e w4 ⟨rfl, hr4, ho4⟩; have HR4 := Lib.hid hr4; have HO4 := Lib.hid ho4; clear hr4 ho4)
          | fail)
        go_upto_region 8 with (first
          | (go_at_call 163; (with_reducible refine (HC2.out _ HR4.out).mono ?_); rintro e w5 ⟨rfl, hr5, ho5⟩; have HR5 := Lib.hid hr5; have HO5 := Lib.hid ho5; clear hr5 ho5)
          | (go_at_call 164; (with_reducible refine (HC3.out _ HR5.out).mono ?_); rintro e w6 ⟨rfl, hr6, ho6⟩; have HR6 := Lib.hid hr6; have HO6 := Lib.hid ho6; clear hr6 ho6)
          | fail)
        obtain ⟨w7, hw7⟩ : ∃ w7, w6.alloc (.cells #[.string P, .bool false, .string ⟨#[]⟩] 74) = w7 := ⟨_, rfl⟩
        obtain ⟨q, hq⟩ : ∃ q, w6.heap.size = q := ⟨_, rfl⟩
        have HB7 := Lib.hid (show w7.heap[q]? = some (.cells #[.string P, .bool false, .string ⟨#[]⟩] 74 (0, 0)) from by rw [← hw7, ← hq]; exact alloc_blk w6 _)
        have HL7 := Lib.hid (show LJ w6 w7 from by rw [← hw7]; exact (LJ.refl w6).alloc _)
        have HO7 := Lib.hid (show OnlyJ (fun q => q = R) wr w7 from ((HO4.out.trans HO5.out).trans HO6.out).trans (OnlyJ.of_below HL7.out))
        have HR7 := Lib.hid (HR6.out.later HL7.out)
        have hRr : R < wr.heap.size := lt_blk HR.out
        have hqR : q ≠ R := by have h1 := ((HO4.out.trans HO5.out).trans HO6.out).size; omega
        have hqw : wr.heap.size ≤ q := by have h1 := ((HO4.out.trans HO5.out).trans HO6.out).size; omega
        rw [hw7, hq]
        clear hw7 hq
        go_upto_region 9 with (first
          | (go_at_call 163; (with_reducible refine (HC4.out _ HR7.out).mono ?_); rintro e w8 ⟨rfl, hr8, ho8⟩; have HR8 := Lib.hid hr8; have HO8 := Lib.hid ho8; clear hr8 ho8)
          | (go_at_call 164; (with_reducible refine (HC5.out _ HR8.out).mono ?_); rintro e w9 ⟨rfl, hr9, ho9⟩; have HR9 := Lib.hid hr9; have HO9 := Lib.hid (HO8.out.trans ho9); have HB9 := Lib.hid ((HO9.out.block q (lt_blk HB7.out) hqR).trans HB7.out); have c92 := cell_blk HB9.out 2; have f92 := free_blk HB9.out 2; clear hr9 ho9)
          | fail)
        (try clear c92)
        (try clear f92)
        obtain ⟨w10, hw10⟩ : ∃ w10, w9.setCell ⟨q, 2, none⟩ (.string D) = w10 := ⟨_, rfl⟩
        have HB10 := Lib.hid (show w10.heap[q]? = some (.cells #[.string P, .bool false, .string D] 74 (0, 0)) from by rw [← hw10]; exact heap_setCell_same _ _ 2 _ _ (.string D) HB9.out)
        have HR10 := Lib.hid (HR9.out.kept (w' := w10) (by rw [← hw10]; exact heap_setCell_other w9 ⟨q, 2, none⟩ R _ (fun e => hqR e.symm)))
        have HO10 := Lib.hid (show OnlyJ (fun k => k = R ∨ k = q) wr w10 from by rw [← hw10]; exact ((HO7.out.trans HO9.out).mono (fun _ _ e => .inl e)).trans ((setCell_only w9 q 2 _).mono (fun _ _ e => .inr e)))
        rw [hw10]
        clear hw10
        have r1 : w10.cell? ⟨R, 1, none⟩ = some (.bool false) := cell_blk HR10.out 1
        have l0 := cell_blk HB10.out 0
        have l1 := cell_blk HB10.out 1
        have l2 := cell_blk HB10.out 2
        go_upto_region 12 with (first
          | (go_at_call 28; (with_reducible refine (HPA.out _).mono ?_); rintro e w11 ⟨rfl, hl11⟩; have HL11 := Lib.hid hl11; have m0 := hl11.cell l0; have m1 := hl11.cell l1; have m2 := hl11.cell l2; clear hl11)
          | (go_at_call 89; (with_reducible refine (HUP.out _).mono ?_); rintro e w12 ⟨rfl, hw12⟩; have hw12 := hw12.symm; subst hw12)
          | fail)
        have HB11 := Lib.hid (HL11.out.block HB10.out)
        have HR11 := Lib.hid (HR10.out.later HL11.out)
        have hm11 : EMap w11 mb (l.take i) := HM.out.kept ((Below.block HL11.out mb (Nat.lt_of_lt_of_le HMLT.out HO10.out.size)).trans (HO10.out.block mb HMLT.out (by rintro (e | e); omega; have := HMLT.out; omega)))
        have HM11 := Lib.hid hm11
        have HBW := Lib.hid (show Below w.heap.size w w11 from by
          have h1 := HO10.out.size
          have h2 := Below.size HL11.out
          have h3 := HB.out.size
          refine ⟨HL11.out.os.trans (HO10.out.os.trans HB.out.os), HL11.out.tape.trans (HO10.out.tape.trans HB.out.tape), HL11.out.output.trans (HO10.out.output.trans HB.out.output), by omega, fun k hk => ?_⟩
          have h4 := HRE.out
          exact (Below.block HL11.out k (by omega)).trans ((HO10.out.block k (by omega) (by rintro (e | e) <;> omega)).trans (HB.out.block k hk)))
        clear m0 m1 m2 l0 l1 l2 r1
        by_cases hu : up = [47]
        · subst hu
          go_upto_region 14 with fail
          obtain ⟨w13, hrun, hm13, hg13⟩ := (show EMap w11.drew mb (l.take i) from HM11.out.kept rfl).put P false D (by omega) (by rw [List.length_take]; omega)
          rw [HPE.out, HPT.out] at hm13
          have HM13 := Lib.hid hm13
          have HG13 := Lib.hid hg13
          clear hm13 hg13
          refine wp_region_held_drew (S := fun w' => w'.heap[q]? = some (.cells #[.string P, .bool false, .string D] 74 (0, 0))) (by kernel_rfl) HB11.out (fun hHeld => ?_)
          refine tkS 0 hHeld ?_ (hy := by intro w hSw; have l0 := cell_blk hSw 0; have l1 := cell_blk hSw 1; have l2 := cell_blk hSw 2; go_simp; (try with_reducible rfl))
          refine tkS 1 hHeld ?_ (hy := by intro w hSw; have l0 := cell_blk hSw 0; have l1 := cell_blk hSw 1; have l2 := cell_blk hSw 2; go_simp; (try with_reducible rfl))
          refine tkS 2 hHeld ?_ (hy := by intro w hSw; have l0 := cell_blk hSw 0; have l1 := cell_blk hSw 1; have l2 := cell_blk hSw 2; go_simp; (try with_reducible rfl))
          refine tkS 3 hHeld ?_ (hy := by intro w hSw; have l0 := cell_blk hSw 0; have l1 := cell_blk hSw 1; have l2 := cell_blk hSw 2; go_simp; (try with_reducible rfl))
          refine tkS 4 hHeld ?_ (hy := by intro w hSw; have l0 := cell_blk hSw 0; have l1 := cell_blk hSw 1; have l2 := cell_blk hSw 2; go_simp; (try with_reducible rfl))
          refine tkS 5 hHeld ?_ (hy := by intro w hSw; have l0 := cell_blk hSw 0; have l1 := cell_blk hSw 1; have l2 := cell_blk hSw 2; go_simp; (try with_reducible rfl))
          refine wpAnyH_ready (rs := [6]) (by kernel_rfl) (by simp) ?_
          refine AllReadyH.cons rfl (fun K hK => ?_) AllReadyH.nil
          go_simp
          have hS2 := (HG13.out.block q (lt_blk HB11.out) (fun e => by have e' : q = mb := Option.some.inj e; have := HMLT.out; omega)).trans HB11.out
          refine hK.out _ _ hS2 (fun hHeld => ?_)
          clear hK K hS2 hrun
          refine tkS 7 hHeld ?_
          refine wpAnyH_done (by kernel_rfl) ?_ _
          go_simp
          go_wp2_with fail
          go_roundw
          case rel =>
            refine ⟨i + 1, by omega, by simp, by rw [HLN.out], Lib.hid (HR11.out.kept (w' := w13) (HG13.out.block R (lt_blk HR11.out) (fun e => by have e' : R = mb := Option.some.inj e; omega))), HM13, Lib.hid (Below.grown HBW.out ⟨HG13.out.os, HG13.out.tape, HG13.out.output, HG13.out.size, HG13.out.block⟩ HBW.out.size (fun k hk => by cases hk; have := HRE.out; omega))⟩
          case measure => simp [intOf]; omega
        · have hub : (up == [47]) = false := by simpa using hu
          obtain ⟨u, hu1, hu2⟩ := HAH.out hu
          obtain ⟨UPP, hUPP⟩ : ∃ B : ByteArray, (⟨u.p.toArray⟩ : ByteArray) = B := ⟨_, rfl⟩
          obtain ⟨UPD, hUPD⟩ : ∃ B : ByteArray, (⟨u.s.toArray⟩ : ByteArray) = B := ⟨_, rfl⟩
          have hlk : (Instr.lookup 141 (.map (some mb)) (.string UP) false).run Tryz.prog w11 = .ok (.agg #[.string UPP, .bool true, .string UPD]) w11 := by
            have h1 := HM11.out.look UP.data.toList (by rw [Array.length_toList]; have h9 : UP.data.size = UP.size := rfl; omega)
            rw [hUd, hu1] at h1
            have e : (⟨up.toArray⟩ : ByteArray) = UP := by rw [← hUd]
            rw [e] at h1
            rw [h1, ← hUPP, ← hUPD, ← hu2]
            rfl
          clear hu1 hu2 hUPP hUPD
          have hfd : ∀ W : World, (Instr.field 74 (.agg #[.string UPP, .bool true, .string UPD]) 1).run Tryz.prog W = .ok (.bool true) W := fun W => by kernel_rfl
          go_upto_region 14 with fail
          obtain ⟨w13, hrun, hm13, hg13⟩ := (show EMap w11.drew mb (l.take i) from HM11.out.kept rfl).put P false D (by omega) (by rw [List.length_take]; omega)
          rw [HPE.out, HPT.out] at hm13
          have HM13 := Lib.hid hm13
          have HG13 := Lib.hid hg13
          clear hm13 hg13
          refine wp_region_held_drew (S := fun w' => w'.heap[q]? = some (.cells #[.string P, .bool false, .string D] 74 (0, 0))) (by kernel_rfl) HB11.out (fun hHeld => ?_)
          refine tkS 0 hHeld ?_ (hy := by intro w hSw; have l0 := cell_blk hSw 0; have l1 := cell_blk hSw 1; have l2 := cell_blk hSw 2; go_simp; (try with_reducible rfl))
          refine tkS 1 hHeld ?_ (hy := by intro w hSw; have l0 := cell_blk hSw 0; have l1 := cell_blk hSw 1; have l2 := cell_blk hSw 2; go_simp; (try with_reducible rfl))
          refine tkS 2 hHeld ?_ (hy := by intro w hSw; have l0 := cell_blk hSw 0; have l1 := cell_blk hSw 1; have l2 := cell_blk hSw 2; go_simp; (try with_reducible rfl))
          refine tkS 3 hHeld ?_ (hy := by intro w hSw; have l0 := cell_blk hSw 0; have l1 := cell_blk hSw 1; have l2 := cell_blk hSw 2; go_simp; (try with_reducible rfl))
          refine tkS 4 hHeld ?_ (hy := by intro w hSw; have l0 := cell_blk hSw 0; have l1 := cell_blk hSw 1; have l2 := cell_blk hSw 2; go_simp; (try with_reducible rfl))
          refine tkS 5 hHeld ?_ (hy := by intro w hSw; have l0 := cell_blk hSw 0; have l1 := cell_blk hSw 1; have l2 := cell_blk hSw 2; go_simp; (try with_reducible rfl))
          refine wpAnyH_ready (rs := [6]) (by kernel_rfl) (by simp) ?_
          refine AllReadyH.cons rfl (fun K hK => ?_) AllReadyH.nil
          go_simp
          have hS2 := (HG13.out.block q (lt_blk HB11.out) (fun e => by have e' : q = mb := Option.some.inj e; have := HMLT.out; omega)).trans HB11.out
          refine hK.out _ _ hS2 (fun hHeld => ?_)
          clear hK K hS2 hrun
          refine tkS 7 hHeld ?_
          refine wpAnyH_done (by kernel_rfl) ?_ _
          go_simp
          go_wp2_with fail
          go_roundw
          case rel =>
            refine ⟨i + 1, by omega, by simp, by rw [HLN.out], Lib.hid (HR11.out.kept (w' := w13) (HG13.out.block R (lt_blk HR11.out) (fun e => by have e' : R = mb := Option.some.inj e; omega))), HM13, Lib.hid (Below.grown HBW.out ⟨HG13.out.os, HG13.out.tape, HG13.out.output, HG13.out.size, HG13.out.block⟩ HBW.out.size (fun k hk => by cases hk; have := HRE.out; omega))⟩
          case measure => simp [intOf]; omega
    · have hie : i = n := by omega
      have hii : ¬ (i : Int) < (n : Int) := by omega
      have hte : tailE l k i = List.replicate k 0 := by rw [hie, ← HN.out]; exact tail_end l k
      have hme : l.take i = l := by rw [hie, ← HN.out]; exact List.take_length
      have hr := HR.out
      have hm := HM.out
      rw [hte] at hr
      rw [hme] at hm
      have HMM := Lib.hid hm
      obtain ⟨Z, hZ⟩ : ∃ Z : ByteArray, (⟨(List.replicate k (0 : UInt8)).toArray⟩ : ByteArray) = Z := ⟨_, rfl⟩
      have hrz : RdAt wr R Z false := by rw [← hZ]; exact hr
      have hZs : Z.size = k := by rw [← hZ]; show (List.replicate k (0 : UInt8)).toArray.size = k; simp
      have hZd : Z.data.toList = List.replicate k 0 := by rw [← hZ]
      have r0 : wr.cell? ⟨R, 0, none⟩ = some (.string Z) := cell_blk hrz 0
      have r1 : wr.cell? ⟨R, 1, none⟩ = some (.bool false) := cell_blk hrz 1
      have HTR := Lib.hid (fun W => show Calls Tryz.prog 130 #[.string Z, .string ⟨#[0]⟩] W fun e w' => e = .returned (.string ⟨#[]⟩) ∧ LJ W w' from by
        have h1 := Any.strings_Trim_laid Tryz.lays160 (by kernel_rfl) Z ⟨#[0]⟩ W (by omega) (by decide) (ascii_of_all (by decide))
        rw [hZd, show (⟨#[0]⟩ : ByteArray).data.toList = [0] from rfl, trim_zs] at h1
        exact h1)
      clear hie hte hme hr hm hZ hrz hZs hZd
      go_wp2_with (first
        | (go_at_call 130; (with_reducible refine (HTR.out _).mono ?_); rintro e w4 ⟨rfl, hl4⟩; have HL4 := Lib.hid hl4; clear hl4)
        | fail)
      go_ret2
      exact ⟨mb, rfl, HMM.out.later HL4.out, by have := HRE.out; omega, Below.trans HB.out (Below.mono HL4.out HB.out.size)⟩
end Go.Proofs.YtfpbocjmlhcgiaaGreatDoor
