/- Vg7, merged: VM18 VM19. -/
import Derived.Test.YtfpbocjmlhcgiaaGreatDoorVg4
import Derived.Lib.FrozenHead
import Derived.Lib.UnsafeStr
import Derived.Test.YtfpbocjmlhcgiaaGreatDoorVg5
set_option linter.unusedSimpArgs false
set_option linter.unusedVariables false
/- A builder, by the blocks that it writes. -/
namespace Go.Proofs.YtfpbocjmlhcgiaaGreatDoor
open Go.RowKit PJ Go.Maps Go.Shelf

/-- A builder at block b; v its buffer. -/
structure JX (b : Nat) (v : Value) (l : List UInt8) (w : World) : Prop where
  blk : ∃ p, (p = .pointer none ∨ p = .pointer (some ⟨b, 0, none⟩)) ∧ w.heap[b]? = some (.cells #[p, v] 164 (0, 0))
  row : w.ownsRowF 0 5 1 v l.length (Lib.byteCells l)
  ne : v.ownBlock ≠ some b
theorem bcell_len (l : List UInt8) : (Lib.byteCells l).length = l.length := Lib.byteCells_length l
theorem JX.fresh (w : World) : JX w.heap.size (.slice none 0 0) [] (w.alloc (.cells #[.pointer none, .slice none 0 0] 164)) :=
  ⟨⟨_, .inl rfl, alloc_blk w _⟩, ⟨rfl, .inl ⟨rfl, rfl⟩⟩, by simp [Value.ownBlock]⟩
theorem JX.at' {b : Nat} {v : Value} {l : List UInt8} {w : World} (h : JX b v l w) : Lib.IsBuilderF 164 5 0 b (Lib.byteCells l) w := by
  obtain ⟨⟨p, hp, hb⟩, hr, hn⟩ := h
  have hr' : w.ownsRowF 0 5 1 v (Lib.byteCells l).length (Lib.byteCells l) := by rw [bcell_len]; exact hr
  rcases hp with rfl | rfl
  · exact .inl ⟨Nat.zero_le _, v, hb, hr', hn⟩
  · exact .inr ⟨Nat.zero_le _, v, hb, hr', hn⟩
theorem JX.lt {b : Nat} {v : Value} {l : List UInt8} {w : World} (h : JX b v l w) : b < w.heap.size := by
  obtain ⟨⟨p, hp, hb⟩, hr, hn⟩ := h
  exact lt_blk hb
theorem JX.kept {b : Nat} {v : Value} {l : List UInt8} {w w' : World} {r : Nat → Prop} (h : JX b v l w) (ho : OnlyJ r w w') (h1 : ¬ r b) (h2 : ∀ q, v.ownBlock = some q → ¬ r q) : JX b v l w' := by
  obtain ⟨⟨p, hp, hb⟩, hr, hn⟩ := h
  refine ⟨⟨p, hp, (ho.block b (lt_blk hb) h1).trans hb⟩, ?_, hn⟩
  rcases hr with ⟨h0, h | ⟨g, cap, cur, fz, e1, e2, e3, e4⟩⟩
  · exact ⟨h0, .inl h⟩
  · exact ⟨h0, .inr ⟨g, cap, cur, fz, e1, e2, (ho.block g (lt_blk e3) (h2 g (by rw [e1]; rfl))).trans e3, e4⟩⟩
/-- Where an append's slice lies. -/
theorem app_near {w : World} {i : TypeInfo} (hi : Tryz.prog.info? 5 = some i) (hz : i.zero = some (.int .u8 0)) (hsize : i.size = 1) (hby : i.bytes = 1) (ty : TypeId)
    (v : Value) (n : Nat) (xs : List Value) (hown : w.ownsRowF 0 5 1 v n xs) (s : ByteArray) (h63 : n + s.size ≤ maxLen) (hbytes : n + s.size ≤ 140737488355328) :
    ∃ v' w', (Builtin.append_ #[99, 9] ty #[v, .string s]).run Tryz.prog w = .ok v' w' ∧ w'.ownsRowF 0 5 1 v' (n + s.size) (xs ++ Lib.strCells s) ∧ w.grownBy w' v.ownBlock ∧ (∀ q, v'.ownBlock = some q → v.ownBlock = some q ∨ w.heap.size ≤ q) := by
  obtain ⟨v', w', h1, h2, h3, -⟩ := Lib.run_append_own_stringF (P := Tryz.prog) w 0 99 9 ty 5 i Tryz.underlying99 Tryz.underlying9 hi hz hsize hby v n xs hown s h63 hbytes (Nat.zero_le _)
  refine ⟨v', w', h1, h2, h3, ?_⟩
  rcases hown.2 with ⟨e1, e2⟩ | ⟨g, cap, cur, fz, e1, -, hg, hfz, hnc, hcm, hcs, htake⟩
  · obtain ⟨v2, w2, k1, k2, k3, -⟩ := Lib.run_append_own_stringF (P := Tryz.prog) w w.heap.size 99 9 ty 5 i Tryz.underlying99 Tryz.underlying9 hi hz hsize hby v n xs ⟨hown.1, .inl ⟨e1, e2⟩⟩ s h63 hbytes (Nat.le_refl _)
    rw [h1] at k1
    injection k1 with k4 k5
    subst k4
    intro q hq
    rcases k2.2 with ⟨e3, -⟩ | ⟨g, cap, cur, fz, e3, hB, -⟩
    · rw [e3] at hq; cases hq
    · rw [e3] at hq
      obtain rfl : g = q := Option.some.inj hq
      exact .inr hB
  · subst e1
    have hxl : xs.length = n := by simpa using hown.1
    by_cases hroom : n + s.size ≤ cap
    · have hcs' : cur.size = cap := by simpa using hcs
      have hr := Lib.run_append_room_stringF (P := Tryz.prog) w 99 9 ty 5 i Tryz.underlying99 Tryz.underlying9 hi hsize g n cap cur fz hg (by simpa using hfz) s hroom (by omega)
      rw [h1] at hr
      injection hr with k4 k5
      subst k4
      intro q hq
      exact .inl hq
    · have holds : ∀ j u, xs[j]? = some u → w.cell? ((⟨g, 0, none⟩ : Addr).add j) = some u := hown.cells (g := g) rfl
      have hr := Lib.run_append_grow_string (P := Tryz.prog) w 99 9 ty 5 i (.int .u8 0) Tryz.underlying99 Tryz.underlying9 hi hz ⟨g, 0, none⟩ n cap xs (by rw [hsize]; simpa using hxl) holds s (by omega) (by unfold maxLen at *; omega) (by rw [hby]; exact growslice_fits (by omega) (by omega))
      rw [h1] at hr
      injection hr with k4 k5
      subst k4
      intro q hq
      right
      obtain rfl : w.heap.size = q := Option.some.inj hq
      exact Nat.le_refl _
theorem wpList_app_near {ops : Array Oper} {rest : List Oper} {o : Oper} {a : Act} {w : World} {Q : Exit → Act → World → Prop} (hgd : o.guard = none) (sl x : Operand)
    (ho : o.op = .call { callee := .builtin .append, args := #[sl, x], argTypes := #[99, 9] }) {i : TypeInfo} (hi : Tryz.prog.info? 5 = some i) (hz : i.zero = some (.int .u8 0)) (hsize : i.size = 1) (hby : i.bytes = 1)
    (v : Value) (n : Nat) (xs : List Value) (hs : a.eval sl = v) (hown : w.ownsRowF 0 5 1 v n xs) (s : ByteArray) (hx : a.eval x = .string s) (h63 : n + s.size ≤ maxLen) (hbytes : n + s.size ≤ 140737488355328)
    (h : ∀ v' w', w'.ownsRowF 0 5 1 v' (n + s.size) (xs ++ Lib.strCells s) → w.grownBy w' v.ownBlock → (∀ q, v'.ownBlock = some q → v.ownBlock = some q ∨ w.heap.size ≤ q) → wpList Tryz.prog ops Q rest (a.put o.dst v') w') : wpList Tryz.prog ops Q (o :: rest) a w := by
  refine wpList_plain hgd fun K hK => ?_
  obtain ⟨v', w', hr, h2, h3, h4⟩ := app_near (w := w) hi hz hsize hby o.type v n xs hown s h63 hbytes
  unfold Oper.wp execOp
  simp only [ho, resolve, invoke, builtin, Sem.run_bind, Sem.run_pure, Result.andThen_ok, List.map_toArray, List.map_cons, List.map_nil, hs, hx, hr]
  exact hK _ _ (h v' w' h2 h3 h4)
set_option maxHeartbeats 2000000 in
set_option maxRecDepth 100000 in
theorem jx_put (b : Nat) (v : Value) (l : List UInt8) (s : ByteArray) (w : World) (h : JX b v l w) (hlen : l.length + s.size ≤ 1000000) :
    Calls Tryz.prog 113 #[.pointer (some ⟨b, 0, none⟩), .string s] w fun e w' => e = .returned (.tuple #[.int .i64 s.size, .nilIface]) ∧ ∃ v', JX b v' (l ++ s.data.toList) w' ∧ OnlyJ (fun q => q = b ∨ v.ownBlock = some q) w w' ∧ (∀ q, v'.ownBlock = some q → v.ownBlock = some q ∨ w.heap.size ≤ q) := by
  obtain ⟨i0, hi, hz0, hz1, hz2⟩ := info_parts info_u8
  have HCK := Lib.hid (show Calls Tryz.prog 162 #[.pointer (some ⟨b, 0, none⟩)] w fun e w' => e = .returned (.tuple #[]) ∧ w'.heap[b]? = some (.cells #[.pointer (some ⟨b, 0, none⟩), v] 164 (0, 0)) ∧ w'.ownsRowF 0 5 1 v l.length (Lib.byteCells l) ∧ OnlyJ (fun q => q = b) w w' ∧ w'.heap.size = w.heap.size from by
    obtain ⟨⟨p, hp, hb⟩, hr, hn⟩ := h
    rcases hp with rfl | rfl
    · refine (jcheck_fresh b w (cell_blk hb 0) (by simp [World.shape?, hb]) (free_blk hb 0)).mono ?_
      rintro e w' ⟨rfl, rfl⟩
      have ho := setCell_only w b 0 (.pointer (some ⟨b, 0, none⟩))
      refine ⟨rfl, heap_setCell_same _ _ 0 _ _ _ hb, ?_, ho, World.size_setCell ..⟩
      rcases hr with ⟨h0, h | ⟨g, cap, cur, fz, e1, e2, e3, e4⟩⟩
      · exact ⟨h0, .inl h⟩
      · exact ⟨h0, .inr ⟨g, cap, cur, fz, e1, e2, (ho.block g (lt_blk e3) (fun e => hn (by rw [e1, ← e]; rfl))).trans e3, e4⟩⟩
    · refine (jcheck_used b w (cell_blk hb 0)).mono ?_
      rintro e w' ⟨rfl, rfl⟩
      exact ⟨rfl, hb, hr, OnlyJ.refl _ _, rfl⟩)
  have HNE := Lib.hid h.ne
  clear h
  go_enter Tryz.func113, Tryz.ntmps113
  go_upto_region 2 with (first
    | (go_at_call 162; (with_reducible refine HCK.out.mono ?_); rintro e w1 ⟨rfl, hb1, hr1, ho1, hs1⟩; have HB1 := Lib.hid hb1; have HR1 := Lib.hid hr1; have HO1 := Lib.hid ho1; have HS1 := Lib.hid hs1; clear hb1 hr1 ho1 hs1)
    | fail)
  have c0 : w1.cell? ⟨b, 0, none⟩ = some (.pointer (some ⟨b, 0, none⟩)) := cell_blk HB1.out 0
  have c1 : w1.cell? ⟨b, 1, none⟩ = some v := cell_blk HB1.out 1
  have HR1' := HR1.out
  go_wp2_with (first
    | (at_builtin; refine wpList_app_near rfl (.tmp 12) (.tmp 13) rfl hi hz0 hz1 hz2 v l.length (Lib.byteCells l) rfl HR1' s rfl (by unfold maxLen; omega) (by omega) ?_
       intro v2 w2 hr2 hg2 hn2
       have HR2 := Lib.hid hr2
       have HG2 := Lib.hid hg2
       have HN2 := Lib.hid hn2
       have hb2 : w2.heap[b]? = some (.cells #[.pointer (some ⟨b, 0, none⟩), v] 164 (0, 0)) := (hg2.block b (lt_blk HB1.out) (fun e => HNE.out e.symm)).trans HB1.out
       have HB2 := Lib.hid hb2
       have d0 : w2.cell? ⟨b, 0, none⟩ = some (.pointer (some ⟨b, 0, none⟩)) := cell_blk hb2 0
       have d1 : w2.cell? ⟨b, 1, none⟩ = some v := cell_blk hb2 1
       have f1 : w2.frozen? ⟨b, 1, none⟩ = false := free_blk hb2 1
       obtain ⟨ao, n', cap, rfl⟩ : ∃ ao n' cap, v2 = .slice ao n' cap := by
         rcases hr2.2 with ⟨hv, _⟩ | ⟨g, cap, cur, fz, hv, _⟩
         · exact ⟨_, _, _, hv⟩
         · exact ⟨_, _, _, hv⟩
       clear hr2 hg2 hn2 hb2)
    | fail)
  go_ret2
  have hl : (l ++ s.data.toList).length = l.length + s.size := by rw [List.length_append, Array.length_toList]; rfl
  have hse := setCell_only w2 b 1 (.slice ao n' cap)
  have hrow : (w2.setCell ⟨b, 1, none⟩ (.slice ao n' cap)).ownsRowF 0 5 1 (.slice ao n' cap) (l ++ s.data.toList).length (Lib.byteCells (l ++ s.data.toList)) ∧ (Value.slice ao n' cap).ownBlock ≠ some b := by
    rw [hl, bc_app, ← bc_str]
    rcases HR2.out with ⟨h0, h | ⟨g, cap', cur, fz, e1, e2, e3, e4⟩⟩
    · exact ⟨⟨h0, .inl h⟩, by rw [h.1]; simp [Value.ownBlock]⟩
    · have hgb : g ≠ b := fun e => by
        have h1 := HB2.out
        rw [← e, e3] at h1
        simp only [Option.some.injEq, Obj.cells.injEq] at h1
        exact absurd h1.2.1 (by decide)
      exact ⟨⟨h0, .inr ⟨g, cap', cur, fz, e1, e2, (hse.block g (lt_blk e3) hgb).trans e3, e4⟩⟩, by rw [e1]; intro e; exact hgb (Option.some.inj e)⟩
  refine ⟨rfl, _, ⟨⟨_, .inr rfl, heap_setCell_same _ _ 1 _ _ _ HB2.out⟩, hrow.1, hrow.2⟩, ?_, fun q hq => ?_⟩
  · refine ((HO1.out.mono fun _ _ e => .inl e).trans (?_ : OnlyJ _ w1 w2)).trans (hse.mono fun _ _ e => .inl e)
    exact ⟨HG2.out.os, HG2.out.tape, HG2.out.output, HG2.out.size, fun q hq hne => HG2.out.block q hq (fun e => hne (.inr e.symm))⟩
  · rcases HN2.out q hq with e | e
    · exact .inl e
    · exact .inr (by have := HS1.out; omega)
theorem freeze_only (w : World) (g n : Nat) : OnlyJ (fun q => q = g) w (w.freeze ⟨g, 0, none⟩ n) := by
  unfold World.freeze
  split
  · exact OnlyJ.refl _ _
  · exact ⟨rfl, rfl, rfl, by simp, fun k _ hk => by
      simp only [Array.getElem?_modify]
      rw [if_neg (fun e => hk e.symm)]⟩
set_option maxHeartbeats 1000000 in
set_option maxRecDepth 100000 in
theorem jx_string (b : Nat) (v : Value) (l : List UInt8) (h0 : l ≠ []) (w : World) (h : JX b v l w) :
    Calls Tryz.prog 115 #[.pointer (some ⟨b, 0, none⟩)] w fun e w' => e = .returned (.string ⟨l.toArray⟩) ∧ OnlyJ (fun q => v.ownBlock = some q) w w' := by
  obtain ⟨⟨p, hp, hbk⟩, hown, hne⟩ := h
  have hl0 : l.length ≠ 0 := by simpa using h0
  obtain ⟨g, cap, cur, fz, rfl, hg, hfz, hnc, hcm, hcs, htake⟩ : ∃ g cap cur fz, v = .slice (some ⟨g, 0, none⟩) l.length cap ∧ w.heap[g]? = some (.cells cur 5 fz) ∧ fz.2 ≤ l.length * 1 ∧ l.length ≤ cap ∧ cap ≤ maxLen ∧ cur.size = cap * 1 ∧ cur.toList.take (l.length * 1) = Lib.byteCells l := by
    rcases hown.2 with ⟨_, hz⟩ | ⟨g, cap, cur, fz, hv, hb, r⟩
    · exact absurd hz hl0
    · exact ⟨g, cap, cur, fz, hv, r⟩
  have c1 : w.drew.cell? ⟨b, 1, none⟩ = some (.slice (some ⟨g, 0, none⟩) l.length cap) := by
    have : w.drew.heap[b]? = some (.cells #[p, .slice (some ⟨g, 0, none⟩) l.length cap] 164 (0, 0)) := hbk
    rw [Lib.cell_of_heap this]; rfl
  have hSD : (Builtin.unsafeSliceData_ #[99] 209 #[.slice (some ⟨g, 0, none⟩) l.length cap]).run Tryz.prog w.drew = .ok (.pointer (some ⟨g, 0, none⟩)) w.drew :=
    Lib.run_unsafeSliceData_row _ _ _ _ _ _ (by omega)
  have hUS : (Builtin.unsafeString_ #[209, 3] 9 #[.pointer (some ⟨g, 0, none⟩), .int .i64 l.length]).run Tryz.prog w.drew = .ok (.string ⟨l.toArray⟩) (w.drew.freeze ⟨g, 0, none⟩ l.length) := by
    refine Lib.run_unsafeString_row w.drew 209 3 9 5 Tryz.underlying209 (by kernel_rfl) g cur.size (by have hg' : w.drew.heap[g]? = some (.cells cur 5 fz) := hg; simp [World.shape?, hg']) l h0 (by omega) (by unfold maxLen at hcm; omega) ?_
    intro j x hx
    have := hown.cells (g := g) rfl j (.int .u8 x.toNat) (by simp [Lib.byteCells, hx])
    exact this
  obtain ⟨OUT, hO⟩ : ∃ O : ByteArray, (⟨l.toArray⟩ : ByteArray) = O := ⟨_, rfl⟩
  rw [hO] at hUS ⊢
  have HF := Lib.hid (show OnlyJ (fun q => (Value.slice (some ⟨g, 0, none⟩) l.length cap).ownBlock = some q) w (w.drew.freeze ⟨g, 0, none⟩ l.length) from (freeze_only w.drew g l.length).undrew.mono fun q _ hq => by rw [show q = g from hq]; rfl)
  obtain ⟨n, hn⟩ : ∃ n, l.length = n := ⟨_, rfl⟩
  rw [hn] at c1 hSD hUS HF
  rw [hn]
  clear hp hbk hown hne hl0 hg hfz hnc hcm hcs htake hO hn h0
  go_enter Tryz.func115, Tryz.ntmps115
  go_wp2
  have mixed := Tryz.lays169.mixed
  go_region_o
  all_goals (go_wp2; go_ret; exact ⟨rfl, HF.out⟩)
end Go.Proofs.YtfpbocjmlhcgiaaGreatDoor
/- The volume's Open, where a volume's image lies. -/
namespace Go.Proofs.YtfpbocjmlhcgiaaGreatDoor
open Go.RowKit PJ Go.Maps Go.WideMaps Go.Shelf

theorem vjdead_any (w : World) (jb : Nat) (h : w.cell? ⟨jb, 7, none⟩ = some (.bool false)) : Calls Tryz.prog 61 #[.pointer (some ⟨jb, 0, none⟩)] w fun e w' => e = .returned (.bool false) ∧ w = w' := by
  go_enter Tryz.func61, Tryz.ntmps61
  go_wp2_with fail
  go_ret
  exact ⟨rfl, rfl⟩
theorem JAt.dead7 {w : World} {p b jb : Nat} {F : Nat → Prop} {J : Jn} (h : JAt w p b jb F J) : w.cell? ⟨jb, 7, none⟩ = some (.bool false) := by
  obtain ⟨a, rfl, rfl, rfl, h4, h5, dt, hc, hok, hdt⟩ := h
  exact cell_blk hc.cells 7
def catJ (J : Jn) (i : Nat) : List UInt8 := (List.range i).flatMap J.cell
theorem catJ_succ (J : Jn) (i : Nat) : catJ J (i + 1) = catJ J i ++ J.cell i := by
  unfold catJ
  rw [List.range_succ, List.flatMap_append]
  simp
theorem catJ_len {J : Jn} {img : List UInt8} (h : VoC J img) : ∀ i, i ≤ J.n - J.area → (catJ J i).length = 116 * i
  | 0, _ => rfl
  | i + 1, hi => by rw [catJ_succ, List.length_append, catJ_len h i (by omega), h.cell i (by omega), pcE_len]; omega
set_option maxRecDepth 100000 in
set_option maxHeartbeats 8000000 in
theorem vopen_any (w : World) (p b jb : Nat) (FJ : Nat → Prop) (J : Jn) (l : List Ent) (hj : JAt w p b jb FJ J) (hvj : VJ J l) :
    Calls Tryz.prog 50 #[.pointer (some ⟨jb, 0, none⟩)] w fun e w' => ∃ vb, e = .returned (.tuple #[.pointer (some ⟨vb, 0, none⟩), .int .i64 0]) ∧ VAt w' p b jb vb (grow FJ w w') J l ∧ OnlyJ FJ w w' ∧ w.heap.size ≤ vb := by
  have hok := hj.ok
  have harn := hok.arean
  obtain ⟨c, hc⟩ : ∃ c, J.n - J.area = c := ⟨_, rfl⟩
  have hc1 : 1 ≤ c := by omega
  have h40 : c ≤ 40 := by have := hvj.c40; omega
  have HVJ := Lib.hid hvj
  have HJ := Lib.hid hj
  have HD := Lib.hid (vjdead_any w jb hj.dead7)
  have HMO := Lib.hid (fun W (h : JAt W p b jb FJ J) => most_any W p b jb FJ J h)
  have hmo : ¬ (J.most : Int) < (c : Int) := by
    have h1 := hvj.ca
    unfold Jn.most
    omega
  have HCE := Lib.hid (fun W (h : JAt W p b jb FJ J) => cells_any W p b jb FJ J h)
  rw [hc] at HCE
  have HRD := Lib.hid (fun W Fi (i : Nat) (hi : i < c) (h : JAt W p b jb Fi J) => jread_any W p b jb Fi J h i (by omega))
  have HLEN := Lib.hid (fun i (hi : i ≤ c) => catJ_len hvj.voc i (by omega))
  have HCLEN := Lib.hid (fun i (hi : i < c) => show (J.cell i).length = 116 from by rw [hvj.voc.cell i (by omega), pcE_len])
  have hcat := hvj.voc.cat
  have himg := hvj.voc.le
  rw [hc] at hcat himg
  obtain ⟨k, hk⟩ : ∃ k, 116 * c - (imageE l).length = k := ⟨_, rfl⟩
  rw [hk] at hcat
  have HRE := Lib.hid (fun W (S : ByteArray) (hS : S.data.toList = catJ J c) => vread_any W S l hvj.inv (by have := hvj.count; omega) k (by omega) (hS.trans hcat))
  have HLT := Lib.hid hj.lt
  clear hok harn hc hcat himg hk hj hvj
  go_enter Tryz.func50, Tryz.ntmps50
  go_upto_region 3 with (first
    | (go_at_call 61; (with_reducible refine HD.out.mono ?_); rintro e w1 ⟨rfl, hw1⟩; subst hw1)
    | fail)
  go_upto_region 5 with (first
    | (go_at_call 62; (with_reducible refine (HCE.out _ HJ.out).mono ?_); rintro e w1 ⟨rfl, nd, hw1⟩; have HL1 := Lib.hid (show LJ w w1 from by rw [hw1]; exact (LJ.refl w).drewN nd); have HJ1 := Lib.hid (HJ.out.later HL1.out); clear hw1)
    | (go_at_call 112; (with_reducible refine (HMO.out _ HJ1.out).mono ?_); rintro e w2 ⟨rfl, hw2⟩; subst hw2)
    | fail)
  go_upto_region 6 with fail
  obtain ⟨w3, hw3⟩ : ∃ w3, w1.alloc (.cells #[.pointer none, .slice none 0 0] 164) = w3 := ⟨_, rfl⟩
  obtain ⟨bb, hbb⟩ : ∃ bb, w1.heap.size = bb := ⟨_, rfl⟩
  have HX3 := Lib.hid (show JX bb (.slice none 0 0) (catJ J 0) w3 from by rw [← hw3, ← hbb]; exact JX.fresh w1)
  have HL3 := Lib.hid (show LJ w w3 from by rw [← hw3]; exact HL1.out.alloc _)
  have HBB := Lib.hid (show w.heap.size ≤ bb from by rw [← hbb]; exact Below.size HL1.out)
  rw [hw3, hbb]
  clear hw3 hbb
  have HJ3 := Lib.hid (HJ.out.later HL3.out)
  go_upto_region 7 with (first
    | (go_at_call 62; (with_reducible refine (HCE.out _ HJ3.out).mono ?_); rintro e w4 ⟨rfl, nd, hw4⟩; have HL34 := Lib.hid (show LJ w3 w4 from by rw [hw4]; exact (LJ.refl w3).drewN nd); clear hw4)
    | fail)
  have HL4 := Lib.hid (HL3.out.trans HL34.out)
  have HX4 := Lib.hid (HX3.out.kept (OnlyJ.of_below (r := fun _ => False) HL34.out) (fun h => h) (fun _ _ h => h))
  have HJ4 := Lib.hid (HJ.out.later HL4.out)
  clear hmo
  go_loopw [19] (fun v19 wr => ∃ (i : Nat) (v : Value) (Fi : Nat → Prop), i ≤ c ∧ v19 = .int .i64 (i : Int) ∧ Hid (JX bb v (catJ J i) wr) ∧ Hid (JAt wr p b jb Fi J) ∧ Hid ((∀ q, Fi q → FJ q ∨ w.heap.size ≤ q) ∧ ¬ Fi bb ∧ (∀ q, v.ownBlock = some q → ¬ Fi q ∧ w.heap.size ≤ q) ∧ (∀ q, FJ q → Fi q)) ∧ Hid (OnlyJ FJ w wr)) (fun v19 _ => c - (intOf v19).toNat)
  case atStart => exact ⟨0, .slice none 0 0, FJ, by omega, rfl, HX4, HJ4, Lib.hid ⟨fun q hq => .inl hq, fun e => by have h1 := HLT.out _ e; have h2 := HBB.out; omega, (fun q hq => by cases hq), fun q hq => hq⟩, Lib.hid (OnlyJ.of_below HL4.out)⟩
  case round =>
    obtain ⟨i, v, Fi, hic, rfl, HX, HJR, HF, HO⟩ := hrel
    by_cases hlt : i < c
    · have hii : (i : Int) < (c : Int) := by omega
      have HR := Lib.hid (HRD.out wr Fi i hlt HJR.out)
      obtain ⟨CB, hCB⟩ : ∃ B : ByteArray, (⟨(J.cell i).toArray⟩ : ByteArray) = B := ⟨_, rfl⟩
      have hCd : CB.data.toList = J.cell i := by rw [← hCB]
      have hCs : CB.size = 116 := by rw [← hCB]; show (J.cell i).toArray.size = 116; rw [List.size_toArray, HCLEN.out i hlt]
      rw [hCB] at HR
      have hcl := HLEN.out i (by omega)
      have HPU := Lib.hid (fun W (h : JX bb v (catJ J i) W) => show Calls Tryz.prog 113 #[.pointer (some ⟨bb, 0, none⟩), .string CB] W fun e w' => e = .returned (.tuple #[.int .i64 CB.size, .nilIface]) ∧ ∃ v', JX bb v' (catJ J (i + 1)) w' ∧ OnlyJ (fun q => q = bb ∨ v.ownBlock = some q) W w' ∧ (∀ q, v'.ownBlock = some q → v.ownBlock = some q ∨ W.heap.size ≤ q) from by
        have h1 := jx_put bb v (catJ J i) CB W h (by omega)
        rw [hCd, ← catJ_succ] at h1
        exact h1)
      obtain ⟨f1, f2, f3, f4⟩ := HF.out
      have HFF := Lib.hid (And.intro f1 (And.intro f2 (And.intro f3 f4)))
      clear hCB hCd hCs hcl f1 f2 f3 f4
      go_wp2_with (first
        | (go_at_call 63; (with_reducible refine HR.out.mono ?_); rintro e w5 ⟨rfl, ho5⟩; have HO5 := Lib.hid ho5; have HX5 := Lib.hid (HX.out.kept ho5.2 HFF.out.2.1 (fun q hq => (HFF.out.2.2.1 q hq).1)); clear ho5)
        | (go_at_call 113; (with_reducible refine (HPU.out _ HX5.out).mono ?_); rintro e w6 ⟨rfl, v6, hx6, ho6, hn6⟩; have HX6 := Lib.hid hx6; have HO6 := Lib.hid ho6; have HN6 := Lib.hid hn6; clear hx6 ho6 hn6)
        | fail)
      obtain ⟨f1, f2, f3, f4⟩ := HFF.out
      have hbl := HX.out.lt
      have hs5 := HO5.out.2.size
      have hs6 := HO6.out.size
      have hown : ∀ q, v.ownBlock = some q → q < wr.heap.size := fun q hq => by
        rcases HX.out.row.2 with ⟨e, -⟩ | ⟨g, cap, cur, fz, e1, e2, e3, e4⟩
        · rw [e] at hq; cases hq
        · rw [e1] at hq
          obtain rfl : g = q := Option.some.inj hq
          exact lt_blk e3
      have HF2 := Lib.hid (show (∀ q, grow Fi wr w5 q → FJ q ∨ w.heap.size ≤ q) ∧ ¬ grow Fi wr w5 bb ∧ (∀ q, v6.ownBlock = some q → ¬ grow Fi wr w5 q ∧ w.heap.size ≤ q) ∧ (∀ q, FJ q → grow Fi wr w5 q) from by
        have hw := HO.out.size
        refine ⟨?_, grow_not f2 hbl, fun q hq => ?_, fun q hq => .inl (f4 q hq)⟩
        · rintro q (hq | hq)
          · exact f1 q hq
          · exact .inr (by omega)
        · rcases HN6.out q hq with e | e
          · exact ⟨grow_not (f3 q e).1 (hown q e), (f3 q e).2⟩
          · exact ⟨fun e2 => by have := HO5.out.1.lt q e2; omega, by omega⟩)
      have HJ6 := Lib.hid (HO5.out.1.kept (w' := w6) (F' := grow Fi wr w5) hs6 (fun q hq => HO6.out.block q (HO5.out.1.lt q hq) (by
        rintro (e | e)
        · subst e; exact grow_not f2 hbl hq
        · exact grow_not (f3 q e).1 (hown q e) hq)) (fun _ h => h) (fun q hq => by have := HO5.out.1.lt q hq; omega))
      have HOO := Lib.hid (show OnlyJ FJ w w6 from by
        have h0 := HO.out
        have hw := h0.size
        have hb := HBB.out
        refine ⟨HO6.out.os.trans (HO5.out.2.os.trans h0.os), HO6.out.tape.trans (HO5.out.2.tape.trans h0.tape), HO6.out.output.trans (HO5.out.2.output.trans h0.output), by omega, fun q hq hne => ?_⟩
        refine (HO6.out.block q (by omega) ?_).trans ((HO5.out.2.block q (by omega) ?_).trans (h0.block q hq hne))
        · rintro (e | e)
          · omega
          · have := (f3 q e).2; omega
        · intro e
          rcases f1 q e with e | e
          · exact hne e
          · omega)
      clear f1 f2 f3 f4 hbl hs5 hs6 hown
      go_roundw
      case rel => exact ⟨i + 1, v6, grow Fi wr w5, by omega, by simp, HX6, HJ6, HF2, HOO⟩
      case measure => simp [intOf]; omega
    · have hie : i = c := by omega
      have hii : ¬ (i : Int) < (c : Int) := by omega
      have hcl := HLEN.out c (Nat.le_refl _)
      have hx := HX.out
      rw [hie] at hx
      have HST := Lib.hid (jx_string bb v (catJ J c) (fun e => by rw [e] at hcl; simp at hcl; omega) wr hx)
      obtain ⟨OUT, hOUT⟩ : ∃ B : ByteArray, (⟨(catJ J c).toArray⟩ : ByteArray) = B := ⟨_, rfl⟩
      rw [hOUT] at HST
      have HRR := Lib.hid (fun W => HRE.out W OUT (by rw [← hOUT]))
      clear hie hcl hx hOUT
      go_upto_region 15 with (first
        | (go_at_call 115; (with_reducible refine HST.out.mono ?_); rintro e w5 ⟨rfl, ho5⟩; have HO5 := Lib.hid ho5; clear ho5)
        | (go_at_call 114; (with_reducible refine (HRR.out _).mono ?_); rintro e w6 ⟨m, rfl, hm6, hme, hl6⟩; have HM6 := Lib.hid hm6; have HME := Lib.hid hme; have HL6 := Lib.hid hl6; clear hm6 hme hl6)
        | fail)
      obtain ⟨w7, hw7⟩ : ∃ w7, w6.alloc (.cells #[.pointer (some ⟨jb, 0, none⟩), .map (some m), .bool false] 143) = w7 := ⟨_, rfl⟩
      obtain ⟨vb, hvb⟩ : ∃ vb, w6.heap.size = vb := ⟨_, rfl⟩
      have HB7 := Lib.hid (show w7.heap[vb]? = some (.cells (volC jb m) 143 (0, 0)) from by rw [← hw7, ← hvb]; exact alloc_blk w6 _)
      have HL7 := Lib.hid (show LJ w6 w7 from by rw [← hw7]; exact (LJ.refl w6).alloc _)
      have HVB := Lib.hid hvb
      have HW7 := Lib.hid hw7
      clear hw7
      go_wp2_with fail
      rw [HW7.out]
      go_ret2
      obtain ⟨f1, f2, f3, f4⟩ := HF.out
      have h0 := HO.out
      have hs0 := h0.size
      have hs5 := HO5.out.size
      have hs6 := Below.size HL6.out
      have hs7 := Below.size HL7.out
      have hown : ∀ q, v.ownBlock = some q → q < wr.heap.size := fun q hq => by
        rcases HX.out.row.2 with ⟨e, -⟩ | ⟨g, cap, cur, fz, e1, e2, e3, e4⟩
        · rw [e] at hq; cases hq
        · rw [e1] at hq
          obtain rfl : g = q := Option.some.inj hq
          exact lt_blk e3
      have hjr := HJR.out
      have hlr := hjr.lt
      have hvE := HVB.out
      have hvl := lt_blk HB7.out
      have hml := HM6.out.lt
      have hj5 : JAt w5 p b jb Fi J := hjr.kept hs5 (fun q hq => HO5.out.block q (hlr q hq) (fun e => (f3 q e).1 hq)) (fun _ h => h) (fun q hq => by have := hlr q hq; omega)
      have hj7 := (hj5.later HL6.out).later HL7.out
      have hsv := HVJ.out
      refine ⟨vb, rfl, ⟨m, Fi, hj7, HB7.out, HM6.out.later HL7.out, fun e => by have := hlr _ e; omega, fun e => by have := hlr _ e; have := HME.out; omega, ?_, ?_, hsv⟩, ?_, by omega⟩
      · rintro q (hq | rfl | rfl)
        · rcases f1 q hq with e | e
          · exact .inl e
          · exact .inr ⟨e, by have := hlr q hq; omega⟩
        · exact .inr ⟨by omega, hvl⟩
        · have hme := HME.out
          exact .inr ⟨by omega, by omega⟩
      · rintro q (hq | hq)
        · have := HLT.out q hq; omega
        · exact hq.2
      · refine ⟨HL7.out.os.trans (HL6.out.os.trans (HO5.out.os.trans h0.os)), HL7.out.tape.trans (HL6.out.tape.trans (HO5.out.tape.trans h0.tape)), HL7.out.output.trans (HL6.out.output.trans (HO5.out.output.trans h0.output)), by omega, fun q hq hne => ?_⟩
        refine (Below.block HL7.out q (by omega)).trans ((Below.block HL6.out q (by omega)).trans ((HO5.out.block q (by omega) (fun e => ?_)).trans (h0.block q hq hne)))
        have := (f3 q e).2
        omega
end Go.Proofs.YtfpbocjmlhcgiaaGreatDoor
