/- CLc, merged: CL2 CL4. -/
import Derived.Test.YtfpbocjmlhcgiaaGreatDoorCLb
import Derived.Test.YtfpbocjmlhcgiaaGreatDoorJg18
set_option linter.unusedSimpArgs false
set_option linter.unusedVariables false
/- Clones: the device's, the journal's, the audit's. -/
namespace Go.Proofs.YtfpbocjmlhcgiaaGreatDoor
open Go.RowKit PJ Go.Maps Go.Shelf

theorem info_devc : (Tryz.prog.info? 105).map (fun i => (i.size)) = some 6 := by kernel_rfl
theorem info_jrnc : (Tryz.prog.info? 108).map (fun i => (i.size)) = some 8 := by kernel_rfl
theorem own_slice {w : World} {B : Nat} {T : TypeId} {s n : Nat} {v : Value} {xs : List Value} (h : w.ownsRow B T s v n xs) : ∃ ao cap, v = .slice ao n cap := by
  rcases h.2 with ⟨e, e2⟩ | ⟨g, cap, cur, e, _⟩
  · exact ⟨none, 0, by rw [e, e2]⟩
  · exact ⟨_, cap, e⟩
/-- The cache that a clone has. -/
theorem cache_own {w : World} {B b : Nat} {v : Value} {xs : List Kept} {R F : Nat → Prop} (h : w.ownsRow B 126 3 v xs.length (ksC xs)) (hR : ∀ q, v.ownBlock = some q → ¬ R q) (hF : ∀ q, v.ownBlock = some q → F q) : CacheAt w R F v xs := by
  rcases h.2 with ⟨e, e2⟩ | ⟨g, cap, cur, e, hB, hb, hn, hm, hs, ht⟩
  · exact .inl ⟨e, List.length_eq_zero_iff.1 e2⟩
  · refine .inr ⟨g, 0, cap, e, lt_blk hb, hR g (by rw [e]; rfl), hF g (by rw [e]; rfl), fun j k hk => ?_⟩
    have hc := h.cells (g := g) (by rw [e]; rfl)
    obtain ⟨q1, q2, q3⟩ := ksC_get xs j k hk
    have c1 := hc _ _ q1
    have c2 := hc _ _ q2
    have c3 := hc _ _ q3
    rw [addr_none] at c1 c2 c3
    rw [Nat.zero_add] at c1 c2 c3 ⊢
    exact ⟨c1, c2, c3⟩
set_option maxRecDepth 100000 in
set_option maxHeartbeats 2000000 in
theorem vclone_any (w : World) (p b n cached : Nat) (ao : Option Addr) (len ccap : Nat) (misses : Int) (xs : List Kept) (d : Nat) (hb : w.heap[b]? = some (.cells (devCells p 0 n cached (.slice ao len ccap) misses) 105 (0, 0)))
    (hk : ∀ W, LJ w W → Calls Tryz.prog 71 #[.slice ao len ccap] W fun e w' => ∃ v, e = .returned v ∧ w'.ownsRow W.heap.size 126 3 v xs.length (ksC xs) ∧ LJ W w') :
    Calls Tryz.prog 17 #[.pointer (some ⟨b, 0, none⟩), .pointer (some ⟨d, 0, none⟩)] w fun e w' => ∃ v, e = .returned (.pointer (some ⟨w.heap.size, 0, none⟩)) ∧ w'.heap[w.heap.size]? = some (.cells (devCells d 0 n cached v misses) 105 (0, 0)) ∧ w'.ownsRow (w.heap.size + 1) 126 3 v xs.length (ksC xs) ∧ LJ w w' := by
  have HB := Lib.hid (show w.heap[b]? = some (.cells #[.pointer (some ⟨p, 0, none⟩), .int .i64 0, .int .i64 n, .int .i64 cached, .slice ao len ccap, .int .i64 misses] 105 (0, 0)) from hb)
  have HK := Lib.hid (fun W hW => (hk W hW).mono (show ∀ e w', _ → ∃ a c, e = .returned (.slice a xs.length c) ∧ w'.ownsRow W.heap.size 126 3 (.slice a xs.length c) xs.length (ksC xs) ∧ LJ W w' from by
    rintro e w' ⟨v, rfl, h1, h2⟩
    obtain ⟨a, c, rfl⟩ := own_slice h1
    exact ⟨a, c, rfl, h1, h2⟩))
  obtain ⟨m, hm⟩ : ∃ m, xs.length = m := ⟨_, rfl⟩
  rw [hm] at HK ⊢
  clear hb hk hm
  go_enter Tryz.func17, Tryz.ntmps17
  go_upto_region 2 with (first
    | (refine wpList_load_row rfl 105 (.tmp 7) rfl b rfl 105 _ (0, 0) _ HB.out Tryz.underlying105 rfl info_devc ?_)
    | (refine wpList_store_row rfl 105 (.tmp 5) (.tmp 8) rfl w.heap.size #[.pointer (some ⟨p, 0, none⟩), .int .i64 0, .int .i64 n, .int .i64 cached, .slice ao len ccap, .int .i64 misses] rfl rfl 105 _ (alloc_blk w _) info_devc rfl (by simp [Value.oneCell']) ?_)
    | fail)
  obtain ⟨q, hq⟩ : ∃ q, w.heap.size = q := ⟨_, rfl⟩
  obtain ⟨w1, hw1⟩ : ∃ w1, (w.alloc (.cells #[.pointer none, .int .i64 0, .int .i64 0, .int .i64 0, .slice none 0 0, .int .i64 0] 105)).setRow w.heap.size #[.pointer (some ⟨p, 0, none⟩), .int .i64 0, .int .i64 n, .int .i64 cached, .slice ao len ccap, .int .i64 misses] = w1 := ⟨_, rfl⟩
  have hb1 : w1.heap[q]? = some (.cells #[.pointer (some ⟨p, 0, none⟩), .int .i64 0, .int .i64 n, .int .i64 cached, .slice ao len ccap, .int .i64 misses] 105 (0, 0)) := by rw [← hw1, ← hq]; exact crow_heap _ _ _ _ _ (alloc_blk w _)
  have hl1 : LJ w w1 := by rw [← hw1]; exact LJ.only (F := fun q => q = w.heap.size) ((LJ.refl w).alloc _) (crow_only _ _ _) (fun q e => Nat.le_of_eq e.symm)
  rw [hw1, hq]
  have c4 : w1.cell? ⟨b, 4, none⟩ = some (.slice ao len ccap) := cell_blk (hl1.block HB.out) 4
  have HB1 := Lib.hid hb1
  have HL1 := Lib.hid hl1
  have HQ := Lib.hid hq
  have HK1 := Lib.hid (HK.out w1 hl1)
  clear hw1 hb1 hl1 hq
  go_wp2_with (first
    | (go_at_call 71; (with_reducible refine HK1.out.mono ?_); rintro e w2 ⟨a, c, rfl, hown2, hl2⟩
       have HO2 := Lib.hid hown2
       have HL2 := Lib.hid hl2
       have hb2 := hl2.block HB1.out
       have k0 : w2.cell? ⟨q, 0, none⟩ = some (.pointer (some ⟨p, 0, none⟩)) := cell_blk hb2 0
       have k4 : w2.cell? ⟨q, 4, none⟩ = some (.slice ao len ccap) := cell_blk hb2 4
       have f0 := free_blk hb2 0
       have f4 := free_blk hb2 4
       have HB2 := Lib.hid hb2
       clear hown2 hl2 hb2)
    | fail)
  go_ret
  have hsz := Below.size HL1.out
  have hq' := HQ.out
  have hlt := lt_blk HB1.out
  have hc := heap_setCell_same _ _ 4 _ _ (.slice a m c) (heap_setCell_same _ _ 0 _ _ (.pointer (some ⟨d, 0, none⟩)) HB2.out)
  have ho : OnlyJ (fun k => k = q) w2 ((w2.setCell ⟨q, 0, none⟩ (.pointer (some ⟨d, 0, none⟩))).setCell ⟨q, 4, none⟩ (.slice a m c)) := (setCell_only _ _ _ _).trans (setCell_only _ _ _ _)
  rw [hq']
  refine ⟨_, rfl, hc, ?_, LJ.only (HL1.out.trans HL2.out) ho (fun k hk => by show w.heap.size ≤ k; have hk' : k = q := hk; omega)⟩
  have hown := own_only HO2.out ho (fun g hg e => by have h1 := (HO2.out.lt g hg).1; have e' : g = q := e; omega)
  rcases hown with ⟨h0, h | ⟨g, cap, cur, e1, e2, e3⟩⟩
  · exact ⟨h0, .inl h⟩
  · exact ⟨h0, .inr ⟨g, cap, cur, e1, by omega, e3⟩⟩
set_option maxRecDepth 100000 in
set_option maxHeartbeats 2000000 in
theorem jclone_any (w : World) (b area head first next at' cm jb : Nat) (dead : Bool) (n : Nat) (D : DataW Unit) (hb : w.heap[jb]? = some (.cells #[.pointer (some ⟨b, 0, none⟩), .int .i64 area, .int .i64 head, .int .i64 first, .int .i64 next, .int .i64 at', .map (some cm), .bool dead] 108 (0, 0)))
    (ho : w.ownsMap Tryz.prog 3 (plainElem Tryz.prog 9) cm n D) (v : Nat) :
    Calls Tryz.prog 18 #[.pointer (some ⟨jb, 0, none⟩), .pointer (some ⟨v, 0, none⟩)] w fun e w' => ∃ cm', e = .returned (.pointer (some ⟨w.heap.size, 0, none⟩)) ∧ w'.heap[w.heap.size]? = some (.cells #[.pointer (some ⟨v, 0, none⟩), .int .i64 area, .int .i64 head, .int .i64 first, .int .i64 next, .int .i64 at', .map (some cm'), .bool dead] 108 (0, 0)) ∧ w'.ownsMap Tryz.prog 3 (plainElem Tryz.prog 9) cm' n D ∧ w.heap.size < cm' ∧ cm' < w'.heap.size ∧ LJ w w' := by
  have HB := Lib.hid hb
  have HK := Lib.hid (fun W (hW : LJ w W) => show Calls Tryz.prog 70 #[.map (some cm)] W fun e w' => e = .returned (.map (some W.heap.size)) ∧ w'.ownsMap Tryz.prog 3 (plainElem Tryz.prog 9) W.heap.size n D ∧ LJ W w' from by
    obtain ⟨es, clock, h4, h5⟩ := ho
    exact mclone_any W cm n D ⟨es, clock, hW.block h4, h5⟩)
  clear hb ho
  go_enter Tryz.func18, Tryz.ntmps18
  go_upto_region 2 with (first
    | (refine wpList_load_row rfl 108 (.tmp 7) rfl jb rfl 108 _ (0, 0) _ HB.out Tryz.underlying108 rfl info_jrnc ?_)
    | (refine wpList_store_row rfl 108 (.tmp 5) (.tmp 8) rfl w.heap.size #[.pointer (some ⟨b, 0, none⟩), .int .i64 area, .int .i64 head, .int .i64 first, .int .i64 next, .int .i64 at', .map (some cm), .bool dead] rfl rfl 108 _ (alloc_blk w _) info_jrnc rfl (by simp [Value.oneCell']) ?_)
    | fail)
  obtain ⟨q, hq⟩ : ∃ q, w.heap.size = q := ⟨_, rfl⟩
  obtain ⟨w1, hw1⟩ : ∃ w1, (w.alloc (.cells #[.pointer none, .int .i64 0, .int .i64 0, .int .i64 0, .int .i64 0, .int .i64 0, .map none, .bool false] 108)).setRow w.heap.size #[.pointer (some ⟨b, 0, none⟩), .int .i64 area, .int .i64 head, .int .i64 first, .int .i64 next, .int .i64 at', .map (some cm), .bool dead] = w1 := ⟨_, rfl⟩
  have hb1 : w1.heap[q]? = some (.cells #[.pointer (some ⟨b, 0, none⟩), .int .i64 area, .int .i64 head, .int .i64 first, .int .i64 next, .int .i64 at', .map (some cm), .bool dead] 108 (0, 0)) := by rw [← hw1, ← hq]; exact crow_heap _ _ _ _ _ (alloc_blk w _)
  have hl1 : LJ w w1 := by rw [← hw1]; exact LJ.only (F := fun q => q = w.heap.size) ((LJ.refl w).alloc _) (crow_only _ _ _) (fun q e => Nat.le_of_eq e.symm)
  rw [hw1, hq]
  have c6 : w1.cell? ⟨jb, 6, none⟩ = some (.map (some cm)) := cell_blk (hl1.block HB.out) 6
  have HB1 := Lib.hid hb1
  have HL1 := Lib.hid hl1
  have HQ := Lib.hid hq
  have HK1 := Lib.hid (HK.out w1 hl1)
  clear hw1 hb1 hl1 hq
  go_wp2_with (first
    | (go_at_call 70; (with_reducible refine HK1.out.mono ?_); rintro e w2 ⟨rfl, hown2, hl2⟩
       have HO2 := Lib.hid hown2
       have HL2 := Lib.hid hl2
       have hb2 := hl2.block HB1.out
       have k0 : w2.cell? ⟨q, 0, none⟩ = some (.pointer (some ⟨b, 0, none⟩)) := cell_blk hb2 0
       have k6 : w2.cell? ⟨q, 6, none⟩ = some (.map (some cm)) := cell_blk hb2 6
       have f0 := free_blk hb2 0
       have f6 := free_blk hb2 6
       have HB2 := Lib.hid hb2
       clear hown2 hl2 hb2)
    | fail)
  go_ret
  have hlt := lt_blk HB1.out
  have hq' := HQ.out
  have hcl := HO2.out.lt
  have hc := heap_setCell_same _ _ 6 _ _ (.map (some w1.heap.size)) (heap_setCell_same _ _ 0 _ _ (.pointer (some ⟨v, 0, none⟩)) HB2.out)
  have ho : OnlyJ (fun k => k = q) w2 ((w2.setCell ⟨q, 0, none⟩ (.pointer (some ⟨v, 0, none⟩))).setCell ⟨q, 6, none⟩ (.map (some w1.heap.size))) := (setCell_only _ _ _ _).trans (setCell_only _ _ _ _)
  have hsz := ho.size
  rw [hq']
  refine ⟨_, rfl, hc, ?_, by omega, by omega, LJ.only (HL1.out.trans HL2.out) ho (fun k hk => by show w.heap.size ≤ k; have hk' : k = q := hk; omega)⟩
  obtain ⟨es, clock, h4, h5⟩ := HO2.out
  exact ⟨es, clock, (ho.block _ hcl (by show w1.heap.size ≠ q; omega)).trans h4, h5⟩
end Go.Proofs.YtfpbocjmlhcgiaaGreatDoor
/- Clones: a journal over a clone of its device and disk; the audit's clone. -/
namespace Go.Proofs.YtfpbocjmlhcgiaaGreatDoor
open Go.RowKit PJ Go.Maps Go.Shelf

theorem JAt.cloned {w w1 w2 W : World} {a : JA} {F : Nat → Prop} {J : Jn} {dt : Bool} {safe : List UInt8} {U : Int → Option (List UInt8)} {cv : Value} {misses : Int} {xs : List Kept}
    (hc : JC w a F J.V J.S dt J.head J.first J.next J.at' J.C) (hd : DevS w a.p a.g a.mb a.b a.n a.cached a.R F J.V J.S dt safe U cv misses xs) (hok : J.OK) (hdt : J.first = J.next → dt = false) (h4 : a.n = J.n) (h5 : a.area = J.area)
    (hl1 : LJ w w1) (hl2 : LJ w1 w2) (hl3 : LJ w2 W) {p' g' mb' cm' : Nat} {v' : Value} (hdk : DiskAt w1 p' g' mb' a.n safe U) (hge : w.heap.size ≤ p' ∧ w.heap.size ≤ g' ∧ w.heap.size ≤ mb') (hlt : p' < w1.heap.size ∧ g' < w1.heap.size ∧ mb' < w1.heap.size)
    (hb : w2.heap[w1.heap.size]? = some (.cells (devCells p' 0 a.n a.cached v' misses) 105 (0, 0))) (hv : w2.ownsRow (w1.heap.size + 1) 126 3 v' xs.length (ksC xs))
    (hj : W.heap[w2.heap.size]? = some (.cells (jCells w1.heap.size a.area J.head J.first J.next J.at' cm') 108 (0, 0))) (hm : CellsAt W cm' (a.n - a.area) J.C) (hcm : w2.heap.size < cm' ∧ cm' < W.heap.size) :
    JAt W p' w1.heap.size w2.heap.size (since w W) J := by
  have s1 := Below.size hl1
  have s2 := Below.size hl2
  have s3 := Below.size hl3
  have lb := lt_blk hb
  have lj := lt_blk hj
  have hvl := hv.lt
  obtain ⟨a', ha'⟩ : ∃ a' : JA, a' = ⟨p', g', mb', w1.heap.size, w2.heap.size, cm', a.n, a.cached, a.area⟩ := ⟨_, rfl⟩
  have hR : ∀ q, a'.R q → since w W q := by
    rw [ha']
    rintro q (rfl | rfl | rfl | rfl | rfl | rfl) <;> exact ⟨by (try simp only); omega, by (try simp only); omega⟩
  refine ⟨a', by rw [ha'], by rw [ha'], by rw [ha'], by rw [ha']; exact h4, by rw [ha']; exact h5, dt, ⟨⟨safe, U, v', misses, xs, ?_⟩, ?_, ?_, ?_⟩, hok, hdt⟩
  · subst ha'
    refine ⟨(hdk.later hl2).later hl3, hl3.block hb, ?_, hd.len, hd.ca, hd.keys, hd.views, hd.clean, hd.kept, hR, fun q hq => hq.2, .inl rfl, .inr (.inl rfl), .inr (.inr (.inl rfl)), .inr (.inr (.inr (.inl rfl))), by simp only; omega, by simp only; omega, by simp only; omega⟩
    refine cache_own (B := w1.heap.size + 1) (b := 0) (own_below hv hl3) (fun q hq e => ?_) (fun q hq => ?_)
    · have := hvl q hq
      rcases e with e | e | e | e | e | e <;> simp only at e <;> omega
    · have := hvl q hq
      exact ⟨by omega, by omega⟩
  · subst ha'; exact hj
  · subst ha'; exact hm
  · subst ha'
    exact ⟨by simp only; omega, by simp only; omega, by simp only; omega, by simp only; omega, by simp only; omega, by simp only; omega, by simp only; omega, by simp only; omega, by simp only; omega⟩
end Go.Proofs.YtfpbocjmlhcgiaaGreatDoor
