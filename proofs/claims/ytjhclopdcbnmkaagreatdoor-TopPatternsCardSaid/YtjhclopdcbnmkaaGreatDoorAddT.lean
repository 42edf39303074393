/- The walk of the document's add. -/
import Derived.Test.YtjhclopdcbnmkaaGreatDoorAddI
set_option linter.unusedSimpArgs false
set_option linter.unusedVariables false
namespace Go.Proofs.YtjhclopdcbnmkaaGreatDoor
open Go.RowKit PX

/-- What add tells: the table has grown by the expression's nodes, the last of which is its own. -/
def AddPost (p : Nat) (S : ByteArray) (x : Rx) (w : World) (nds : List Nd) (Xs : List Rx) (kk : List Nat) (vn vk : Value) (e : Ending) (w' : World) : Prop :=
  ∃ (c : Nat) (mn : List Nd) (mx : List Rx) (mk : List Nat) (vn' vk' : Value), e = .returned (.int .i64 (c : Int)) ∧ c + 1 = nds.length + mn.length ∧ AInv w' p S (nds ++ mn) (Xs ++ mx) (kk ++ mk) vn' vk' ∧ 1 ≤ mn.length ∧ (mn.length : Int) ≤ x.big ∧
    (Xs ++ mx).getD c (.set Q4.none) = x ∧ Only (Uses p vn vk nds kk) w w' ∧ (∀ q, Uses p vn' vk' (nds ++ mn) (kk ++ mk) q → Uses p vn vk nds kk q ∨ w.heap.size ≤ q)

/-- The numbers of a node's elements. -/
def intCells (l : List Nat) : List Value := l.map fun (c : Nat) => .int .i64 (c : Int)

theorem info_nd : (Tryz.prog.info? 122).map (fun i => (i.zero, i.size, i.bytes)) = some (some (.agg #[.int .i64 0, .int .i64 0, .int .i64 0, .int .u64 0, .int .u64 0, .int .u64 0, .int .u64 0, .slice none 0 0, .slice none 0 0]), 9, 104) := by kernel_rfl
theorem info_rows : (Tryz.prog.info? 119).map (fun i => (i.zero, i.size, i.bytes)) = some (some (.slice none 0 0), 1, 24) := by kernel_rfl
theorem info_row1 : (Tryz.prog.info? 90).map (fun i => (i.zero, i.size, i.bytes)) = some (some (.slice none 0 0), 1, 24) := by kernel_rfl
/-- A new row of rows of which none is known. -/
theorem make_nils (W : World) (S : ByteArray) (hn : S.size ≤ 256) : (Instr.makeSlice 119 (.int .i64 ((S.size : Int) + 1)) (.int .i64 ((S.size : Int) + 1))).run Tryz.prog W = .ok (.slice (some ⟨W.heap.size, 0, none⟩) (S.size + 1) (S.size + 1)) (W.alloc (.cells (nilRow S) 90)) := by
  obtain ⟨i0, hi, hz0, hz1, hz2⟩ := info_parts info_row1
  have h := run_makeSlice (P := Tryz.prog) W 119 90 i0 (.slice none 0 0) Tryz.underlying119 hi hz0 .i64 .i64 ((S.size : Int) + 1) ((S.size : Int) + 1) (by omega) (by omega) (by rw [hz1]; omega) (by rw [hz2]; omega) (by omega)
  have e : ((S.size : Int) + 1).toNat = S.size + 1 := by omega
  have e2 : madeCells (Value.slice none 0 0).cells ((S.size + 1) * 1) = nilRow S := by
    apply Array.toList_inj.1
    rw [show (Value.slice none 0 0).cells = #[.slice none 0 0] from rfl, toList_madeCells_one, Nat.mul_one]; simp [nilRow]
  rw [hz1, e, e2] at h
  exact h
/-- A row of the table has grown by one. -/
theorem add_mid {wr wa w3 : World} {p j g cap' N size : Nat} {T : TypeId} {V : Value} {xs news : List Value} {cs cs' : Array Value} (hl : Later wr wa) (hv : w3.heap[p]? = some (.cells cs 118 (0, 0))) (hcs : cs.setIfInBounds j (.slice (some ⟨g, 0, none⟩) (N + 1) cap') = cs')
    (hown : w3.ownsRow (p + 1) T size (.slice (some ⟨g, 0, none⟩) (N + 1) cap') (N + 1) (xs ++ news)) (hg : wa.grownBy w3 V.ownBlock) (hat : V.ownBlock = some g ∨ g = wa.heap.size) :
    (w3.setCell ⟨p, j, none⟩ (.slice (some ⟨g, 0, none⟩) (N + 1) cap')).heap[p]? = some (.cells cs' 118 (0, 0)) ∧ (w3.setCell ⟨p, j, none⟩ (.slice (some ⟨g, 0, none⟩) (N + 1) cap')).ownsRow (p + 1) T size (.slice (some ⟨g, 0, none⟩) (N + 1) cap') (N + 1) (xs ++ news) ∧
    Only (fun q => q = p ∨ V.ownBlock = some q) wr (w3.setCell ⟨p, j, none⟩ (.slice (some ⟨g, 0, none⟩) (N + 1) cap')) ∧ (V.ownBlock = some g ∨ wr.heap.size ≤ g) := by
  have ho : Only (fun q => q = p) w3 (w3.setCell ⟨p, j, none⟩ (.slice (some ⟨g, 0, none⟩) (N + 1) cap')) := (Only.refl (fun q => q = p) w3).setCell (.inl rfl) _
  refine ⟨by rw [setCell_block hv j _, hcs], ho.ownsRow hown (fun k hk hkp => by have := (hown.lt k hk).1; omega), ?_, ?_⟩
  · exact (Only.grown (Only.of_below (r := fun q => q = p ∨ V.ownBlock = some q) hl) hg (fun k hk => .inl (.inr hk))).setCell (.inl (.inl rfl)) _
  · rcases hat with h | h
    · exact .inl h
    · have := Below.size hl; exact .inr (by omega)
/-- The numbers' row has grown: the table is as it was. -/
theorem add_push {wr w2 w3 : World} {p : Nat} {S : ByteArray} {nds nds2 : List Nd} {Xs2 : List Rx} {kk kk2 : List Nat} {vn vk vn2 vk2 : Value} {lb g : Nat} {o : Obj} (hA : AInv w2 p S nds2 Xs2 kk2 vn2 vk2) (hlb : ¬ Uses p vn vk nds kk lb) (hlt : lb < wr.heap.size)
    (hu : ∀ q, Uses p vn2 vk2 nds2 kk2 q → Uses p vn vk nds kk q ∨ wr.heap.size ≤ q) (hgr : (w2.alloc o).grownBy w3 (some lb)) (hga : some lb = some g ∨ g = (w2.alloc o).heap.size) : AInv w3 p S nds2 Xs2 kk2 vn2 vk2 ∧ ¬ Uses p vn2 vk2 nds2 kk2 g ∧ Only (fun q => q = lb) w2 w3 := by
  have h2 : ¬ Uses p vn2 vk2 nds2 kk2 lb := fun h => by
    rcases hu lb h with h | h
    · exact hlb h
    · omega
  have ho : Only (fun q => q = lb) w2 w3 := ((Only.refl (fun q => q = lb) w2).alloc o).grown hgr (fun k hk => .inl (Option.some.inj hk).symm)
  refine ⟨hA.only ho (fun q hq he => h2 (he ▸ hq)), fun hg => ?_, ho⟩
  rcases hga with h | h
  · exact h2 ((Option.some.inj h) ▸ hg)
  · have := (hA.low g hg).2
    rw [h, World.size_alloc] at this
    omega
theorem getD_app {α : Type} {a b : List α} {c : Nat} {d : α} (h : c < a.length) : (a ++ b).getD c d = a.getD c d := by
  simp only [List.getD_eq_getElem?_getD, List.getElem?_append_left h]
theorem intCells_snoc (l : List Nat) (c : Nat) : intCells (l ++ [c]) = intCells l ++ [.int .i64 (c : Int)] := by simp [intCells]

set_option maxRecDepth 100000 in
set_option maxHeartbeats 4000000 in
theorem add_tab {p : Nat} {S : ByteArray} (hS : S.size ≤ 256) : ∀ (X : RxA) (w : World) (nds : List Nd) (Xs : List Rx) (kk : List Nat) (vn vk : Value), AInv w p S nds Xs kk vn vk → X.In w p → X.bare.formB = true → (nds.length : Int) + X.bare.big ≤ 300 →
    Calls Tryz.prog 66 #[.pointer (some ⟨p, 0, none⟩), X.val] w (AddPost p S X.bare w nds Xs kk vn vk) := by
  refine RxA.ind fun k mn mx s0 s1 s2 s3 a cap l ih => ?_
  intro w nds Xs kk vn vk hA hin hform hbig
  have hbl : bigAll (bareAll l) + 1 ≤ (RxA.node k mn mx s0 s1 s2 s3 a cap l).bare.big := by
    have ht := times_pos k mn mx
    have hnn := bigAll_nonneg (bareAll l)
    simp only [RxA.bare, Rx.big]
    have : 1 * bigAll (bareAll l) ≤ times k mn mx * bigAll (bareAll l) := Int.mul_le_mul_of_nonneg_right ht hnn
    omega
  have hlen := len_le_big l
  have hfa : formAll (bareAll l) = true := by
    simp only [RxA.bare] at hform
    exact ((formB_iff _ _ _ _ _ _ _ _).1 hform).2
  obtain ⟨x, hx⟩ : ∃ x, (RxA.node k mn mx s0 s1 s2 s3 a cap l).bare = x := ⟨_, rfl⟩
  have hX : (RxA.node k mn mx s0 s1 s2 s3 a cap l).bare = .node k mn mx s0 s1 s2 s3 (bareAll l) := rfl
  have hinX := hin
  simp only [RxA.In] at hin
  obtain ⟨hnum, hlc, hcm, -, hrow⟩ := hin
  have hcap : cap ≤ 9223372036854775807 := by unfold maxLen at hcm; omega
  rw [hx] at hform hbig hbl hX ⊢
  obtain ⟨n, hn⟩ : ∃ n, l.length = n := ⟨_, rfl⟩
  show Calls Tryz.prog 66 #[.pointer (some ⟨p, 0, none⟩), .agg #[.int .i64 k, .int .i64 mn, .int .i64 mx, .int .u64 s0, .int .u64 s1, .int .u64 s2, .int .u64 s3, .slice a l.length cap]] w _
  rw [hn] at hlc ⊢
  have hn300 : n ≤ 300 := by omega
  obtain ⟨W1, hW1⟩ : ∃ W1, (w.alloc (.cells #[.int .i64 k, .int .i64 mn, .int .i64 mx, .int .u64 s0, .int .u64 s1, .int .u64 s2, .int .u64 s3, .slice a n cap] 26)).alloc (.cells #[] 3) = W1 := ⟨_, rfl⟩
  have hl1 : Later w W1 := by rw [← hW1]; exact ((Later.refl w).alloc _).alloc _
  have hb1 : W1.heap[w.heap.size]? = some (.cells #[.int .i64 k, .int .i64 mn, .int .i64 mx, .int .u64 s0, .int .u64 s1, .int .u64 s2, .int .u64 s3, .slice a n cap] 26 (0, 0)) := by rw [← hW1]; exact alloc_old (alloc_block w _) _
  have hi1 : W1.heap[w.heap.size + 1]? = some (.cells #[] 3 (0, 0)) := by
    have := alloc_block (w.alloc (.cells #[.int .i64 k, .int .i64 mn, .int .i64 mx, .int .u64 s0, .int .u64 s1, .int .u64 s2, .int .u64 s3, .slice a n cap] 26)) (.cells #[] 3)
    rw [World.size_alloc] at this
    rw [← hW1]; exact this
  have hs1 : W1.heap.size = w.heap.size + 2 := by rw [← hW1]; simp
  obtain ⟨xb, hxb⟩ : ∃ xb, w.heap.size = xb := ⟨_, rfl⟩
  rw [hxb] at hb1 hi1 hs1
  have hA1 : AInv W1 p S nds Xs kk vn vk := hA.only (r := fun _ => False) (Only.of_below hl1) (fun _ _ h => h)
  have HA1 := Lib.hid hA1; clear hA1
  have HA := Lib.hid hA; clear hA
  have HROW := Lib.hid hrow; clear hrow
  have HIH := Lib.hid ih; clear ih
  have HL1 := Lib.hid hl1; clear hl1
  have HB1 := Lib.hid hb1; clear hb1
  have HI1 := Lib.hid hi1; clear hi1
  have HS1 := Lib.hid hs1; clear hs1
  have HW1 := Lib.hid hW1; clear hW1
  have HN := Lib.hid hn; clear hn hx
  have HX := Lib.hid hX; clear hX
  have HFA := Lib.hid hfa; clear hfa
  have HINX := Lib.hid hinX; clear hinX
  have HXB := Lib.hid hxb
  obtain ⟨i0, hif, hz0, hz1, hz2⟩ := info_parts info_int
  go_enter Tryz.func66, Tryz.ntmps66
  go_wp2_with fail
  rw [HW1.out]
  clear HW1 hxb
  go_loopw [5, 6] (fun v_ i_ wx => ∃ (i : Nat) (m : List Nd) (my : List Rx) (mk : List Nat) (vn' vk' : Value) (cs : List Nat) (lb lc : Nat), i ≤ n ∧ i_ = .int .i64 i ∧ v_ = .slice (some ⟨lb, 0, none⟩) i lc ∧ AInv wx p S (nds ++ m) (Xs ++ my) (kk ++ mk) vn' vk' ∧
      wx.ownsRow (xb + 1) 3 1 (.slice (some ⟨lb, 0, none⟩) i lc) i (intCells cs) ∧ ¬ Uses p vn' vk' (nds ++ m) (kk ++ mk) lb ∧ (m.length : Int) ≤ bigAll ((bareAll l).take i) ∧
      (cs.map fun c => (Xs ++ my).getD c (.set Q4.none)) = (bareAll l).take i ∧ (∀ c ∈ cs, c < nds.length + m.length) ∧ Only (fun q => Uses p vn vk nds kk q ∨ q = xb + 1) W1 wx ∧ (∀ q, Uses p vn' vk' (nds ++ m) (kk ++ mk) q → Uses p vn vk nds kk q ∨ xb + 2 ≤ q)) (fun _ i_ _ => n - (intOf i_).toNat)
  case atStart =>
    refine ⟨0, [], [], [], vn, vk, [], xb + 1, 0, by omega, rfl, rfl, by simpa using HA1.out, ⟨rfl, .inr ⟨xb + 1, 0, #[], rfl, Nat.le_refl _, HI1.out, Nat.le_refl _, by omega, by simp, by simp [intCells]⟩⟩, ?_, by simp [bigAll], by simp, by simp, Only.refl _ _, by simpa using fun q hq => .inl hq⟩
    intro hU
    have := (HA.out.low (xb + 1) (by simpa using hU)).2
    have := HXB.out
    omega
  case round =>
    obtain ⟨i, m, my, mk, vn', vk', cs, lb, lc, hi, rfl, rfl, hA, hown, hlbU, hmb, hcs, hclt, hon, huses⟩ := hrel
    have hxU : ¬ Uses p vn' vk' (nds ++ m) (kk ++ mk) xb := fun hU => by
      rcases huses xb hU with h | h
      · have := (HA.out.low xb h).2; have := HXB.out; omega
      · omega
    have hbox : wr.heap[xb]? = _ := (hon.block xb (lt_of_block HB1.out) (by
      rintro (h | h)
      · have := (HA.out.low xb h).2; have := HXB.out; omega
      · omega)).trans HB1.out
    have x7 := cell_of_block hbox 7
    simp only [List.getElem?_toArray, List.getElem?_cons_zero, List.getElem?_cons_succ] at x7
    have HBX := Lib.hid hbox; clear hbox
    have HAR := Lib.hid hA; clear hA
    have HOW := Lib.hid hown; clear hown
    have HLU := Lib.hid hlbU; clear hlbU
    have HMB := Lib.hid hmb; clear hmb
    have HCS := Lib.hid hcs; clear hcs
    have HCL := Lib.hid hclt; clear hclt
    have HON := Lib.hid hon; clear hon
    have HUS := Lib.hid huses; clear huses hxU
    by_cases hie : i = n
    · subst hie
      obtain ⟨na, nc, hvn⟩ := row_of HAR.out.own1
      obtain ⟨ka, kc, hvk⟩ := row_of HAR.out.own2
      subst hvn
      subst hvk
      obtain ⟨N, hN⟩ : ∃ N, (nds ++ m).length = N := ⟨_, rfl⟩
      rw [hN] at HAR HLU HUS
      have hN300 : N ≤ 300 := by
        rw [List.length_append] at hN
        have := HMB.out
        have h := bigAll_append ((bareAll l).take i) ((bareAll l).drop i)
        rw [List.take_append_drop] at h
        have := bigAll_nonneg ((bareAll l).drop i)
        omega
      have HNN := Lib.hid hN
      have hpw := lt_of_block HAR.out.top
      have hown1 := HAR.out.own1
      have hown2 := HAR.out.own2
      rw [hN] at hown1 hown2
      have t0 : wr.cell? ⟨p, 0, none⟩ = some (.string S) := by rw [cell_of_block HAR.out.top]; rfl
      have t1 : wr.cell? ⟨p, 1, none⟩ = some (.slice na N nc) := by rw [cell_of_block HAR.out.top]; rfl
      have t2 : wr.cell? ⟨p, 2, none⟩ = some (.slice ka N kc) := by rw [cell_of_block HAR.out.top]; rfl
      have y0 := cell_of_block HBX.out 0
      have y1 := cell_of_block HBX.out 1
      have y2 := cell_of_block HBX.out 2
      have y3 := cell_of_block HBX.out 3
      have y4 := cell_of_block HBX.out 4
      have y5 := cell_of_block HBX.out 5
      have y6 := cell_of_block HBX.out 6
      simp only [List.getElem?_toArray, List.getElem?_cons_zero, List.getElem?_cons_succ] at y0 y1 y2 y3 y4 y5 y6
      obtain ⟨O, hO⟩ : ∃ O : Obj, .cells #[.int .i64 k, .int .i64 mn, .int .i64 mx, .int .u64 s0, .int .u64 s1, .int .u64 s2, .int .u64 s3, .slice a i cap, .slice (some ⟨lb, 0, none⟩) i lc] 122 = O := ⟨_, rfl⟩
      have HO := Lib.hid hO
      have la := (Later.refl wr).alloc O
      have a1 := la.cell t1
      have z0 := la.cell y0
      have z1 := la.cell y1
      have z2 := la.cell y2
      have z3 := la.cell y3
      have z4 := la.cell y4
      have z5 := la.cell y5
      have z6 := la.cell y6
      have z7 := la.cell x7
      rw [← hO] at a1 z0 z1 z2 z3 z4 z5 z6 z7
      have HOW1 := Lib.hid hown1
      have HOW2 := Lib.hid hown2
      have HOA1 : Hid ((wr.alloc (.cells #[.int .i64 k, .int .i64 mn, .int .i64 mx, .int .u64 s0, .int .u64 s1, .int .u64 s2, .int .u64 s3, .slice a i cap, .slice (some ⟨lb, 0, none⟩) i lc] 122)).drew.ownsRow (p + 1) 122 9 (.slice na N nc) N (ndCells (nds ++ m))) := Lib.hid (hown1.alloc _)
      clear hown1 hown2 hN la hO
      obtain ⟨iN, hiN, hnz0, hnz1, hnz2⟩ := info_parts info_nd
      go_upto_region 6 with fail
      go_cut [] from 25 to 36 (fun wx => ∃ g cap', wx.heap[p]? = some (.cells #[.string S, .slice (some ⟨g, 0, none⟩) (N + 1) cap', .slice ka N kc] 118 (0, 0)) ∧ wx.ownsRow (p + 1) 122 9 (.slice (some ⟨g, 0, none⟩) (N + 1) cap') (N + 1) (ndCells (nds ++ m) ++ [.int .i64 k, .int .i64 mn, .int .i64 mx, .int .u64 s0, .int .u64 s1, .int .u64 s2, .int .u64 s3, .slice a i cap, .slice (some ⟨lb, 0, none⟩) i lc]) ∧
        Only (fun q => q = p ∨ (Value.slice na N nc).ownBlock = some q) wr wx ∧ ((Value.slice na N nc).ownBlock = some g ∨ wr.heap.size ≤ g))
      case first =>
        go_region_law (first
          | (refine step_append_lies _ rfl (.tmp 29) (.tmp 33) 115 rfl (p + 1) 122 iN _ 9 104 Tryz.underlying115 hiN hnz0 hnz1 hnz2 rfl (by decide) (.slice na N nc) N (ndCells (nds ++ m)) rfl HOA1.out ⟨wr.heap.size, 0, none⟩ 1 1 [.int .i64 k, .int .i64 mn, .int .i64 mx, .int .u64 s0, .int .u64 s1, .int .u64 s2, .int .u64 s3, .slice a i cap, .slice (some ⟨lb, 0, none⟩) i lc] rfl rfl (cells_new wr [.int .i64 k, .int .i64 mn, .int .i64 mx, .int .u64 s0, .int .u64 s1, .int .u64 s2, .int .u64 s3, .slice a i cap, .slice (some ⟨lb, 0, none⟩) i lc] 122) (by intro u hu; simp only [List.mem_cons, List.not_mem_nil, or_false] at hu; rcases hu with rfl | rfl | rfl | rfl | rfl | rfl | rfl | rfl | rfl <;> rfl) (by decide) (by unfold maxLen; omega) (by omega) (by simp; omega) _ rfl ?_
             intro g cap' w3 hown3 hgrow hgat hglt
             have hv3 : w3.heap[p]? = some (.cells #[.string S, .slice na N nc, .slice ka N kc] 118 (0, 0)) := (hgrow.block p (by simp; omega) (fun he => by have := (HOW1.out.lt p he.symm).1; omega)).trans (by
               have h := alloc_old HAR.out.top (.cells #[] 122)
               exact alloc_old HAR.out.top _)
             have hc3 : w3.cell? ⟨p, 1, none⟩ = some (.slice na N nc) := by rw [cell_of_block hv3]; rfl
             have hf3 : w3.frozen? ⟨p, 1, none⟩ = false := free_of_block hv3 1
             have HV3 := Lib.hid hv3
             clear hv3)
          | fail)
        all_goals
          go_wp2_with fail
          go_meet
          case rel => exact ⟨g, cap', add_mid ((Later.refl wr).alloc _).drew (cs := #[.string S, .slice na N nc, .slice ka N kc]) HV3.out rfl hown3 hgrow hgat⟩
      case rest =>
        obtain ⟨gn, cn, htop4, hown4, hon4, hat4⟩ := hcut
        obtain ⟨w4, hw4⟩ : ∃ v, v = wc := ⟨_, rfl⟩
        subst hw4
        obtain ⟨iK, hiK, hkz0, hkz1, hkz2⟩ := info_parts info_rows
        have hmk := fun W => make_nils W S hS
        obtain ⟨NR, hNR⟩ : ∃ NR, nilRow S = NR := ⟨_, rfl⟩
        rw [hNR] at hmk
        have hapart := HAR.out.apart
        have hown2c : w4.ownsRow (p + 1) 119 1 (.slice ka N kc) N (kkCells S (kk ++ mk)) := hon4.ownsRow HOW2.out (fun q hq hqr => by
          have h1 := (HOW2.out.lt q hq).1
          rcases hqr with h | h
          · omega
          · exact hapart q h hq)
        have u0 : w4.cell? ⟨p, 0, none⟩ = some (.string S) := by rw [cell_of_block htop4]; rfl
        have u2 : w4.cell? ⟨p, 2, none⟩ = some (.slice ka N kc) := by rw [cell_of_block htop4]; rfl
        have u1 : w4.cell? ⟨p, 1, none⟩ = some (.slice (some ⟨gn, 0, none⟩) (N + 1) cn) := by rw [cell_of_block htop4]; rfl
        have lz : Later w4 (w4.alloc (.cells NR 90)) := (Later.refl w4).alloc _
        have lz2 : Later w4 ((w4.alloc (.cells NR 90)).alloc (.cells #[.slice (some ⟨w4.heap.size, 0, none⟩) (S.size + 1) (S.size + 1)] 119)) := lz.alloc _
        have v2 := lz.cell u2
        have v22 := lz2.cell u2
        have hoa2 : ((w4.alloc (.cells NR 90)).alloc (.cells #[.slice (some ⟨w4.heap.size, 0, none⟩) (S.size + 1) (S.size + 1)] 119)).drew.ownsRow (p + 1) 119 1 (.slice ka N kc) N (kkCells S (kk ++ mk)) := (hown2c.alloc _).alloc _
        have hcn := cells_new (w4.alloc (.cells NR 90)) [.slice (some ⟨w4.heap.size, 0, none⟩) (S.size + 1) (S.size + 1)] 119
        rw [World.size_alloc] at hcn
        have hpc : p + 1 ≤ w4.heap.size := by have := hon4.size; omega
        have htopa := lz2.block htop4
        have hkb : ((w4.alloc (.cells NR 90)).alloc (.cells #[.slice (some ⟨w4.heap.size, 0, none⟩) (S.size + 1) (S.size + 1)] 119)).heap[w4.heap.size]? = some (.cells NR 90 (0, 0)) := alloc_old (alloc_block w4 _) _
        have HOA2 := Lib.hid hoa2
        have HCN := Lib.hid hcn
        have HTOPA := Lib.hid htopa
        have HKB := Lib.hid hkb
        have HLZ2 := Lib.hid lz2
        have HOWC := Lib.hid hown2c
        have HO4 := Lib.hid hown4
        have HN4 := Lib.hid hon4
        have HAT4 := Lib.hid hat4
        have HNR := Lib.hid hNR
        have HTOP4 := Lib.hid htop4
        clear hoa2 hcn htopa hkb lz lz2 hown2c hown4 hon4 hat4 hapart hNR htop4 t0 t1 t2 y0 y1 y2 y3 y4 y5 y6 a1 z0 z1 z2 z3 z4 z5 z6 z7 x7
        have hwrap : IntKind.i64.wrap ((S.size : Int) + 1) = (S.size : Int) + 1 := by rw [IntKind.wrap_i64]; omega
        go_upto_region 7 with fail
        go_cut [] from 37 to 52 (fun wx => ∃ q g cap', wx.heap[p]? = some (.cells #[.string S, .slice (some ⟨gn, 0, none⟩) (N + 1) cn, .slice (some ⟨g, 0, none⟩) (N + 1) cap'] 118 (0, 0)) ∧ wx.ownsRow (p + 1) 119 1 (.slice (some ⟨g, 0, none⟩) (N + 1) cap') (N + 1) (kkCells S (kk ++ mk) ++ [.slice (some ⟨q, 0, none⟩) (S.size + 1) (S.size + 1)]) ∧
          Only (fun q => q = p ∨ (Value.slice ka N kc).ownBlock = some q) w4 wx ∧ ((Value.slice ka N kc).ownBlock = some g ∨ w4.heap.size + 2 ≤ g) ∧ q = w4.heap.size ∧ wx.heap[q]? = some (.cells NR 90 (0, 0)))
        case first =>
          go_region_law (first
            | (refine step_append_lies _ rfl (.tmp 41) (.tmp 49) 116 rfl (p + 1) 119 iK _ 1 24 Tryz.underlying116 hiK hkz0 hkz1 hkz2 rfl (by decide) (.slice ka N kc) N (kkCells S (kk ++ mk)) rfl HOA2.out ⟨w4.heap.size + 1, 0, none⟩ 1 1 [.slice (some ⟨w4.heap.size, 0, none⟩) (S.size + 1) (S.size + 1)] rfl rfl HCN.out (by intro u hu; rw [List.mem_singleton.1 hu]; rfl) (by decide) (by unfold maxLen; omega) (by omega) (by simp; omega) _ rfl ?_
               intro g cap' w3 hown3 hgrow hgat hglt
               have hv3 : w3.heap[p]? = some (.cells #[.string S, .slice (some ⟨gn, 0, none⟩) (N + 1) cn, .slice ka N kc] 118 (0, 0)) := (hgrow.block p (by simp; omega) (fun he => by have := (HOWC.out.lt p he.symm).1; omega)).trans HTOPA.out
               have hk3 : w3.heap[w4.heap.size]? = some (.cells NR 90 (0, 0)) := (hgrow.block w4.heap.size (lt_of_block HKB.out) (fun he => by have := (HOWC.out.lt w4.heap.size he.symm).2; omega)).trans HKB.out
               have hc3 : w3.cell? ⟨p, 2, none⟩ = some (.slice ka N kc) := by rw [cell_of_block hv3]; rfl
               have hf3 : w3.frozen? ⟨p, 2, none⟩ = false := free_of_block hv3 2
               have HV3 := Lib.hid hv3
               have HK3 := Lib.hid hk3
               clear hv3 hk3)
            | fail)
          all_goals
            go_wp2_with fail
            go_meet
            case rel =>
              obtain ⟨h1, h2, h3, h4⟩ := add_mid HLZ2.out.drew (cs := #[.string S, .slice (some ⟨gn, 0, none⟩) (N + 1) cn, .slice ka N kc]) HV3.out rfl hown3 hgrow hgat
              refine ⟨w4.heap.size, g, cap', h1, h2, h3, ?_, rfl, ?_⟩
              · rcases hgat with h | h
                · exact .inl h
                · exact .inr (by have : g = w4.heap.size + 1 + 1 := by simpa using h
                                 omega)
              · have ho : Only (fun q => q = p) w3 (w3.setCell ⟨p, 2, none⟩ (.slice (some ⟨g, 0, none⟩) (N + 1) cap')) := (Only.refl (fun q => q = p) w3).setCell (.inl rfl) _
                exact (ho.block _ (lt_of_block HK3.out) (by omega)).trans HK3.out
        case rest =>
          obtain ⟨kq, gk, ck, htop7, hown7, hon7, hat7, hkq, hkb7⟩ := hcut
          have hcl : cs.length = i := by
            have := HOW.out.1
            simpa [intCells] using this
          obtain ⟨hc1, hc2⟩ : i ≤ lc ∧ lc ≤ maxLen := by
            rcases HOW.out.2 with ⟨h, -⟩ | ⟨g, cap', cur, h, -, -, h1, h2, -⟩
            · cases h
            · cases h; exact ⟨h1, h2⟩
          have hlb1 := HOW.out.lt lb rfl
          have hpx : p < xb := by have := (HA.out.low p (.inl rfl)).2; have := HXB.out; omega
          have hcells : ∀ (j : Nat) (c : Nat), cs[j]? = some c → wr.cell? ⟨lb, j, none⟩ = some (.int .i64 c) := fun j c hc => by
            have hj : j < cs.length := (List.getElem?_eq_some_iff.1 hc).1
            rw [HOW.out.cellAt j (by omega)]
            simp [intCells, hc]
          have hxk : x = .node k mn mx s0 s1 s2 s3 (cs.map fun c => (Xs ++ my).getD c (.set Q4.none)) := by
            rw [HCS.out, List.take_of_length_le (by rw [bareAll_length, HN.out]; exact Nat.le_refl _)]; exact HX.out
          have hown4' : w4.ownsRow (p + 1) 122 9 (.slice (some ⟨gn, 0, none⟩) (N + 1) cn) (N + 1) (ndCells (nds ++ m) ++ (Nd.mk k mn mx s0 s1 s2 s3 a i cap (some ⟨lb, 0, none⟩) lc cs).cells) := by
            simp only [Nd.cells]; rw [hcl]; exact HO4.out
          obtain ⟨h1, h2, h3⟩ := add_last (nd := Nd.mk k mn mx s0 s1 s2 s3 a i cap (some ⟨lb, 0, none⟩) lc cs) (x := x) HAR.out HNN.out HN4.out HAT4.out hown4' hon7 hat7 hown7 htop7 hkq (by rw [HNR.out]; exact hkb7) rfl (by omega) hlb1.2 HLU.out hcells (by simp only; rw [hcl]; exact ⟨hc1, hc2⟩) hxk
            (fun c hc => by have := HCL.out c hc; have := HNN.out; rw [List.length_append] at this; omega) ⟨hform, hnum.2.2.2⟩
          have u1 : wc.cell? ⟨p, 1, none⟩ = some (.slice (some ⟨gn, 0, none⟩) (N + 1) cn) := by rw [cell_of_block htop7]; rfl
          have H1 := Lib.hid h1
          have H2 := Lib.hid h2
          have H3 := Lib.hid h3
          clear h1 h2 h3 hxk hcells hown4' hcl hkq hkb7 htop7 hown7 hon7 hat7 u0 u2
          go_wp2_with fail
          go_ret
          have hlens := HAR.out.lens
          have hNe := HNN.out
          rw [List.length_append] at hNe
          have hxb := HXB.out
          have hbt : bigAll ((bareAll l).take i) ≤ bigAll (bareAll l) := by
            have h := bigAll_append ((bareAll l).take i) ((bareAll l).drop i)
            rw [List.take_append_drop] at h
            have := bigAll_nonneg ((bareAll l).drop i)
            omega
          have hmb := HMB.out
          refine ⟨N, m ++ [_], my ++ [x], mk ++ [kq], _, _, rfl, by rw [List.length_append]; simp; omega, by simp only [← List.append_assoc]; exact H1.out, by simp, by rw [List.length_append]; simp; omega, ?_, ?_, fun q hq => ?_⟩
          · rw [← List.append_assoc, List.getD_eq_getElem?_getD, List.getElem?_append_right (by rw [hlens.1, List.length_append]; omega), show N - (Xs ++ my).length = 0 by rw [hlens.1, List.length_append]; omega]; rfl
          · refine ((Only.of_below HL1.out).trans (HON.out.mono (fun q _ h => ?_))).trans (H3.out.mono (fun q _ h => ?_))
            · rcases h with h | h
              · exact .inl h
              · exact .inr (by omega)
            · rcases HUS.out q h with h | h
              · exact .inl h
              · exact .inr (by omega)
          · simp only [← List.append_assoc] at hq
            rcases H2.out q hq with h | h | h
            · rcases HUS.out q h with h | h
              · exact .inl h
              · exact .inr (by omega)
            · exact .inr (by have := hlb1.1; omega)
            · have := HON.out.size; have := HS1.out; exact .inr (by omega)
    · have hin2 : (i : Int) < n := by omega
      have hil : i < l.length := by rw [HN.out]; omega
      have hne : l ≠ [] := by rintro rfl; simp at hil
      obtain ⟨b, o, rfl, hbp, hL⟩ := HROW.out.resolve_left hne
      obtain ⟨hce, hie2⟩ := RxA.In.get hL i hil
      have hxl : l[i] ∈ l := List.getElem_mem hil
      have hxb2 := big_le_all l _ hxl
      have hpl : ∀ q, Uses p vn vk nds kk q → p ≤ q := fun q hq => (HA.out.low q hq).1
      have hpx : p < xb := by have := (HA.out.low p (.inl rfl)).2; have := HXB.out; omega
      have hkeep : ∀ j, wr.cell? ⟨b, j, none⟩ = w.cell? ⟨b, j, none⟩ := fun j =>
        (World.cell?_of_block (w := W1) (HON.out.block b (by have := HS1.out; omega) (by
          rintro (h | h)
          · have := hpl b h; omega
          · omega))).trans (World.cell?_of_block (w := w) (Below.block HL1.out b (by have := HXB.out; omega)))
      have hinr : l[i].In wr p := hie2.later (Nat.le_refl _) (fun b' o' hb' => (World.cell?_of_block (w := W1) (HON.out.block b' (by have := HS1.out; omega) (by
          rintro (h | h)
          · have := hpl b' h; omega
          · omega))).trans (World.cell?_of_block (w := w) (Below.block HL1.out b' (by have := HXB.out; omega))))
      have hfi : l[i].bare.formB = true := by
        have := formAll_iff (bareAll l) |>.1 HFA.out l[i].bare (by rw [bareAll_eq]; exact List.mem_map.2 ⟨_, hxl, rfl⟩)
        exact this
      have htk : (bareAll l).take (i + 1) = (bareAll l).take i ++ [l[i].bare] := by
        rw [List.take_add_one, bareAll_eq, List.getElem?_map, List.getElem?_eq_getElem hil]; rfl
      have hbg : bigAll ((bareAll l).take (i + 1)) = bigAll ((bareAll l).take i) + l[i].bare.big := by rw [htk, bigAll_append]; simp [bigAll]
      have hbg2 : bigAll ((bareAll l).take (i + 1)) ≤ bigAll (bareAll l) := by
        have h := bigAll_append ((bareAll l).take (i + 1)) ((bareAll l).drop (i + 1))
        rw [List.take_append_drop] at h
        have := bigAll_nonneg ((bareAll l).drop (i + 1))
        omega
      have hcall := HIH.out _ hxl wr (nds ++ m) (Xs ++ my) (kk ++ mk) vn' vk' HAR.out hinr hfi (by
        have := HMB.out
        rw [List.length_append]
        omega)
      obtain ⟨Y, hY⟩ : ∃ Y, l[i] = Y := ⟨_, rfl⟩
      rw [hY] at hce hcall htk hbg
      have HTK := Lib.hid htk; clear htk
      have HBG := Lib.hid hbg; clear hbg
      obtain ⟨xk, xmn, xmx, x0, x1, x2, x3, xa, xcap, xl⟩ := Y
      have hce2 := node_cells (fun j hj => (hkeep (o + i * 8 + j)).trans (hce j hj))
      obtain ⟨q0, q1, q2, q3, q4, q5, q6, q7⟩ := hce2
      obtain ⟨xn, hxn⟩ : ∃ xn, xl.length = xn := ⟨_, rfl⟩
      have hv : (RxA.node xk xmn xmx x0 x1 x2 x3 xa xcap xl).val = .agg #[.int .i64 xk, .int .i64 xmn, .int .i64 xmx, .int .u64 x0, .int .u64 x1, .int .u64 x2, .int .u64 x3, .slice xa xl.length xcap] := rfl
      rw [hv, hxn] at hcall
      rw [hxn] at q7
      have HCALL := Lib.hid hcall
      clear hcall hce hie2 hinr hY hkeep hxn hv hpl hfi hbg2 hxb2 hxl hne hL
      go_wp2_with (first
        | (go_at_call 66; (with_reducible refine HCALL.out.mono ?_); rintro e w2 ⟨c, m2, my2, mk2, vn2, vk2, rfl, hc2, hA2, h12, hb2, hg2, ho2, hu2⟩; have HC2 := Lib.hid hc2; have HA2 := Lib.hid hA2; have HB2 := Lib.hid hb2; have HG2 := Lib.hid hg2; have HO2 := Lib.hid ho2; have HU2 := Lib.hid hu2; clear hc2 hA2 hb2 hg2 ho2 hu2; have HOW2 := Lib.hid ((HO2.out.ownsRow HOW.out (fun q hq hqU => HLU.out (by have e1 : lb = q := (Option.some.inj hq); rw [e1]; exact hqU))).alloc (.cells #[.int .i64 (c : Int)] 3)); have hbase : xb + 1 ≤ w2.heap.size := by (have := HO2.out.size; have := HON.out.size; have := HS1.out; omega))
        | (refine wpList_append_lies _ rfl (.tmp 15) (.tmp 23) 120 rfl (xb + 1) 3 i0 _ 1 8 Tryz.underlying120 hif hz0 hz1 hz2 rfl (by decide) (.slice (some ⟨lb, 0, none⟩) i lc) i (intCells cs) rfl HOW2.out ⟨w2.heap.size, 0, none⟩ 1 1 [.int .i64 (c : Int)] rfl rfl (cells_new w2 [.int .i64 (c : Int)] 3) (by intro u hu; rw [List.mem_singleton.1 hu]; rfl) (by decide) (by unfold maxLen; omega) (by omega) (by simp; omega) _ rfl ?_
           intro g cap2 w3 hown3 hgrow hgat hglt
           have HOW3 := Lib.hid hown3
           have HGR := Lib.hid hgrow
           have HGA := Lib.hid hgat
           clear hown3 hgrow hgat)
        | fail)
      have hlbw : lb < wr.heap.size := (HOW.out.lt lb rfl).2
      have hlb1 : xb + 1 ≤ lb := (HOW.out.lt lb rfl).1
      obtain ⟨hA3, hgU, ho3⟩ := add_push HA2.out HLU.out hlbw HU2.out HGR.out HGA.out
      have hlens := HAR.out.lens
      have hlenX : (Xs ++ my).length = nds.length + m.length := by rw [hlens.1, List.length_append]
      have hc2 := HC2.out
      rw [List.length_append] at hc2
      refine ⟨⟨i + 1, m ++ m2, my ++ my2, mk ++ mk2, vn2, vk2, cs ++ [c], g, cap2, by omega, by simp, rfl, ?_, ?_, ?_, ?_, ?_, ?_, ?_, ?_⟩, by simp only [intOf]; omega⟩
      · simp only [← List.append_assoc]; exact hA3
      · rw [intCells_snoc]; exact HOW3.out
      · simp only [← List.append_assoc]; exact hgU
      · rw [HBG.out, List.length_append]
        have := HMB.out
        have := HB2.out
        omega
      · rw [HTK.out, List.map_append, List.map_singleton, ← List.append_assoc, HG2.out, ← HCS.out]
        congr 1
        refine List.map_congr_left fun c' hc' => getD_app ?_
        rw [hlenX]; exact HCL.out c' hc'
      · intro c' hc'
        rw [List.length_append]
        rcases List.mem_append.1 hc' with h | h
        · have := HCL.out c' h; omega
        · rw [List.mem_singleton.1 h]; omega
      · refine (HON.out.trans (HO2.out.mono (fun q hq h => ?_))).trans (ho3.mono (fun q hq h => ?_))
        · rcases HUS.out q h with h1 | h1
          · exact .inl (.inl h1)
          · exact .inr (by rw [HS1.out]; exact h1)
        · subst h
          by_cases he : q = xb + 1
          · exact .inl (.inr he)
          · exact .inr (by rw [HS1.out]; omega)
      · intro q hq
        simp only [← List.append_assoc] at hq
        rcases HU2.out q hq with h | h
        · exact HUS.out q h
        · have := HON.out.size; have := HS1.out; exact .inr (by omega)
end Go.Proofs.YtjhclopdcbnmkaaGreatDoor
