/- Vgi, merged: VN19 VN20. -/
import Derived.Test.YtfpbocjmlhcgiaaGreatDoorVgg
import Derived.Test.YtfpbocjmlhcgiaaGreatDoorCLc
set_option linter.unusedSimpArgs false
set_option linter.unusedVariables false
/- Clones of a volume, over clones of its disk, device and journal. -/
namespace Go.Proofs.YtfpbocjmlhcgiaaGreatDoor
open Go.RowKit PJ Go.Maps Go.Shelf

theorem vcache_later {w w' : World} {R F : Nat → Prop} {cv : Value} {xs : List Kept} (h : CacheAt w R F cv xs) (hl : LJ w w') : CacheAt w' R F cv xs := by
  rcases h with h | ⟨g, off, cap, rfl, hg, h1, h2, h3⟩
  · exact .inl h
  · exact .inr ⟨g, off, cap, rfl, Nat.lt_of_lt_of_le hg (Below.size hl), h1, h2, fun j k hk => ⟨hl.cell (h3 j k hk).1, hl.cell (h3 j k hk).2.1, hl.cell (h3 j k hk).2.2⟩⟩
set_option maxRecDepth 100000 in
set_option maxHeartbeats 1000000 in
theorem vvclone_any (w : World) (vb jb mb : Nat) (l : List Ent) (hv : VC w vb jb mb l) (k : Nat) :
    Calls Tryz.prog 51 #[.pointer (some ⟨vb, 0, none⟩), .pointer (some ⟨k, 0, none⟩)] w fun e w' => ∃ vb' mb', e = .returned (.pointer (some ⟨vb', 0, none⟩)) ∧ w'.heap[vb']? = some (.cells (volC k mb') 143 (0, 0)) ∧ EMap w' mb' l ∧ w.heap.size ≤ mb' ∧ w.heap.size ≤ vb' ∧ LJ w w' := by
  have HBV := Lib.hid hv.blk
  have HCL := Lib.hid (fun W (hW : LJ w W) => eclone_any W mb l (hv.later hW).map)
  clear hv
  go_enter Tryz.func51, Tryz.ntmps51
  go_upto_region 1 with fail
  refine wp_region_held_drew (S := fun w' => w'.heap[vb]? = some (.cells (volC jb mb) 143 (0, 0))) (by kernel_rfl) HBV.out (fun hHeld => ?_)
  have hL := Lib.hid (LJ.refl w).drew
  refine tkS 0 hHeld ?_
  refine tkS 1 hHeld ?_
  refine tkS 2 hHeld ?_
  refine tkS 3 hHeld ?_
  refine tkS 4 hHeld ?_ (hy := by intro w hSw; have l1 : w.cell? ⟨vb, 1, none⟩ = some (.map (some mb)) := cell_blk hSw 1; go_simp; (try with_reducible rfl))
  refine tkS 6 hHeld ?_
  refine tkS 7 hHeld ?_
  refine tkS 8 hHeld ?_
  refine tkS 9 hHeld ?_ (hy := by intro w hSw; have l1 : w.cell? ⟨vb, 2, none⟩ = some (.bool false) := cell_blk hSw 2; go_simp; (try with_reducible rfl))
  refine wpAnyH_ready (rs := [5]) (by kernel_rfl) (by simp) ?_
  refine AllReadyH.cons rfl (fun KK hK => ?_) AllReadyH.nil
  go_simp
  (with_reducible refine (HCL.out _ hL.out).mono ?_); rintro e wx ⟨rfl, hm, hx⟩
  have HS1 := Lib.hid (Below.size hL.out)
  obtain ⟨mb', hmb⟩ : ∃ m, (World.drew w).heap.size = m := ⟨_, rfl⟩
  rw [hmb] at hm
  have HMB := Lib.hid hmb
  have HM := Lib.hid hm
  have hL := Lib.hid (hL.out.trans hx)
  have hS2 := hx.block hHeld
  clear hx hm
  refine hK.out _ _ hS2 (fun hHeld => ?_)
  clear hK KK hS2
  refine tkS 10 hHeld ?_
  refine wpAnyH_ready (rs := [11]) (by kernel_rfl) (by simp) ?_
  refine AllReadyH.cons rfl (fun KK hK => ?_) AllReadyH.nil
  go_simp
  obtain ⟨w2, hw2⟩ : ∃ W, wx.alloc (.cells #[.pointer (some ⟨k, 0, none⟩), .map (some mb'), .bool false] 143) = W := ⟨_, rfl⟩
  have HB2 := Lib.hid (show w2.heap[wx.heap.size]? = some (.cells (volC k mb') 143 (0, 0)) from by rw [← hw2]; exact alloc_blk wx _)
  have HL2 := Lib.hid (show LJ wx w2 from by rw [← hw2]; exact (LJ.refl wx).alloc _)
  rw [hw2]
  have hS3 := HL2.out.block hHeld
  clear hw2
  refine hK.out _ _ hS3 (fun hHeld => ?_)
  clear hK KK hS3
  refine tkS 12 hHeld ?_
  refine wpAnyH_done (by kernel_rfl) ?_ _
  go_simp
  go_wp2_with fail
  go_ret
  have h1 := Below.size hL.out
  have h2 : w.heap.size ≤ (World.drew w).heap.size := Below.size (LJ.refl w).drew
  exact ⟨wx.heap.size, mb', rfl, HB2.out, HM.out.later HL2.out, by have := HMB.out; omega, h1, hL.out.trans HL2.out⟩
/-- What the four Clones leave. -/
theorem vk_clones {w W : World} {K : Nat → Prop} {p b jb vb : Nat} {J : Jn} {l : List Ent} {B : Nat} (h : VK w W K p b jb vb J l B) :
    Calls Tryz.prog 16 #[.pointer (some ⟨p, 0, none⟩)] W fun e w1 => ∃ p', e = .returned (.pointer (some ⟨p', 0, none⟩)) ∧ LJ W w1 ∧
      ∀ W2, LJ w1 W2 → Calls Tryz.prog 17 #[.pointer (some ⟨b, 0, none⟩), .pointer (some ⟨p', 0, none⟩)] W2 fun e w3 => ∃ b', e = .returned (.pointer (some ⟨b', 0, none⟩)) ∧ LJ W2 w3 ∧
        ∀ W3, LJ w3 W3 → Calls Tryz.prog 18 #[.pointer (some ⟨jb, 0, none⟩), .pointer (some ⟨b', 0, none⟩)] W3 fun e w4 => ∃ jb', e = .returned (.pointer (some ⟨jb', 0, none⟩)) ∧ LJ W3 w4 ∧
          ∀ W4, LJ w4 W4 → Calls Tryz.prog 51 #[.pointer (some ⟨vb, 0, none⟩), .pointer (some ⟨jb', 0, none⟩)] W4 fun e w5 => ∃ vb', e = .returned (.pointer (some ⟨vb', 0, none⟩)) ∧ LJ W4 w5 ∧ VK W w5 (fun _ => False) p' b' jb' vb' J l B := by
  have hbd := h.bd
  obtain ⟨FV, hv, -⟩ := id h
  have hvj := hv.vj
  obtain ⟨mv, hvc⟩ := hv.vc
  obtain ⟨mb0, F, h1, -⟩ := hv
  obtain ⟨a, rfl, rfl, rfl, e4, e5, dt, hc, hok, hdt⟩ := h1
  obtain ⟨safe, U, cv, misses, ks, hd⟩ := hc.dev
  refine (dclone_any W a.p a.g a.mb a.n safe U hd.disk).mono ?_
  rintro e w1 ⟨p', g', mb', rfl, hdk, hge, hlt, hl1⟩
  refine ⟨p', rfl, hl1, fun W2 hl2 => ?_⟩
  have hl12 := hl1.trans hl2
  obtain ⟨ao, cap, rfl⟩ : ∃ ao cap, cv = .slice ao ks.length cap := by
    rcases hd.cache with ⟨e, e2⟩ | ⟨g, off, cap, e, _⟩
    · exact ⟨none, 0, by rw [e, e2]; rfl⟩
    · exact ⟨_, cap, e⟩
  refine (vclone_any W2 a.p a.b a.n a.cached ao ks.length cap misses ks p' (hl12.block hd.cells) (fun W' hW => kclone_all W' a.R F _ ks (vcache_later hd.cache (hl12.trans hW)) hd.len)).mono ?_
  rintro e w3 ⟨v, rfl, hb, hown, hl3⟩
  refine ⟨W2.heap.size, rfl, hl3, fun W3 hl4 => ?_⟩
  obtain ⟨cnt, D, ⟨es, clock, m4, m5⟩, hm, hcn⟩ := hc.map
  have hl24 := hl12.trans (hl3.trans hl4)
  refine (jclone_any W3 a.b a.area J.head J.first J.next J.at' a.cm a.jb false cnt D (hl24.block hc.cells) ⟨es, clock, hl24.block m4, m5⟩ W2.heap.size).mono ?_
  rintro e w4 ⟨cm', rfl, hj, ho', c1, c2, hl5⟩
  have s2 := Below.size hl2
  refine ⟨W3.heap.size, rfl, hl5, fun W4 hl6 => ?_⟩
  have hjat : JAt w4 p' W2.heap.size W3.heap.size (since W w4) J := JAt.cloned (w1 := W2) (w2 := W3) hc hd hok hdt e4 e5 hl12 (hl3.trans hl4) hl5 (hdk.later hl2) hge ⟨by omega, by omega, by omega⟩ (hl4.block hb) (own_below hown hl4) hj ⟨cnt, D, ho', hm, hcn⟩ ⟨c1, c2⟩
  have hl46 := hl24.trans (hl5.trans hl6)
  refine (vvclone_any W4 vb a.jb mv l (hvc.later hl46) W3.heap.size).mono ?_
  rintro e w5 ⟨vb', m5', rfl, hb5, hm5, g1, g2, hl7⟩
  have t1 := Below.size hl24
  have t2 := Below.size hl5
  have t3 := Below.size hl6
  have t4 := Below.size hl7
  have t5 := hm5.lt
  have t6 := lt_blk hb5
  refine ⟨vb', rfl, hl7, fun q => W.heap.size ≤ q ∧ q < w5.heap.size, ⟨m5', since W w4, hjat.later (hl6.trans hl7), hb5, hm5, fun e => by have := e.2; omega, fun e => by have := e.2; omega, ?_, fun q hq => hq.2, hvj⟩, fun q hq => hq.1, fun q hq => hq.elim, hl46.trans hl7, hbd⟩
  rintro q (hq | rfl | rfl)
  · exact ⟨hq.1, by have := hq.2; omega⟩
  · exact ⟨by omega, t6⟩
  · exact ⟨by omega, t5⟩
theorem vy_entries {W : World} {p b jb vb : Nat} {F : Nat → Prop} {J : Jn} {l : List Ent} (h : VAt W p b jb vb F J l) :
    Calls Tryz.prog 33 #[.pointer (some ⟨vb, 0, none⟩)] W fun e w' => ∃ a cap, e = .returned (.slice a l.length cap) ∧ EntSl w' (.slice a l.length cap) l ∧ LJ W w' := by
  obtain ⟨mb, hvc⟩ := h.vc
  have hc := h.vj.count
  refine (ventries_any W vb jb mb l hvc h.vj.inv (by omega)).mono ?_
  rintro e w' ⟨a, cap, rfl, ho, hl⟩
  exact ⟨a, cap, rfl, own_ents ho, hl⟩
theorem vy_image {W : World} {p b jb vb : Nat} {F : Nat → Prop} {J : Jn} {l : List Ent} (h : VAt W p b jb vb F J l) :
    Calls Tryz.prog 26 #[.pointer (some ⟨p, 0, none⟩)] W fun e w' => e = .returned (.string ⟨(imgV J.n J.V).toArray⟩) ∧ LJ W w' := by
  obtain ⟨mb, FJ, hj, -⟩ := h
  obtain ⟨a, rfl, rfl, rfl, e4, e5, dt, hc, hok, hdt⟩ := hj
  obtain ⟨safe, U, cv, misses, ks, hd⟩ := hc.dev
  refine (dimage_any W a.p a.g a.mb a.n safe U hd.disk hd.keys).mono ?_
  rintro e w' ⟨rfl, hl⟩
  rw [imgV_congr (V' := J.V) (fun i hi => (hd.views i hi).1), e4]
  exact ⟨rfl, hl⟩
/-- What a script leaves: the journal and the entries. -/
def runJ (J : Jn) (l : List Ent) : List OpV → Jn × List Ent
  | [] => (J, l)
  | x :: r => runJ (J.ans l (doE J.room' l x.kd x.a x.b x.P x.Q)) (doE J.room' l x.kd x.a x.b x.P x.Q).2 r
theorem runJ_snoc : ∀ (s : List OpV) (J : Jn) (l : List Ent) (x : OpV), runJ J l (s ++ [x]) = ((runJ J l s).1.ans (runJ J l s).2 (doE (runJ J l s).1.room' (runJ J l s).2 x.kd x.a x.b x.P x.Q), (doE (runJ J l s).1.room' (runJ J l s).2 x.kd x.a x.b x.P x.Q).2)
  | [], J, l, x => rfl
  | y :: r, J, l, x => by
    show runJ _ _ (r ++ [x]) = _
    rw [runJ_snoc r]
    rfl
theorem runJ_take {s : List OpV} {J : Jn} {l : List Ent} {i : Nat} {x : OpV} (h : s[i]? = some x) : runJ J l (s.take (i + 1)) = ((runJ J l (s.take i)).1.ans (runJ J l (s.take i)).2 (doE (runJ J l (s.take i)).1.room' (runJ J l (s.take i)).2 x.kd x.a x.b x.P x.Q), (doE (runJ J l (s.take i)).1.room' (runJ J l (s.take i)).2 x.kd x.a x.b x.P x.Q).2) := by
  rw [List.take_add_one, h]
  exact runJ_snoc _ J l x
theorem KeptK.size {K : Nat → Prop} {W W' : World} (h : KeptK K W W') {s : Nat} (hs : 0 < s) (hs2 : s = W.heap.size) (hK : K (s - 1)) : s ≤ W'.heap.size := by
  have e := h _ hK
  have h2 : W.heap[s - 1]? = some (W.heap[s - 1]'(by omega)) := Array.getElem?_eq_getElem _
  rw [h2] at e
  have := (Array.getElem?_eq_some_iff.1 e).1
  omega
end Go.Proofs.YtfpbocjmlhcgiaaGreatDoor
/- The law VolumeClones. -/
namespace Go.Proofs.YtfpbocjmlhcgiaaGreatDoor
open Go.RowKit PJ Go.Maps

theorem vk_entries2 {w W : World} {K : Nat → Prop} {p b jb vb : Nat} {J : Jn} {l : List Ent} {B : Nat} (h : VK w W K p b jb vb J l B) :
    Calls Tryz.prog 33 #[.pointer (some ⟨vb, 0, none⟩)] W fun e w' => ∃ a cap, e = .returned (.slice a l.length cap) ∧ EntSl w' (.slice a l.length cap) l ∧ LJ W w' ∧ ∀ q, (Value.slice a l.length cap).ownBlock = some q → W.heap.size ≤ q ∧ q < w'.heap.size := by
  obtain ⟨F, h1, -⟩ := id h
  obtain ⟨mb, hvc⟩ := h1.vc
  have hc := h1.vj.count
  refine (ventries_any W vb jb mb l hvc h1.vj.inv (by omega)).mono ?_
  rintro e w' ⟨a, cap, rfl, ho, hl⟩
  refine ⟨a, cap, rfl, own_ents ho, hl, fun q hq => ?_⟩
  rcases ho.2 with ⟨e1, -⟩ | ⟨g, cap', cur, e1, e2, e3, -⟩
  · rw [e1] at hq; cases hq
  · rw [e1] at hq
    have hq' : g = q := Option.some.inj hq
    subst hq'
    exact ⟨e2, lt_blk e3⟩
set_option maxRecDepth 100000 in
set_option maxHeartbeats 16000000 in
theorem vclones_any (w : World) (c m k : Int) (hc : -9223372036854775808 ≤ c ∧ c ≤ 9223372036854775807) (hm : -9223372036854775808 ≤ m ∧ m ≤ 9223372036854775807) (a : Option Addr) (n1 cap : Nat) (ops : List OpV) (hops : OpsAt w a n1 ops) (a2 : Option Addr) (n2 cap2 : Nat) (ops2 : List OpV) (hops2 : OpsAt w a2 n2 ops2) :
    Calls Tryz.prog 9 #[.agg #[.int .i64 c, .int .i64 m, .int .i64 k], .slice a n1 cap, .slice a2 n2 cap2] w fun e w' => e = .returned (.bool true) ∧ LJ w w' := by
  have hb1 := shC_bd c
  obtain ⟨hb2, hb3, hb4⟩ := shA_bd c m
  obtain ⟨area, har⟩ : ∃ area, shA c m = area := ⟨_, rfl⟩
  obtain ⟨n, hn⟩ : ∃ n, shA c m + shC c = n := ⟨_, rfl⟩
  obtain ⟨w1, hw1⟩ : ∃ w1, w.alloc (.cells #[.int .i64 c, .int .i64 m, .int .i64 k] 57) = w1 := ⟨_, rfl⟩
  obtain ⟨q3, hq3⟩ : ∃ q, w.heap.size = q := ⟨_, rfl⟩
  have HB1 := Lib.hid (show w1.heap[q3]? = some (.cells #[.int .i64 c, .int .i64 m, .int .i64 k] 57 (0, 0)) from by rw [← hw1, ← hq3]; exact alloc_blk w _)
  have HLA := Lib.hid (show LJ w w1 from by rw [← hw1]; exact (LJ.refl w).alloc _)
  have k0 : w1.cell? ⟨q3, 0, none⟩ = some (.int .i64 c) := cell_blk HB1.out 0
  have k1 : w1.cell? ⟨q3, 1, none⟩ = some (.int .i64 m) := cell_blk HB1.out 1
  have k2 : w1.cell? ⟨q3, 2, none⟩ = some (.int .i64 k) := cell_blk HB1.out 2
  have HSI := Lib.hid (lsizes_any w1 c m k hc hm)
  rw [hn, har] at HSI
  obtain ⟨z, hz⟩ : ∃ z, 128 * n = z := ⟨_, rfl⟩
  have hwr : IntKind.i64.wrap ((128 : Int) * (n : Int)) = (z : Int) := by rw [IntKind.wrap_i64]; omega
  have HNO := Lib.hid (fun W => lnoughts17_any W z (by omega))
  obtain ⟨Z, hZ⟩ : ∃ Z : ByteArray, (⟨(zs z).toArray⟩ : ByteArray) = Z := ⟨_, rfl⟩
  rw [hZ] at HNO
  have hZs : Z.size = 128 * n := by rw [← hZ, hz]; show (zs z).toArray.size = z; simp [zs]
  have HDN := Lib.hid (fun W => dnew_any Z W n (by omega) (by omega) hZs)
  have HBN := Lib.hid (fun W p g mb safe hd => show Calls Tryz.prog 13 #[.pointer (some ⟨p, 0, none⟩), .int .i64 0, .int .i64 n, .int .i64 2] W fun e w' =>
      e = .returned (.tuple #[.pointer (some ⟨W.heap.size, 0, none⟩), .int .i64 0]) ∧ Below W.heap.size W w' ∧ w'.heap[W.heap.size]? = some (.cells (devCells p 0 n 2 (.slice none 0 0) 0) 105 (0, 0)) from
    bnew_any W p g mb n safe (fun _ => none) hd 0 n 2 (by omega) (by omega) (by omega))
  have HF := Lib.hid (fun W p b (hd : NewDev' w1 n 2 p b W) => show Calls Tryz.prog 14 #[.pointer (some ⟨b, 0, none⟩), .int .i64 area] W fun e w' =>
      ∃ jb, e = .returned (.tuple #[.pointer (some ⟨jb, 0, none⟩), .int .i64 0]) ∧ JAt w' p b jb (since w1 w') (J0 n area) ∧ LJ w1 w' from by
    obtain ⟨hl, g, mb, R, V, hd⟩ := hd
    have hsz := Below.size hl
    refine (format_any W p g mb b n 2 R _ V V false hd area (by omega) (by omega)).mono ?_
    rintro e w' ⟨jb, rfl, hj, ho⟩
    have hs2 := ho.size
    exact ⟨jb, rfl, hj.kept (Nat.le_refl _) (fun _ _ => rfl) (since_grow hsz hs2) (fun q hq => hq.2), ⟨ho.os.trans hl.os, ho.tape.trans hl.tape, ho.output.trans hl.output, by omega, fun q hq => (ho.block q (by omega) (fun e => by have := e.1; omega)).trans (Below.block hl q hq)⟩⟩)
  have HOP := Lib.hid (fun W p b jb (hj : JAt W p b jb (since w1 W) (J0 n area)) (hl : LJ w1 W) => show Calls Tryz.prog 50 #[.pointer (some ⟨jb, 0, none⟩)] W fun e w' => ∃ vb, e = .returned (.tuple #[.pointer (some ⟨vb, 0, none⟩), .int .i64 0]) ∧ VK w1 w' (fun _ => False) p b jb vb (J0 n area) [] 3 from by
    refine (vopen_any W p b jb _ (J0 n area) [] hj (J0_vj (by omega) (by omega) (by omega) (by omega) hj.ok)).mono ?_
    rintro e w' ⟨vb, rfl, hv, ho, hge⟩
    have s1 := Below.size hl
    refine ⟨vb, rfl, _, hv, ?_, fun q hq => hq.elim, hl.only ho (fun q hq => hq.1), by show 2 ≤ 3; omega, by show 1 ≤ 3; omega⟩
    rintro q (hq | hq)
    · exact hq.1
    · omega)
  have HFX := Lib.hid (fun W => fixed17_any W)
  have hn6 := hops.2.1
  have hn7 := hops2.2.1
  have HOPS := Lib.hid hops
  have HOPS2 := Lib.hid hops2
  obtain ⟨J0', hJ0⟩ : ∃ x, J0 n area = x := ⟨_, rfl⟩
  rw [hJ0] at HF HOP
  have HW1 := Lib.hid hw1
  have HQ := Lib.hid hq3
  clear hZ hZs hz hc hm hn har hw1 hq3 hb1 hb2 hb3 hb4 hops hops2 hJ0
  go_enter Tryz.func9, Tryz.ntmps9
  go_upto_region 1 with fail
  rw [HW1.out, HQ.out]
  go_upto_region 3 with (first
    | (go_at_call 48; (with_reducible refine HSI.out.mono ?_); rintro e wa ⟨rfl, hl2⟩; have HL0 := Lib.hid hl2; have HNO2 := Lib.hid (HNO.out wa); clear hl2)
    | (go_at_call 49; (with_reducible refine HNO2.out.mono ?_); rintro e wb ⟨rfl, hl1⟩; have HL1 := Lib.hid (HL0.out.trans hl1); clear hl1)
    | (go_at_call 11; (with_reducible refine (HDN.out _).mono ?_); rintro e w2 ⟨rfl, hd2, hl2⟩; have HD2 := Lib.hid hd2; have HL2 := Lib.hid hl2; clear hd2 hl2)
    | fail)
  have hd2 := HD2.out
  have hlt := hd2
  obtain ⟨-, -, -, dcap, cnt, ch, D, hpc, -, -, -, hgl, -, -, ⟨es, ck, hmm, -⟩, -⟩ := hlt
  have hpl := lt_blk hpc
  have hml := lt_blk hmm
  have HB := Lib.hid (HBN.out w2 _ _ _ _ hd2)
  have HND := Lib.hid (fun w3 hl3 hb3 => NewDev'.born (c := 2) (w3 := w3) (by omega) HL1.out HL2.out hd2 (by omega) (Nat.le_refl _) (by omega) hpl hgl hml hl3 hb3)
  clear hd2 hpc hmm hpl hml hgl k0 k1 k2
  go_wp2_with (first
    | (go_at_call 13; (with_reducible refine HB.out.mono ?_); rintro e w3 ⟨rfl, hl3, hb3⟩; have HF3 := Lib.hid (HF.out w3 _ _ (HND.out w3 hl3 hb3)); clear hl3 hb3)
    | (go_at_call 14; (with_reducible refine HF3.out.mono ?_); rintro e w4 ⟨jb, rfl, hj4, hl4⟩; have HO4 := Lib.hid (HOP.out w4 _ _ jb hj4 hl4); clear hj4 hl4)
    | (go_at_call 50; (with_reducible refine HO4.out.mono ?_); rintro e w5 ⟨vb, rfl, h1⟩; have H0 := Lib.hid h1; clear h1)
    | fail)
  obtain ⟨p, hp⟩ : ∃ p, wb.heap.size + 1 + 1 = p := ⟨_, rfl⟩
  obtain ⟨b, hb⟩ : ∃ b, w2.heap.size = b := ⟨_, rfl⟩
  rw [hp, hb] at H0 ⊢
  clear hp hb
  go_loopw [16] (fun v16 wr => ∃ (i : Nat) (J : Jn) (l : List Ent), i ≤ n1 ∧ v16 = .int .i64 (i : Int) ∧ Hid (VK w1 wr (fun _ => False) p b jb vb J l (3 + i))) (fun v16 _ => n1 - (intOf v16).toNat)
  case atStart => exact ⟨0, J0', [], by omega, rfl, H0⟩
  case round =>
    obtain ⟨i, J, l, hi, rfl, HV⟩ := hrel
    by_cases hlt : i < n1
    case pos =>
      have hin : (i : Int) < (n1 : Int) := by omega
      have hwi : IntKind.i64.wrap ((i : Int) + 1) = (i : Int) + 1 := by rw [IntKind.wrap_i64]; omega
      obtain ⟨o1, o2, o3, o4⟩ := HOPS.out
      obtain ⟨x, hx⟩ : ∃ x, ops[i]? = some x := ⟨_, List.getElem?_eq_getElem (by omega)⟩
      have hok := o3 x (List.mem_of_getElem? hx)
      obtain ⟨g, o, rfl, hcs⟩ := o4.resolve_left (by omega)
      obtain ⟨c0, c1, c2, c3, c4, c5, c6⟩ := (hcs i x hx).later (HLA.out.trans HV.out.lj)
      obtain ⟨xon, xkd, xa, xb, xP, xQ, xca, xcn, xcc⟩ := x
      have HDO := Lib.hid (ldoes_any HV.out (by omega) xon xkd xa xb xP xQ xca xcn xcc hok.P hok.Q)
      clear o1 o2 o3 o4 hx hok hcs
      go_wp2_with (first
        | (go_at_call 32; (with_reducible refine HDO.out.mono ?_); rintro e w3 ⟨rfl, h3, -⟩; have HV3 := Lib.hid h3; clear h3)
        | fail)
      go_roundw
      case rel => exact ⟨i + 1, _, _, by omega, by simp, HV3⟩
      case measure => simp [intOf]; omega
    case neg =>
    have hie : i = n1 := by omega
    subst hie
    have hin : ¬ (i : Int) < (i : Int) := by omega
    obtain ⟨W, hWr⟩ : ∃ W, W = wr := ⟨_, rfl⟩
    rw [← hWr] at HV ⊢
    clear hWr
    have hcnt := HV.out.vj.count
    have HCL := Lib.hid (vk_clones HV.out)
    obtain ⟨FR, hFR⟩ : ∃ x, J.room' - (imageE l).length = x := ⟨_, rfl⟩
    have HFE := Lib.hid (fun w0 W' K p b jb vb (h : VK w0 W' K p b jb vb J l (3 + i)) => show Calls Tryz.prog 45 #[.pointer (some ⟨vb, 0, none⟩)] W' fun e w' => e = .returned (.int .i64 (FR : Int)) ∧ LJ W' w' from by have h3 := vk_free h; rw [hFR] at h3; exact h3)
    have HSM := Lib.hid (fun W v1 v2 h1 h2 => esame_any W v1 v2 l (by omega) h1 h2)
    have HEN := Lib.hid (fun w0 W' K p b jb vb (h : VK w0 W' K p b jb vb J l (3 + i)) => vk_entries2 h)
    obtain ⟨nl, hnl⟩ : ∃ x, l.length = x := ⟨_, rfl⟩
    rw [hnl] at HEN
    clear hFR hcnt hnl
    have hfre : ((FR : Int) != (FR : Int)) = false := bne_self_eq_false _
    go_upto_region 28 with (first
      | (go_at_call 16; (with_reducible refine HCL.out.mono ?_); rintro e wc1 ⟨p', rfl, h1, h2⟩; have HC1 := Lib.hid h1; have HC2 := Lib.hid (h2 _ (LJ.refl _)); clear h1 h2)
      | (go_at_call 17; (with_reducible refine HC2.out.mono ?_); rintro e wc2 ⟨b', rfl, h1, h2⟩; have HC3 := Lib.hid (h2 _ (LJ.refl _)); clear h1 h2)
      | (go_at_call 18; (with_reducible refine HC3.out.mono ?_); rintro e wc3 ⟨jb', rfl, h1, h2⟩; have HC4 := Lib.hid (h2 _ (LJ.refl _)); clear h1 h2)
      | (go_at_call 51; (with_reducible refine HC4.out.mono ?_); rintro e wc4 ⟨vb', rfl, h1, h2⟩; have HY := Lib.hid h2; have HLY := Lib.hid h2.lj; clear h1 h2)
      | fail)
    have HX := Lib.hid (fun W' (hW : LJ W W') => show VK w1 W' (fun q => W.heap.size ≤ q ∧ q < W'.heap.size) p b jb vb J l (3 + i) from HV.out.more hW (fun q hq => .inr hq))
    go_upto_region 30 with (first
      | (go_at_call 33; first
          | ((with_reducible refine (HEN.out _ _ _ _ _ _ _ (HX.out _ (HLY.out.trans HL6.out))).mono ?_); rintro e w7 ⟨a7, cap7, rfl, h1, h2, -⟩; have HE7 := Lib.hid h1; have HE67 := Lib.hid (HE6.out.later h2); have HL7 := Lib.hid (HL6.out.trans h2); clear h1 h2)
          | ((with_reducible refine (HEN.out _ _ _ _ _ _ _ HY.out).mono ?_); rintro e w6 ⟨a6, cap6, rfl, h1, h2, -⟩; have HE6 := Lib.hid h1; have HL6 := Lib.hid h2; clear h1 h2))
      | (go_at_call 35; (with_reducible refine (HSM.out _ _ _ HE67.out HE7.out).mono ?_); rintro e w8 ⟨rfl, h1⟩; have HL8 := Lib.hid (HL7.out.trans h1); clear h1)
      | (go_at_call 45; first
          | ((with_reducible refine (HFE.out _ _ _ _ _ _ _ (HX.out _ (HLY.out.trans HL9.out))).mono ?_); rintro e wa ⟨rfl, h1⟩; have HLa := Lib.hid (HL9.out.trans h1); clear h1)
          | ((with_reducible refine (HFE.out _ _ _ _ _ _ _ (HY.out.later HL8.out)).mono ?_); rintro e w9 ⟨rfl, h1⟩; have HL9 := Lib.hid (HL8.out.trans h1); clear h1))
      | fail)
    have HENb := Lib.hid (HEN.out _ _ _ _ _ _ _ (HX.out _ (HLY.out.trans HLa.out)))
    go_upto_region 31 with (first
      | (go_at_call 33; (with_reducible refine HENb.out.mono ?_); rintro e wb ⟨ab, capb, rfl, h1, h2, h3⟩; have HEb := Lib.hid h1; have HLb := Lib.hid (HLa.out.trans h2); have HKb := Lib.hid (fun q hq => And.intro (Nat.le_trans (Below.size HLa.out) (h3 q hq).1) (h3 q hq).2); clear h1 h2 h3)
      | fail)
    have HYb := Lib.hid (show VK W wb (fun q => (Value.slice ab nl capb).ownBlock = some q) p' b' jb' vb' J l (3 + i) from HY.out.more HLb.out (fun q hq => .inr (HKb.out q hq)))
    have HL1W := Lib.hid (HLA.out.trans HV.out.lj)
    go_wp2_with fail
    go_loopw [22] (fun v22 wr => ∃ j : Nat, j ≤ n2 ∧ v22 = .int .i64 (j : Int) ∧ Hid (VK W wr (fun q => (Value.slice ab nl capb).ownBlock = some q) p' b' jb' vb' (runJ J l (ops2.take j)).1 (runJ J l (ops2.take j)).2 (3 + i + j)) ∧ Hid (EntSl wr (.slice ab nl capb) l)) (fun v22 _ => n2 - (intOf v22).toNat)
    case atStart => exact ⟨0, by omega, rfl, HYb, HEb⟩
    case round =>
      obtain ⟨j, hj, rfl, HVJ, HEJ⟩ := hrel
      by_cases hjl : j < n2
      case pos =>
        have hjn : (j : Int) < (n2 : Int) := by omega
        have hwj : IntKind.i64.wrap ((j : Int) + 1) = (j : Int) + 1 := by rw [IntKind.wrap_i64]; omega
        obtain ⟨o1, o2, o3, o4⟩ := HOPS2.out
        obtain ⟨x, hx⟩ : ∃ x, ops2[j]? = some x := ⟨_, List.getElem?_eq_getElem (by omega)⟩
        have hok := o3 x (List.mem_of_getElem? hx)
        obtain ⟨g, o, rfl, hcs⟩ := o4.resolve_left (by omega)
        obtain ⟨c0, c1, c2, c3, c4, c5, c6⟩ := (hcs j x hx).later (HL1W.out.trans HVJ.out.lj)
        have HTK := Lib.hid (runJ_take (J := J) (l := l) hx)
        obtain ⟨xon, xkd, xa, xb, xP, xQ, xca, xcn, xcc⟩ := x
        have HDO := Lib.hid (ldoes_any HVJ.out (by omega) xon xkd xa xb xP xQ xca xcn xcc hok.P hok.Q)
        clear o1 o2 o3 o4 hx hok hcs
        go_wp2_with (first
          | (go_at_call 32; (with_reducible refine HDO.out.mono ?_); rintro e w3 ⟨rfl, h3, h4⟩; have HV3 := Lib.hid h3; have HE3 := Lib.hid (HEJ.out.kept h4 (fun q hq => hq)); clear h3 h4)
          | fail)
        go_roundw
        case rel => exact ⟨j + 1, by omega, by simp, Lib.hid (by rw [HTK.out]; exact HV3.out), HE3⟩
        case measure => simp [intOf]; omega
      case neg =>
      have hje : j = n2 := by omega
      subst hje
      have hjn : ¬ (j : Int) < (j : Int) := by omega
      have htk : ops2.take j = ops2 := List.take_of_length_le (by have := HOPS2.out.1; omega)
      rw [htk] at HVJ
      clear htk
      obtain ⟨Wy, hWy⟩ : ∃ W, W = wr := ⟨_, rfl⟩
      rw [← hWy] at HVJ HEJ ⊢
      clear hWy
      have HLWy := Lib.hid HVJ.out.lj
      have HENy := Lib.hid (HEN.out _ _ _ _ _ _ _ (HX.out _ HLWy.out))
      go_upto_region 37 with (first
        | (go_at_call 33; (with_reducible refine HENy.out.mono ?_); rintro e wd ⟨ad, capd, rfl, h1, h2, -⟩; have HEd := Lib.hid h1; have HEJd := Lib.hid (HEJ.out.later h2); have HLd := Lib.hid h2; clear h1 h2)
        | (go_at_call 35; (with_reducible refine (HSM.out _ _ _ HEd.out HEJd.out).mono ?_); rintro e wz ⟨rfl, h1⟩; have HLz := Lib.hid (HLd.out.trans h1); clear h1)
        | fail)
      have HXz := Lib.hid (HX.out wz (HLWy.out.trans HLz.out))
      have HVZ := Lib.hid (HVJ.out.later HLz.out)
      go_wp2_with fail
      go_loopw [23] (fun v23 wr => ∃ j2 : Nat, j2 ≤ j ∧ v23 = .int .i64 (j2 : Int) ∧ Hid (VK w1 wr (fun q => W.heap.size ≤ q ∧ q < wz.heap.size) p b jb vb (runJ J l (ops2.take j2)).1 (runJ J l (ops2.take j2)).2 (3 + i + j2)) ∧ Hid (KeptK (fun q => W.heap.size ≤ q ∧ q < wz.heap.size) wz wr)) (fun v23 _ => j - (intOf v23).toNat)
      case atStart => exact ⟨0, by omega, rfl, HXz, Lib.hid (fun q hq => rfl)⟩
      case round =>
        obtain ⟨j2, hj2, rfl, HVX, HKX⟩ := hrel
        by_cases hj2l : j2 < j
        case pos =>
          have hjn : (j2 : Int) < (j : Int) := by omega
          have hwj : IntKind.i64.wrap ((j2 : Int) + 1) = (j2 : Int) + 1 := by rw [IntKind.wrap_i64]; omega
          obtain ⟨o1, o2, o3, o4⟩ := HOPS2.out
          obtain ⟨x, hx⟩ : ∃ x, ops2[j2]? = some x := ⟨_, List.getElem?_eq_getElem (by omega)⟩
          have hok := o3 x (List.mem_of_getElem? hx)
          obtain ⟨g, o, rfl, hcs⟩ := o4.resolve_left (by omega)
          obtain ⟨c0, c1, c2, c3, c4, c5, c6⟩ := (hcs j2 x hx).later (HLA.out.trans HVX.out.lj)
          have HTK := Lib.hid (runJ_take (J := J) (l := l) hx)
          obtain ⟨xon, xkd, xa, xb, xP, xQ, xca, xcn, xcc⟩ := x
          have HDO := Lib.hid (ldoes_any HVX.out (by omega) xon xkd xa xb xP xQ xca xcn xcc hok.P hok.Q)
          clear o1 o2 o3 o4 hx hok hcs
          go_wp2_with (first
            | (go_at_call 32; (with_reducible refine HDO.out.mono ?_); rintro e w3 ⟨rfl, h3, h4⟩; have HV3 := Lib.hid h3; have HK3 := Lib.hid (fun q hq => (h4 q hq).trans (HKX.out q hq)); clear h3 h4)
            | fail)
          go_roundw
          case rel => exact ⟨j2 + 1, by omega, by simp, Lib.hid (by rw [HTK.out]; exact HV3.out), HK3⟩
          case measure => simp [intOf]; omega
        case neg =>
        have hje : j2 = j := by omega
        subst hje
        have hjn : ¬ (j2 : Int) < (j2 : Int) := by omega
        have htk : ops2.take j2 = ops2 := List.take_of_length_le (by have := HOPS2.out.1; omega)
        rw [htk] at HVX
        clear htk
        have HYF := Lib.hid (show ∃ F, VAt wr p' b' jb' vb' F (runJ J l ops2).1 (runJ J l ops2).2 from by
          obtain ⟨F, h1, h2, h3, h4, h5⟩ := HVZ.out
          have hvb : vb' < wz.heap.size ∧ W.heap.size ≤ vb' := by
            obtain ⟨mb, FJ, g1, g2, g3, g4, g5, g6, g7, g8⟩ := h1
            exact ⟨lt_blk g2, h2 vb' (g6 vb' (.inr (.inl rfl)))⟩
          have hsz : wz.heap.size ≤ wr.heap.size := KeptK.size (K := fun q => W.heap.size ≤ q ∧ q < wz.heap.size) HKX.out (s := wz.heap.size) (by omega) rfl ⟨by omega, by omega⟩
          exact ⟨F, h1.kept hsz (fun q hq => HKX.out q ⟨h2 q hq, h1.lt q hq⟩) (fun _ h => h) (fun q hq => by have := h1.lt q hq; omega)⟩)
        obtain ⟨F, hYF⟩ := HYF.out
        have HYE := Lib.hid (vy_entries hYF)
        have HXE := Lib.hid (fun W' (hW : LJ wr W') => vk_entries2 (HVX.out.later hW))
        obtain ⟨JF, hJF⟩ : ∃ x, (runJ J l ops2).1 = x := ⟨_, rfl⟩
        obtain ⟨LF, hLF⟩ : ∃ x, (runJ J l ops2).2 = x := ⟨_, rfl⟩
        rw [hJF, hLF] at hYF HVX
        rw [hLF] at HYE HXE
        have hc2 := hYF.vj.count
        have HSF := Lib.hid (fun W v1 v2 h1 h2 => esame_any W v1 v2 LF (by omega) h1 h2)
        obtain ⟨IM, hIM⟩ : ∃ X : ByteArray, (⟨(imgV JF.n JF.V).toArray⟩ : ByteArray) = X := ⟨_, rfl⟩
        have HIX := Lib.hid (fun W' (hW : LJ wr W') => show Calls Tryz.prog 26 #[.pointer (some ⟨p, 0, none⟩)] W' fun e w' => e = .returned (.string IM) ∧ LJ W' w' from by rw [← hIM]; exact vk_image (HVX.out.later hW))
        have HIY := Lib.hid (fun W' (hW : LJ wr W') => show Calls Tryz.prog 26 #[.pointer (some ⟨p', 0, none⟩)] W' fun e w' => e = .returned (.string IM) ∧ LJ W' w' from by rw [← hIM]; exact vy_image (hYF.later hW))
        obtain ⟨nf, hnf⟩ : ∃ x, LF.length = x := ⟨_, rfl⟩
        rw [hnf] at HYE HXE
        have hime : (IM.toList == IM.toList) = true := beq_self_eq_true _
        clear hYF hJF hLF hIM hc2 hnf
        go_wp2_with (first
          | (go_at_call 33; first
              | ((with_reducible refine (HXE.out _ HLe.out).mono ?_); rintro e wf ⟨af, capf, rfl, h1, h2, -⟩; have HEf := Lib.hid h1; have HEef := Lib.hid (HEe.out.later h2); have HLf := Lib.hid (HLe.out.trans h2); clear h1 h2)
              | ((with_reducible refine HYE.out.mono ?_); rintro e we ⟨ae, cape, rfl, h1, h2⟩; have HEe := Lib.hid h1; have HLe := Lib.hid h2; clear h1 h2))
          | (go_at_call 35; (with_reducible refine (HSF.out _ _ _ HEef.out HEf.out).mono ?_); rintro e wg ⟨rfl, h1⟩; have HLg := Lib.hid (HLf.out.trans h1); clear h1)
          | (go_at_call 26; first
              | ((with_reducible refine (HIY.out _ HLh.out).mono ?_); rintro e wi ⟨rfl, h1⟩; have HLi := Lib.hid (HLh.out.trans h1); clear h1)
              | ((with_reducible refine (HIX.out _ HLg.out).mono ?_); rintro e wh ⟨rfl, h1⟩; have HLh := Lib.hid (HLg.out.trans h1); clear h1))
          | (go_at_call 30; (with_reducible refine (HFX.out _).mono ?_); rintro e wj ⟨rfl, h1⟩; have HLj := Lib.hid (HLi.out.trans h1); clear h1)
          | fail)
        go_ret
        exact ⟨rfl, HLA.out.trans (HVX.out.lj.trans HLj.out)⟩
theorem vclones_card (w : World) (c m k : Int) (hc : -9223372036854775808 ≤ c ∧ c ≤ 9223372036854775807) (hm : -9223372036854775808 ≤ m ∧ m ≤ 9223372036854775807) (a : Option Addr) (n cap : Nat) (ops : List OpV) (hops : OpsAt w a n ops) (a2 : Option Addr) (n2 cap2 : Nat) (ops2 : List OpV) (hops2 : OpsAt w a2 n2 ops2) :
    Calls Tryz.prog 9 #[.agg #[.int .i64 c, .int .i64 m, .int .i64 k], .slice a n cap, .slice a2 n2 cap2] w fun e w' => e = .returned (.bool true) ∧ Below w.heap.size w w' := vclones_any w c m k hc hm a n cap ops hops a2 n2 cap2 ops2 hops2
end Go.Proofs.YtfpbocjmlhcgiaaGreatDoor
