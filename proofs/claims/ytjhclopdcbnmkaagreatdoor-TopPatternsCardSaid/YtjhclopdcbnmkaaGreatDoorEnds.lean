/- The walk of the document's Ends. -/
import Derived.Test.YtjhclopdcbnmkaaGreatDoorHas
import Derived.Deep.RegionHeld3
set_option linter.unusedSimpArgs false
set_option linter.unusedVariables false
namespace Go.Proofs.YtjhclopdcbnmkaaGreatDoor
open Go.RowKit PX

section
variable {S : ByteArray} {p : Nat} {nds : List Nd} {X : Nat → Rx} {nb nc kb kc : Nat} {kk : List Nat} {n : Nat}
/-- What a call of Ends reads first. -/
theorem TabS.reads {F : Nat → Prop} {w : World} (h : TabS F w p S nds X nb nc kb kc kk) {q : Nat} (hq : kk[n]? = some q) :
    w.cell? ⟨p, 0, none⟩ = some (.string S) ∧ w.cell? ⟨p, 1, none⟩ = some (.slice (some ⟨nb, 0, none⟩) nds.length nc) ∧ w.cell? ⟨p, 2, none⟩ = some (.slice (some ⟨kb, 0, none⟩) nds.length kc) ∧
    w.cell? ⟨kb, n, none⟩ = some (.slice (some ⟨q, 0, none⟩) (S.size + 1) (S.size + 1)) :=
  ⟨by rw [cell_of_block h.top]; rfl, by rw [cell_of_block h.top]; rfl, by rw [cell_of_block h.top]; rfl, h.known n q hq⟩

set_option maxRecDepth 100000 in
set_option maxHeartbeats 1000000 in
/-- A row that is known. -/
theorem ends_known {F : Nat → Prop} {w : World} {a q g : Nat} {bs : List Bool} (hS : S.size ≤ 256) (hT : TabS F w p S nds X nb nc kb kc kk) (ha : a ≤ S.size) (hq : kk[n]? = some q) (hc : w.cell? ⟨q, a, none⟩ = some (.slice (some ⟨g, 0, none⟩) (S.size + 1) (S.size + 1))) :
    Calls Tryz.prog 42 #[.pointer (some ⟨p, 0, none⟩), .int .i64 n, .int .i64 a] w fun e w' => e = .returned (.slice (some ⟨g, 0, none⟩) (S.size + 1) (S.size + 1)) ∧ w' = w := by
  obtain ⟨c0, c1, c2, c3⟩ := hT.reads hq
  have hn : n < nds.length := by rw [← hT.len]; exact (List.getElem?_eq_some_iff.1 hq).1
  have hcaps := hT.caps
  unfold maxLen at hcaps
  obtain ⟨N, hN⟩ : ∃ N, nds.length = N := ⟨_, rfl⟩
  rw [hN] at c1 c2 hn hcaps
  have hnN : (n : Int) < N := by omega
  have haS : (a : Int) < (S.size : Int) + 1 := by omega
  have hmx : N ≤ 9223372036854775807 := by omega
  clear hN hT hcaps
  have hne := fun W a n c => run_neq_slice_nil_any (P := Tryz.prog) W 90 4 a n c 0 0 Tryz.underlying90
  go_enter Tryz.func42, Tryz.ntmps42
  go_wp2_with fail
  go_ret
  exact ⟨rfl, rfl⟩

/-- What a call of Ends has at hand when a row is made: the node's box, the new row. -/
structure EndW (F : Nat → Prop) (w w2 : World) (nd : Nd) (S : ByteArray) (p : Nat) (nds : List Nd) (X : Nat → Rx) (nb nc kb kc : Nat) (kk : List Nat) (xb go : Nat) : Prop where
  tab : TabS (fun q => F q ∨ q = go) w2 p S nds X nb nc kb kc kk
  box : w2.heap[xb]? = some (.cells nd.cells.toArray 122 (0, 0))
  row : OwnB w2 go (List.replicate (S.size + 1) false)
  later : Later w w2
  size : w.heap.size = xb ∧ go = xb + 1
  xk : xb ∉ kk
  gk : go ∉ kk
theorem endW {F : Nat → Prop} {w : World} (hT : TabS F w p S nds X nb nc kb kc kk) (nd : Nd) (ZB : Array Value) (hZ : ((List.replicate (S.size + 1) false).map Value.bool).toArray = ZB) :
    EndW F w ((w.alloc (.cells nd.cells.toArray 122)).alloc (.cells ZB 4)) nd S p nds X nb nc kb kc kk w.heap.size (w.heap.size + 1) := by
  have hl1 : Later w (w.alloc (.cells nd.cells.toArray 122)) := (Later.refl w).alloc _
  have hl2 : Later (w.alloc (.cells nd.cells.toArray 122)) ((w.alloc (.cells nd.cells.toArray 122)).alloc (.cells ZB 4)) := (Later.refl _).alloc _
  have hrow := alloc_block (w.alloc (.cells nd.cells.toArray 122)) (.cells ZB 4)
  rw [World.size_alloc, ← hZ] at hrow
  have hkk : ∀ q ∈ kk, q < w.heap.size := fun q hq => by
    obtain ⟨i, hi⟩ := List.getElem?_of_mem hq
    obtain ⟨cs, h1, -⟩ := hT.row i q hi
    exact lt_of_block h1
  refine ⟨hT.fresh (hl1.trans hl2) _ (by omega) (by simp), alloc_old (alloc_block w _) _, by rw [← hZ]; exact hrow, hl1.trans hl2, ⟨rfl, rfl⟩, fun h => by have := hkk _ h; omega, fun h => by have := hkk _ h; omega⟩
theorem TabS.nodeAt {F : Nat → Prop} {w : World} (h : TabS F w p S nds X nb nc kb kc kk) {nd : Nd} (hn : nds[n]? = some nd) :
    w.cell? ⟨nb, n * 9, none⟩ = some (.int .i64 nd.k) ∧ w.cell? ⟨nb, n * 9 + 1, none⟩ = some (.int .i64 nd.mn) ∧ w.cell? ⟨nb, n * 9 + 2, none⟩ = some (.int .i64 nd.mx) ∧ w.cell? ⟨nb, n * 9 + 3, none⟩ = some (.int .u64 nd.s0) ∧ w.cell? ⟨nb, n * 9 + 4, none⟩ = some (.int .u64 nd.s1) ∧
    w.cell? ⟨nb, n * 9 + 5, none⟩ = some (.int .u64 nd.s2) ∧ w.cell? ⟨nb, n * 9 + 6, none⟩ = some (.int .u64 nd.s3) ∧ w.cell? ⟨nb, n * 9 + 7, none⟩ = some (.slice nd.a nd.ln nd.cap) ∧ w.cell? ⟨nb, n * 9 + 8, none⟩ = some (.slice nd.la nd.kids.length nd.kc) := by
  have := h.node n nd hn
  exact ⟨this 0 (by omega), this 1 (by omega), this 2 (by omega), this 3 (by omega), this 4 (by omega), this 5 (by omega), this 6 (by omega), this 7 (by omega), this 8 (by omega)⟩

theorem TabS.slot {F : Nat → Prop} {w : World} {a q : Nat} (h : TabS F w p S nds X nb nc kb kc kk) (hq : kk[n]? = some q) (ha : a ≤ S.size) : ∃ v, w.cell? ⟨q, a, none⟩ = some v ∧ w.frozen? ⟨q, a, none⟩ = false := by
  obtain ⟨cs, h1, h2, -⟩ := h.row n q hq
  exact ⟨cs[a]'(by omega), by rw [cell_of_block h1]; exact Array.getElem?_eq_getElem (by omega), free_of_block h1 a⟩
/-- A row is whole, and made known. -/
theorem ends_fin {F : Nat → Prop} {w w3 : World} {a q go : Nat} {bs : List Bool} (hT : TabS (fun q => F q ∨ q = go) w3 p S nds X nb nc kb kc kk) (hon : Only (fun q => q ∈ kk) w w3) (hob : OwnB w3 go bs) (he : IsEnds (X n).lang S.data.toList a bs) (hgF : ¬ F go) (hgk : go ∉ kk)
    (hq : kk[n]? = some q) (ha : a ≤ S.size) : EndsPost S p nds X nb nc kb kc kk F n a w (.returned (.slice (some ⟨go, 0, none⟩) (S.size + 1) (S.size + 1))) (w3.setCell ⟨q, a, none⟩ (.slice (some ⟨go, 0, none⟩) (S.size + 1) (S.size + 1))) := by
  have hqk : q ∈ kk := List.mem_of_getElem? hq
  refine ⟨go, bs, rfl, hob.later ((Only.refl (fun x => x = q) w3).setCell (.inl rfl) _) (fun h => hgk (h ▸ hqk)), he, hT.store hq ha hob he hgk (fun _ h => .inl h) hgF, hon.setCell (.inl hqk) _, hgk, hgF⟩
/-- The row of a set. -/
theorem isEnds_set (s0 s1 s2 s3 : Int) (s : List UInt8) (a : Nat) (ha : a ≤ s.length) (r : Bool) (hr : r = true ↔ ∃ h : a < s.length, hasB s0 s1 s2 s3 s[a].toNat = true) :
    IsEnds (fun t => ∃ b : UInt8, t = [b] ∧ hasB s0 s1 s2 s3 b.toNat = true) s a (if r then (List.replicate (s.length + 1) false).set (a + 1) true else List.replicate (s.length + 1) false) := by
  have hone : ∀ k, k ≤ s.length → ((a ≤ k ∧ ∃ b : UInt8, sub s a k = [b] ∧ hasB s0 s1 s2 s3 b.toNat = true) ↔ k = a + 1 ∧ ∃ h : a < s.length, hasB s0 s1 s2 s3 s[a].toNat = true) := by
    intro k hk
    constructor
    · rintro ⟨hak, b, hb, hh⟩
      have hl := sub_len s a k hk
      rw [hb] at hl
      simp only [List.length_singleton] at hl
      obtain rfl : k = a + 1 := by omega
      have hal : a < s.length := by omega
      rw [sub_one s a hal] at hb
      cases hb
      exact ⟨rfl, hal, hh⟩
    · rintro ⟨rfl, h, hh⟩
      exact ⟨by omega, s[a], sub_one s a h, hh⟩
  cases r with
  | false =>
    refine ⟨by simp, fun k hk => ?_⟩
    rw [hone k hk]
    have hn : ¬ ∃ h : a < s.length, hasB s0 s1 s2 s3 s[a].toNat = true := fun h => by have := hr.2 h; cases this
    simp only [Bool.false_eq_true, if_false, List.getElem?_replicate]
    constructor
    · intro h; split at h <;> cases h
    · rintro ⟨-, h⟩; exact absurd h hn
  | true =>
    obtain ⟨h, hh⟩ := hr.1 rfl
    refine ⟨by simp, fun k hk => ?_⟩
    rw [hone k hk]
    simp only [if_true]
    rw [getElem?_set_iff (by simp; omega), List.getElem?_replicate]
    constructor
    · rintro (⟨h1, -⟩ | ⟨-, h2⟩)
      · exact ⟨h1, h, hh⟩
      · split at h2 <;> cases h2
    · rintro ⟨h1, -⟩; exact .inl ⟨h1, rfl⟩

set_option maxRecDepth 100000 in
set_option maxHeartbeats 2000000 in
theorem ends_set {F : Nat → Prop} {w : World} {a q : Nat} {nd : Nd} (hS : S.size ≤ 256) (hT : TabS F w p S nds X nb nc kb kc kk) (ha : a ≤ S.size) (hq : kk[n]? = some q) (hnd : nds[n]? = some nd) (hc : w.cell? ⟨q, a, none⟩ = some (.slice none 0 0)) (hk : nd.k = 0) :
    Calls Tryz.prog 42 #[.pointer (some ⟨p, 0, none⟩), .int .i64 n, .int .i64 a] w (EndsPost S p nds X nb nc kb kc kk F n a w) := by
  obtain ⟨c0, c1, c2, c3⟩ := hT.reads hq
  obtain ⟨d0, d1, d2, d3, d4, d5, d6, d7, d8⟩ := hT.nodeAt hnd
  have hn : n < nds.length := by rw [← hT.len]; exact (List.getElem?_eq_some_iff.1 hq).1
  have hcaps := hT.caps
  unfold maxLen at hcaps
  obtain ⟨ZB, hzb⟩ : ∃ ZB : Array Value, ((List.replicate (S.size + 1) false).map Value.bool).toArray = ZB := ⟨_, rfl⟩
  have hEW := endW hT nd ZB hzb
  obtain ⟨k, mn, mx, s0, s1, s2, s3, na, ln, cap, la, kcp, kids⟩ := nd
  simp only at d0 d1 d2 d3 d4 d5 d6 d7 d8 hk
  subst hk
  obtain ⟨W2, hW2⟩ : ∃ W2, (w.alloc (.cells (Nd.mk 0 mn mx s0 s1 s2 s3 na ln cap la kcp kids).cells.toArray 122)).alloc (.cells ZB 4) = W2 := ⟨_, rfl⟩
  rw [hW2] at hEW
  simp only [Nd.cells] at hW2
  obtain ⟨N, hN⟩ : ∃ N, nds.length = N := ⟨_, rfl⟩
  rw [hN] at c1 c2 hn hcaps
  have hnN : (n : Int) < N := by omega
  have haS : (a : Int) < (S.size : Int) + 1 := by omega
  have hmx : N ≤ 9223372036854775807 := by omega
  have hmk := fun W => make_bools W S.size (by omega)
  rw [hzb] at hmk
  have hne := fun W a n c => run_neq_slice_nil_any (P := Tryz.prog) W 90 4 a n c 0 0 Tryz.underlying90
  have HT := Lib.hid hT
  have HEW := Lib.hid hEW
  obtain ⟨m, hm⟩ : ∃ m, kids.length = m := ⟨_, rfl⟩
  rw [hm] at d8
  have HM := Lib.hid hm
  have c0a : (w.alloc (.cells #[.int .i64 0, .int .i64 mn, .int .i64 mx, .int .u64 s0, .int .u64 s1, .int .u64 s2, .int .u64 s3, .slice na ln cap, .slice la m kcp] 122)).cell? ⟨p, 0, none⟩ = some (.string S) := ((Later.refl w).alloc _).cell c0
  rw [hm] at hW2
  have HW2 := Lib.hid hW2
  have HQ := Lib.hid hq
  have HGOOD := Lib.hid (hT.good n _ hnd)
  have HN := Lib.hid hN
  have HLANG := Lib.hid (hT.lang n _ hnd).1
  clear hN hT hcaps hEW hW2 hnd hq hzb hm
  go_enter Tryz.func42, Tryz.ntmps42
  go_upto_region 5 with fail
  rw [HW2.out]
  clear c0a hmk HW2 c0 c1 c2 c3 d0 d1 d2 d3 d4 d5 d6 d7 d8 hc
  obtain ⟨hz, hz1⟩ := HEW.out.size
  obtain ⟨xb, hxb⟩ : ∃ xb, w.heap.size = xb := ⟨_, rfl⟩
  rw [hxb] at HEW ⊢
  have HXB := Lib.hid hxb; clear hxb hz hz1
  obtain ⟨e0, e1, e2, e3⟩ := HEW.out.tab.reads HQ.out
  have x0 := cell_of_block HEW.out.box 0
  have x3 := cell_of_block HEW.out.box 3
  have x4 := cell_of_block HEW.out.box 4
  have x5 := cell_of_block HEW.out.box 5
  have x6 := cell_of_block HEW.out.box 6
  simp only [Nd.cells, List.getElem?_toArray, List.getElem?_cons_zero, List.getElem?_cons_succ] at x0 x3 x4 x5 x6
  obtain ⟨hg0, hg1, hg2, hg3, hg4⟩ := HGOOD.out
  have HHAS := Lib.hid (fun w1 b hb => has_any w1 s0 s1 s2 s3 hg1 hg2 hg3 hg4 b hb)
  have HOW := Lib.hid HEW.out.row
  have hgF : ¬ F (xb + 1) := fun h => by
    have h1 := (HT.out.fill (xb + 1) h).1
    have h2 := HEW.out.size
    omega
  have HGF := Lib.hid hgF
  clear hg0 hg1 hg2 hg3 hg4 hgF
  have hlang := HLANG.out
  have HLEN := Lib.hid (ba_len S)
  by_cases haS2 : a < S.size
  · have haS3 : (a : Int) < S.size := by omega
    have haS4 : (a : Int) + 1 < (S.size : Int) + 1 := by omega
    have hbb : S[a].toNat < 256 := UInt8.toNat_lt _
    have hbw : IntKind.i64.wrap (S[a].toNat : Int) = (S[a].toNat : Int) := by rw [IntKind.wrap_i64]; omega
    have HBB := Lib.hid hbb
    have hcall := fun w1 => HHAS.out w1 _ hbb
    obtain ⟨r, hr⟩ : ∃ r, hasB s0 s1 s2 s3 S[a].toNat = r := ⟨_, rfl⟩
    rw [hr] at hcall
    have hie := isEnds_set s0 s1 s2 s3 S.data.toList a (by rw [HLEN.out]; exact ha) r (by
      rw [← hr]
      exact ⟨fun h => ⟨by rw [HLEN.out]; exact haS2, h⟩, fun ⟨_, h⟩ => h⟩)
    rw [HLEN.out] at hie
    have hXl : (X n).lang = fun t => ∃ b : UInt8, t = [b] ∧ hasB s0 s1 s2 s3 b.toNat = true := by rw [hlang]; funext t; simp [Rx.lang]
    rw [← hXl] at hie
    have HIE := Lib.hid hie
    have HCALL := Lib.hid hcall
    clear hlang hXl hie hcall hr
    go_upto_region 26 with fail
    go_region_held3 (fun w' => w'.cell? ⟨p, 0, none⟩ = some (.string S) ∧ w'.cell? ⟨xb, 3, none⟩ = some (.int .u64 s0) ∧ w'.cell? ⟨xb, 4, none⟩ = some (.int .u64 s1) ∧ w'.cell? ⟨xb, 5, none⟩ = some (.int .u64 s2) ∧ w'.cell? ⟨xb, 6, none⟩ = some (.int .u64 s3))
      (first | exact ⟨e0, x3, x4, x5, x6⟩ | exact ⟨hl3.drew.cell e0, hl3.drew.cell x3, hl3.drew.cell x4, hl3.drew.cell x5, hl3.drew.cell x6⟩)
      (first
        | (go_at_call 67; (with_reducible refine (HCALL.out _).mono ?_); rintro e w3 ⟨rfl, hl3⟩)
        | fail)
    have hl23 : Later W2 w3 := Later.trans (Later.refl W2).drew hl3
    have htab3 := HEW.out.tab.later hl23
    have hob3 := HOW.out.later (r := fun _ => False) (Only.of_below hl23) (fun h => h)
    have hon3 : Only (fun q => q ∈ kk) w w3 := Only.of_below (HEW.out.later.trans hl23)
    have HGK := Lib.hid HEW.out.gk
    have HT3 := Lib.hid htab3
    have HO3 := Lib.hid hob3
    have HN3 := Lib.hid hon3
    clear htab3 hob3 hon3 e0 e1 e2 e3 x0 x3 x4 x5 x6 hl3
    cases r with
    | false =>
      obtain ⟨e0, e1, e2, e3⟩ := HT3.out.reads HQ.out
      rw [HN.out] at e1 e2
      obtain ⟨v, ev, ef⟩ := HT3.out.slot HQ.out ha
      go_wp2_with fail
      go_ret
      exact ends_fin HT3.out HN3.out HO3.out HIE.out HGF.out HGK.out HQ.out ha
    | true =>
      have hrow : (List.replicate (S.size + 1) false)[a + 1]? = some false := by rw [List.getElem?_replicate, if_pos (by omega)]
      have rc := HO3.out.cell hrow
      have rf := HO3.out.free (a + 1)
      obtain ⟨w4, hw4⟩ : ∃ w4, w3.setCell ⟨xb + 1, a + 1, none⟩ (.bool true) = w4 := ⟨_, rfl⟩
      have hon4 : Only (fun q => q = xb + 1) w3 w4 := by rw [← hw4]; exact (Only.refl (fun q => q = xb + 1) w3).setCell (.inl rfl) _
      have hob4 := HO3.out.set (a + 1) true
      rw [hw4] at hob4
      have HW4 := Lib.hid hw4
      have HT4 := Lib.hid (HT3.out.only hon4 (fun q _ hq => .inr hq))
      have HO4 := Lib.hid hob4
      have hn4 : Only (fun q => q ∈ kk) w w4 := HN3.out.trans (hon4.mono (fun q hq h => .inr (by
        subst h; have := HXB.out; omega)))
      have HN4 := Lib.hid hn4
      clear hw4 hon4 hob4 hrow hn4
      go_upto_region 43 with fail
      rw [HW4.out]
      obtain ⟨e0, e1, e2, e3⟩ := HT4.out.reads HQ.out
      rw [HN.out] at e1 e2
      obtain ⟨v, ev, ef⟩ := HT4.out.slot HQ.out ha
      clear rc rf
      go_wp2_with fail
      go_ret
      exact ends_fin HT4.out HN4.out HO4.out HIE.out HGF.out HGK.out HQ.out ha
  · have haS3 : ¬ (a : Int) < S.size := by omega
    have hd : decide (a < S.size) = false := by simp; omega
    have hie := isEnds_set s0 s1 s2 s3 S.data.toList a (by rw [HLEN.out]; exact ha) false ⟨fun h => (by cases h), fun ⟨h, _⟩ => by rw [HLEN.out] at h; omega⟩
    rw [HLEN.out] at hie
    have hXl : (X n).lang = fun t => ∃ b : UInt8, t = [b] ∧ hasB s0 s1 s2 s3 b.toNat = true := by rw [hlang]; funext t; simp [Rx.lang]
    rw [← hXl] at hie
    have HIE := Lib.hid hie
    have HGK := Lib.hid HEW.out.gk
    clear hlang hXl hie
    go_upto_region 26 with fail
    go_quiet (fail)
    have hl3 : Later W2 (W2.drewN nq) := (Later.refl W2).drewN nq
    obtain ⟨w3, hw3⟩ : ∃ w3, W2.drewN nq = w3 := ⟨_, rfl⟩
    rw [hw3] at hl3 ⊢
    have HT3 := Lib.hid (HEW.out.tab.later hl3)
    have HO3 := Lib.hid (HOW.out.later (r := fun _ => False) (Only.of_below hl3) (fun h => h))
    have HN3 : Hid (Only (fun q => q ∈ kk) w w3) := Lib.hid (Only.of_below (HEW.out.later.trans hl3))
    clear hw3 hl3 e0 e1 e2 e3 x0 x3 x4 x5 x6
    obtain ⟨e0, e1, e2, e3⟩ := HT3.out.reads HQ.out
    rw [HN.out] at e1 e2
    obtain ⟨v, ev, ef⟩ := HT3.out.slot HQ.out ha
    go_wp2_with fail
    go_ret
    exact ends_fin HT3.out HN3.out HO3.out HIE.out HGF.out HGK.out HQ.out ha
end
end Go.Proofs.YtjhclopdcbnmkaaGreatDoor
