/- Ag3, merged: AU13 AU14 AU15. -/
import Derived.Test.YtfpbocjmlhcgiaaGreatDoorAU7
import Derived.Test.YtfpbocjmlhcgiaaGreatDoorJg18
import Derived.Test.YtfpbocjmlhcgiaaGreatDoorJ83
import Derived.Test.YtfpbocjmlhcgiaaGreatDoorAg2
set_option linter.unusedSimpArgs false
set_option linter.unusedVariables false
/- An audit among other things in memory. -/
namespace Go.Proofs.YtfpbocjmlhcgiaaGreatDoor
open Go.RowKit PJ Go.Maps

/-- A new device over a journal's disk. -/
theorem DevAt.again {w w1 : World} {p b jb : Nat} {F : Nat → Prop} {J : Jn} (h : JAt w p b jb F J) {cached : Nat} (hl : LJ w w1) (hb : w1.heap[w.heap.size]? = some (.cells (devCells p 0 J.n cached (.slice none 0 0) 0) 105 (0, 0))) (hca : cached ≤ 16) :
    ∃ g mb R dt, DevAt w1 p g mb w.heap.size J.n cached R (grow F w w1) J.V J.S dt ∧ (J.first = J.next → dt = false) := by
  have hF := h.lt
  have hs := Below.size hl
  have lb := lt_blk hb
  obtain ⟨a, rfl, rfl, rfl, h4, h5, dt, hc, hok, hdt⟩ := h
  obtain ⟨safe, U, cv, misses, xs, hd⟩ := hc.dev
  have lp := hF _ (hd.sub _ hd.rp)
  have lg := hF _ (hd.sub _ hd.rg)
  have lm := hF _ (hd.sub _ hd.rm)
  have hdk := hd.disk.later hl
  have hk := hd.keys
  have hv := hd.views
  rw [h4] at hdk hk hv
  refine ⟨a.g, a.mb, fun q => q = a.p ∨ q = a.g ∨ q = a.mb ∨ q = w.heap.size, dt, ⟨safe, U, .slice none 0 0, 0, [], hdk, hb, .inl ⟨rfl, rfl⟩, by simp, hca, hk, hv, hd.clean, (fun k hk => by cases hk), ?_, grow_lt hF hs, .inl rfl, .inr (.inl rfl), .inr (.inr (.inl rfl)), .inr (.inr (.inr rfl)), by omega, by omega, by omega⟩, hdt⟩
  rintro q (rfl | rfl | rfl | rfl)
  · exact .inl (hd.sub _ hd.rp)
  · exact .inl (hd.sub _ hd.rg)
  · exact .inl (hd.sub _ hd.rm)
  · exact .inr ⟨Nat.le_refl _, lb⟩
theorem DevAt.one {w : World} {p g mb b n cached : Nat} {R F : Nat → Prop} {V S : View} (h : DevAt w p g mb b n cached R F V S false) : DevAt w p g mb b n cached R F V V false := by
  obtain ⟨safe, U, cv, misses, xs, h⟩ := h
  refine ⟨safe, U, cv, misses, xs, ⟨h.disk, h.cells, h.cache, h.len, h.ca, h.keys, fun i hi => ⟨(h.views i hi).1, ?_⟩, h.clean, h.kept, h.sub, h.lt, h.rp, h.rg, h.rm, h.rb, h.bp, h.bg, h.bm⟩⟩
  rw [← (h.views i hi).1]
  unfold secT
  rw [h.clean rfl]
  rfl
theorem Jn.home_cell {J : Jn} (h : J.OK) {c : Nat} (hc : c < J.n - J.area) : J.home.cell c = J.cell c := by
  have h1 := read_at (J := J.home) (c := c) hc
  rw [Jn.read_home h, read_at hc] at h1
  exact (Option.some.inj h1).symm
theorem AuC.of {J J' : Jn} {xs : List Rec} (h : AuC J xs) (hn : J'.n = J.n) (ha : J'.area = J.area) (hc : ∀ c, c < J.n - J.area → J'.cell c = J.cell c) : AuC J' xs := by
  refine ⟨by rw [hn, ha]; exact h.len, fun i x hi => ?_, fun i h1 h2 => ?_, h.ok⟩
  · have := (List.getElem?_eq_some_iff.1 hi).1
    have := h.len
    rw [hc i (by omega)]
    exact h.cell i x hi
  · rw [hn, ha] at h2
    rw [hc i h2]
    exact h.none i h1 h2
/-- An audit that was laid since w; the blocks K are others'; B bounds the journal's numbers. -/
structure AK (w W : World) (K : Nat → Prop) (p b jb : Nat) (J : Jn) (A : Nat) (xs : List Rec) (B : Nat) : Prop where
  ex : ∃ V F, JAt W p b jb F J ∧ AudB W A jb xs V ∧ ¬ F A ∧ (∀ q, V.ownBlock = some q → ¬ F q) ∧ (∀ q, F q → w.heap.size ≤ q) ∧ (∀ q, K q → ¬ F q ∧ q ≠ A ∧ V.ownBlock ≠ some q ∧ q < W.heap.size)
  wA : w.heap.size ≤ A
  lj : LJ w W
  auc : AuC J xs
  whole : ∃ L, J.Whole L
  hB : J.head ≤ B ∧ J.next ≤ B
theorem AK.later {w W W' : World} {K : Nat → Prop} {p b jb : Nat} {J : Jn} {A : Nat} {xs : List Rec} {B : Nat} (h : AK w W K p b jb J A xs B) (hl : LJ W W') : AK w W' K p b jb J A xs B := by
  obtain ⟨V, F, h1, h2, h3, h4, h5, h6⟩ := h.ex
  have hs := Below.size hl
  exact ⟨⟨V, F, h1.later hl, h2.later hl, h3, h4, h5, fun q hq => ⟨(h6 q hq).1, (h6 q hq).2.1, (h6 q hq).2.2.1, by have := (h6 q hq).2.2.2; omega⟩⟩, h.wA, h.lj.trans hl, h.auc, h.whole, h.hB⟩
theorem AK.kept {w W W' : World} {K : Nat → Prop} {p b jb : Nat} {J : Jn} {A : Nat} {xs : List Rec} {B : Nat} (h : AK w W K p b jb J A xs B) (hl : LJ W W') : KeptK K W W' := by
  obtain ⟨V, F, h1, h2, h3, h4, h5, h6⟩ := h.ex
  exact fun q hq => Below.block hl q (h6 q hq).2.2.2
theorem AK.ok {w W : World} {K : Nat → Prop} {p b jb : Nat} {J : Jn} {A : Nat} {xs : List Rec} {B : Nat} (h : AK w W K p b jb J A xs B) : J.OK := by
  obtain ⟨V, F, h1, h2, h3, h4, h5, h6⟩ := h.ex
  exact h1.ok
/-- Others' blocks that have come since. -/
theorem AK.more {w W W' : World} {K K' : Nat → Prop} {p b jb : Nat} {J : Jn} {A : Nat} {xs : List Rec} {B : Nat} (h : AK w W K p b jb J A xs B) (hl : LJ W W') (hK : ∀ q, K' q → K q ∨ (W.heap.size ≤ q ∧ q < W'.heap.size)) : AK w W' K' p b jb J A xs B := by
  obtain ⟨V, F, h1, h2, h3, h4, h5, h6⟩ := h.ex
  have hs := Below.size hl
  have hA := lt_blk h2.blk
  refine ⟨⟨V, F, h1.later hl, h2.later hl, h3, h4, h5, fun q hq => ?_⟩, h.wA, h.lj.trans hl, h.auc, h.whole, h.hB⟩
  rcases hK q hq with hq | hq
  · exact ⟨(h6 q hq).1, (h6 q hq).2.1, (h6 q hq).2.2.1, by have := (h6 q hq).2.2.2; omega⟩
  · exact ⟨fun e => by have := h1.lt q e; omega, by omega, fun e => by have := (h2.row.lt q e).2; omega, hq.2⟩
/-- Others' blocks written, or new ones. -/
theorem AK.beside {w W W' : World} {K K' r : Nat → Prop} {p b jb : Nat} {J : Jn} {A : Nat} {xs : List Rec} {B : Nat} (h : AK w W K p b jb J A xs B) (ho : OnlyJ r W W') (hr : ∀ q, r q → q < W.heap.size → K q ∧ w.heap.size ≤ q) (hK : ∀ q, K' q → K q ∨ (W.heap.size ≤ q ∧ q < W'.heap.size)) : AK w W' K' p b jb J A xs B := by
  obtain ⟨V, F, h1, h2, h3, h4, h5, h6⟩ := h.ex
  have hs := ho.size
  have hw := Below.size h.lj
  have hA := lt_blk h2.blk
  have hn : ∀ q, q < W.heap.size → ¬ K q → W'.heap[q]? = W.heap[q]? := fun q hq hk => ho.block q hq (fun e => hk (hr q e hq).1)
  refine ⟨⟨V, F, h1.kept hs (fun k hk => hn k (h1.lt k hk) (fun e => (h6 k e).1 hk)) (fun _ h => h) (fun q hq => by have := h1.lt q hq; omega), ⟨(hn A hA (fun e => (h6 A e).2.1 rfl)).trans h2.blk, ?_, h2.va⟩, h3, h4, h5, fun q hq => ?_⟩, h.wA, ?_, h.auc, h.whole, h.hB⟩
  · rcases h2.row with ⟨h0, h | ⟨g, cap, cur, e1, e2, e3, e4⟩⟩
    · exact ⟨h0, .inl h⟩
    · exact ⟨h0, .inr ⟨g, cap, cur, e1, e2, (hn g (lt_blk e3) (fun e => (h6 g e).2.2.1 (by rw [e1]; rfl))).trans e3, e4⟩⟩
  · rcases hK q hq with hq | hq
    · exact ⟨(h6 q hq).1, (h6 q hq).2.1, (h6 q hq).2.2.1, by have := (h6 q hq).2.2.2; omega⟩
    · exact ⟨fun e => by have := h1.lt q e; omega, by omega, fun e => by have := (h2.row.lt q e).2; omega, hq.2⟩
  · exact ⟨ho.os.trans h.lj.os, ho.tape.trans h.lj.tape, ho.output.trans h.lj.output, by omega, fun q hq => (ho.block q (by omega) (fun e => by have := (hr q e (by omega)).2; omega)).trans (Below.block h.lj q hq)⟩
theorem near_ge {w W : World} {F F' : Nat → Prop} (hn : Near W F F') (hF : ∀ q, F q → w.heap.size ≤ q) (hw : w.heap.size ≤ W.heap.size) : ∀ q, F' q → w.heap.size ≤ q := fun q hq => by
  rcases Nat.lt_or_ge q W.heap.size with h | h
  · exact hF q (hn q hq h)
  · omega
theorem ak_yes {w W : World} {K : Nat → Prop} {p b jb : Nat} {J : Jn} {A : Nat} {xs : List Rec} {B : Nat} (h : AK w W K p b jb J A xs B) (hB : B < 4611686018427387904)
    (n f t r : Int) (hb : ByteArray) (hm : Rec.may ⟨n, f, t, r, hb⟩ = true) (hn : n = ((xs.length + 1 : Nat) : Int)) (hl : xs.length < J.n - J.area) :
    Calls Tryz.prog 24 #[.pointer (some ⟨A, 0, none⟩), .agg #[.int .i64 n, .int .i64 f, .int .i64 t, .int .i64 r, .string hb]] W fun e w' => e = .returned (.int .i64 0) ∧ AK w w' K p b jb (J.app xs ⟨n, f, t, r, hb⟩) A (xs ++ [⟨n, f, t, r, hb⟩]) (B + 1) ∧ KeptK K W w' := by
  obtain ⟨V, F, h1, h2, h3, h4, h5, h6⟩ := h.ex
  obtain ⟨hB1, hB2⟩ := h.hB
  have hw := Below.size h.lj
  have hwA := h.wA
  refine (aappend_yes W p b jb F J h1 (by omega) (by omega) A xs V h2 h3 h4 n f t r hb hm hn hl).mono ?_
  rintro e w' ⟨rfl, V', F', hj, ha, hnr, hFA, hV1, hV2, ho⟩
  have hsz := ho.size
  obtain ⟨L, hL⟩ := h.whole
  have h32 := (may_facts hm).2.2.2.2.2
  have hne : ([wrA xs ⟨n, f, t, r, hb⟩] : List Wr) ≠ [] := by simp
  obtain ⟨L', hL'⟩ := hL.commit (may_rec hne (may_wrA h1.ok xs ⟨n, f, t, r, hb⟩ h32 hl))
  have hdim := commit_dim J [wrA xs ⟨n, f, t, r, hb⟩]
  refine ⟨rfl, ⟨⟨V', F', hj, ha, hFA, hV1, near_ge hnr h5 hw, fun q hq => ?_⟩, hwA, lj_only h.lj ho ?_, h.auc.snoc h1.ok (by omega) (by omega) _ hm hn hl, ⟨L', hL'.safe _⟩, ?_⟩, fun q hq => ?_⟩
  · obtain ⟨k1, k2, k4, k3⟩ := h6 q hq
    exact ⟨fun e => k1 (hnr q e k3), k2, fun e => by have := hV2 q e; omega, by omega⟩
  · rintro q (e | rfl)
    · exact h5 q e
    · exact hwA
  · exact ⟨by show (J.commit _).head ≤ _; omega, by show (J.commit _).next ≤ _; omega⟩
  · obtain ⟨k1, k2, k4, k3⟩ := h6 q hq
    exact ho.block q k3 (by rintro (e | e); exact k1 e; exact k2 e)
theorem ak_serial {w W : World} {K : Nat → Prop} {p b jb : Nat} {J : Jn} {A : Nat} {xs : List Rec} {B : Nat} (h : AK w W K p b jb J A xs B)
    (n f t r : Int) (hb : ByteArray) (hm : Rec.may ⟨n, f, t, r, hb⟩ = true) (hn : n ≠ ((xs.length + 1 : Nat) : Int)) :
    Calls Tryz.prog 24 #[.pointer (some ⟨A, 0, none⟩), .agg #[.int .i64 n, .int .i64 f, .int .i64 t, .int .i64 r, .string hb]] W fun e w' => e = .returned (.int .i64 210) ∧ LJ W w' := by
  obtain ⟨V, F, h1, h2, h3, h4, h5, h6⟩ := h.ex
  have := h.auc.len
  have := h1.ok.n12
  exact aappend_serial W jb A xs (by omega) V h2 n f t r hb hm hn
theorem ak_full {w W : World} {K : Nat → Prop} {p b jb : Nat} {J : Jn} {A : Nat} {xs : List Rec} {B : Nat} (h : AK w W K p b jb J A xs B)
    (n f t r : Int) (hb : ByteArray) (hm : Rec.may ⟨n, f, t, r, hb⟩ = true) (hn : n = ((xs.length + 1 : Nat) : Int)) (hl : xs.length = J.n - J.area) :
    Calls Tryz.prog 24 #[.pointer (some ⟨A, 0, none⟩), .agg #[.int .i64 n, .int .i64 f, .int .i64 t, .int .i64 r, .string hb]] W fun e w' => e = .returned (.int .i64 211) ∧ LJ W w' := by
  obtain ⟨V, F, h1, h2, h3, h4, h5, h6⟩ := h.ex
  exact aappend_full W p b jb F J h1 A xs V h2 hl n f t r hb hm hn
theorem ak_room {w W : World} {K : Nat → Prop} {p b jb : Nat} {J : Jn} {A : Nat} {xs : List Rec} {B : Nat} (h : AK w W K p b jb J A xs B) :
    Calls Tryz.prog 25 #[.pointer (some ⟨A, 0, none⟩)] W fun e w' => e = .returned (.int .i64 ((J.n - J.area - xs.length : Nat) : Int)) ∧ ∃ n, w' = W.drewN n := by
  obtain ⟨V, F, h1, h2, h3, h4, h5, h6⟩ := h.ex
  exact aroom_any W p b jb F J h1 A xs V h2 h.auc.len
theorem ak_link {w W : World} {K : Nat → Prop} {p b jb : Nat} {J : Jn} {A : Nat} {xs : List Rec} {B : Nat} (h : AK w W K p b jb J A xs B) :
    Calls Tryz.prog 22 #[.pointer (some ⟨A, 0, none⟩)] W fun e w' => e = .returned (.string ⟨(lastL xs).toArray⟩) ∧ W = w' := by
  obtain ⟨V, F, h1, h2, h3, h4, h5, h6⟩ := h.ex
  exact alink_any W A jb xs V h2
theorem ak_records {w W : World} {K : Nat → Prop} {p b jb : Nat} {J : Jn} {A : Nat} {xs : List Rec} {B : Nat} (h : AK w W K p b jb J A xs B) :
    Calls Tryz.prog 21 #[.pointer (some ⟨A, 0, none⟩)] W fun e w' => (∃ v', e = .returned v' ∧ RecSl w' v' xs ∧ ∀ q, v'.ownBlock = some q → W.heap.size ≤ q) ∧ LJ W w' := by
  obtain ⟨V, F, h1, h2, h3, h4, h5, h6⟩ := h.ex
  have := h.auc.len
  have := h1.ok.n12
  exact arecords_any W A jb xs V (by omega) h2
/-- What the law's open leaves. -/
def LOpen (w : World) (p : Nat) (F : Nat → Prop) (J : Jn) (xs : List Rec) (e : Ending) (w' : World) : Prop :=
  ∃ b' jb' J' A' V' F', e = .returned (.tuple #[.pointer (some ⟨A', 0, none⟩), .int .i64 0]) ∧ JAt w' p b' jb' F' J' ∧ AudB w' A' jb' xs V' ∧ ¬ F' A' ∧ (∀ q, V'.ownBlock = some q → ¬ F' q ∧ w.heap.size ≤ q) ∧ Near w F F' ∧ w.heap.size ≤ A' ∧ OnlyJ F w w' ∧ AuC J' xs ∧ (∃ L, J'.Whole L) ∧ J'.n = J.n ∧ J'.area = J.area ∧ J'.head ≤ J.head + 1 ∧ J'.next = J.next
/-- .. opened again. -/
theorem AK.opened {w W W' : World} {K : Nat → Prop} {p b jb : Nat} {J : Jn} {A : Nat} {xs : List Rec} {B : Nat} (h : AK w W K p b jb J A xs B) {F : Nat → Prop} (h1 : JAt W p b jb F J) (h5 : ∀ q, F q → w.heap.size ≤ q) (h6 : ∀ q, K q → ¬ F q ∧ q ≠ A ∧ q < W.heap.size) {e : Ending} (ho : LOpen W p F J xs e W') :
    ∃ b' jb' J' A', e = .returned (.tuple #[.pointer (some ⟨A', 0, none⟩), .int .i64 0]) ∧ AK w W' K p b' jb' J' A' xs (B + 1) ∧ J'.n = J.n ∧ J'.area = J.area ∧ KeptK K W W' := by
  obtain ⟨b', jb', J', A', V', F', he, hj, ha, hFA, hV, hnr, hwA, ho, hc, hL, hn, har, hh, hnx⟩ := ho
  have hw := Below.size h.lj
  have hs := ho.size
  obtain ⟨hB1, hB2⟩ := h.hB
  refine ⟨b', jb', J', A', he, ⟨⟨V', F', hj, ha, hFA, (fun q hq => (hV q hq).1), near_ge hnr h5 hw, fun q hq => ?_⟩, by omega, lj_only h.lj ho h5, hc, hL, by omega, by omega⟩, hn, har, fun q hq => ho.block q (h6 q hq).2.2 (h6 q hq).1⟩
  obtain ⟨k1, k2, k3⟩ := h6 q hq
  exact ⟨fun e => k1 (hnr q e k3), by omega, fun e => by have := (hV q e).2; omega, by omega⟩
end Go.Proofs.YtfpbocjmlhcgiaaGreatDoor
/- The law's open: the audit on a journal's disk. -/
namespace Go.Proofs.YtfpbocjmlhcgiaaGreatDoor
open Go.RowKit PJ Go.Maps

/-- The journal that Open makes of a journal's disk. -/
theorem jopen_whole (w : World) (p b jb : Nat) (F : Nat → Prop) (J : Jn) (h : JAt w p b jb F J) (L : List (List Wr)) (hL : J.Whole L) (xs : List Rec) (hx : AuC J xs) (hh : J.head < 4611686018427387904) (hnx : J.next ≤ 4611686018427387904) (cached : Nat) (hca : cached ≤ 16) :
    ∃ J' : Jn, (J'.n = J.n ∧ J'.area = J.area ∧ J'.head ≤ J.head + 1 ∧ J'.next = J.next ∧ AuC J' xs ∧ ∃ L', J'.Whole L') ∧
      ∀ w1, LJ w w1 → w1.heap[w.heap.size]? = some (.cells (devCells p 0 J.n cached (.slice none 0 0) 0) 105 (0, 0)) →
        Calls Tryz.prog 143 #[.pointer (some ⟨w.heap.size, 0, none⟩), .int .i64 J.area] w1 fun e w' => ∃ jb', e = .returned (.tuple #[.pointer (some ⟨jb', 0, none⟩), .int .i64 0]) ∧ JAt w' p w.heap.size jb' (grow (grow F w w1) w1 w') J' ∧ OnlyJ (grow F w w1) w1 w' := by
  have hok := h.ok
  have hfn := hok.fn
  by_cases hL0 : L = []
  · subst hL0
    have e : J.first = J.next := by have := hL.next; simp at this; omega
    refine ⟨{ J with S := J.V }, ⟨rfl, rfl, by show J.head ≤ _; omega, rfl, hx.of rfl rfl (fun c _ => rfl), _, hL.safe _⟩, fun w1 hl hb => ?_⟩
    obtain ⟨g, mb, R, dt, hd, hdt⟩ := DevAt.again h hl hb hca
    rw [hdt e] at hd
    exact open_any w1 p g mb w.heap.size J.n cached R _ J hd.one hok rfl e (by omega) (by omega)
  · refine ⟨J.home, ⟨rfl, rfl, Nat.le_refl _, rfl, hx.of rfl rfl (fun c hc => Jn.home_cell hok hc), [], Jn.Whole.home⟩, fun w1 hl hb => ?_⟩
    obtain ⟨g, mb, R, dt, hd, hdt⟩ := DevAt.again h hl hb hca
    exact open_recs w1 p g mb w.heap.size J.n cached R _ J dt hd hok rfl L hL hL0 hnx hh
theorem JAt.disk {w : World} {p b jb : Nat} {F : Nat → Prop} {J : Jn} (h : JAt w p b jb F J) : ∃ g mb safe U, DiskAt w p g mb J.n safe U := by
  obtain ⟨a, rfl, rfl, rfl, h4, h5, dt, hc, hok, hdt⟩ := h
  obtain ⟨safe, U, cv, misses, xs, hd⟩ := hc.dev
  have hdk := hd.disk
  rw [h4] at hdk
  exact ⟨_, _, _, _, hdk⟩
set_option maxRecDepth 100000 in
set_option maxHeartbeats 2000000 in
theorem lopen_any (w : World) (p b jb : Nat) (F : Nat → Prop) (J : Jn) (h : JAt w p b jb F J) (L : List (List Wr)) (hL : J.Whole L) (xs : List Rec) (hx : AuC J xs) (hh : J.head < 4611686018427387904) (hnx : J.next ≤ 4611686018427387904) :
    Calls Tryz.prog 79 #[.pointer (some ⟨p, 0, none⟩), .int .i64 J.area] w (LOpen w p F J xs) := by
  have hok := h.ok
  have han := hok.arean
  have h12 := hok.n12
  have h4 := hok.area4
  have hlF := h.lt
  obtain ⟨J', hJ', hop⟩ := jopen_whole w p b jb F J h L hL xs hx hh hnx 2 (by omega)
  obtain ⟨g, mb, safe, U, hdk⟩ := h.disk
  have HCT := Lib.hid (dcount_any w p g mb J.n safe U hdk)
  have HBN := Lib.hid (show Calls Tryz.prog 13 #[.pointer (some ⟨p, 0, none⟩), .int .i64 0, .int .i64 J.n, .int .i64 2] w fun e w' =>
      e = .returned (.tuple #[.pointer (some ⟨w.heap.size, 0, none⟩), .int .i64 0]) ∧ Below w.heap.size w w' ∧ w'.heap[w.heap.size]? = some (.cells (devCells p 0 J.n 2 (.slice none 0 0) 0) 105 (0, 0)) from
    bnew_any w p g mb J.n safe U hdk 0 J.n 2 (by omega) (by omega) (by omega))
  have HOP := Lib.hid hop
  have HAO := Lib.hid (fun W jb' F' (hj : JAt W p w.heap.size jb' F' J') => aopen_any W p w.heap.size jb' F' J' hj xs hJ'.2.2.2.2.1)
  have HJ' := Lib.hid hJ'
  have HLF := Lib.hid hlF
  have HP : Hid (∀ e w', LOpen w p F J xs e w' → LOpen w p F J xs e w') := Lib.hid (fun e w' h => h)
  obtain ⟨n, hn⟩ : ∃ n, J.n = n := ⟨_, rfl⟩
  obtain ⟨area, har⟩ : ∃ area, J.area = area := ⟨_, rfl⟩
  rw [hn] at HCT HBN HOP
  rw [har] at HOP ⊢
  obtain ⟨POST, hPOST⟩ : ∃ POST, LOpen w p F J xs = POST := ⟨_, rfl⟩
  rw [hPOST]
  have HPOST := Lib.hid hPOST
  clear h hL hx hh hnx hok han h12 h4 hlF hJ' hop hdk hn har hPOST HP
  go_enter Tryz.func79, Tryz.ntmps79
  go_wp2_with (first
    | (go_at_call 52; (with_reducible refine HCT.out.mono ?_); rintro e w0 ⟨rfl, hw0⟩; subst hw0)
    | (go_at_call 13; (with_reducible refine HBN.out.mono ?_); rintro e w1 ⟨rfl, hl1, hb1⟩; have HO1 := Lib.hid (HOP.out w1 hl1 hb1); have HL1 := Lib.hid hl1; clear hl1 hb1)
    | (go_at_call 143; (with_reducible refine HO1.out.mono ?_); rintro e w2 ⟨jb', rfl, hj2, ho2⟩; have HA2 := Lib.hid (HAO.out w2 _ _ hj2); have HO2 := Lib.hid ho2; have HJ2 := Lib.hid hj2; clear hj2 ho2)
    | (go_at_call 15; (with_reducible refine HA2.out.mono ?_); rintro e w3 ⟨A, V, F3, rfl, hwA, hA, hj3, hn3, hlt3, ho3⟩; have HA3 := Lib.hid hA; have HJ3 := Lib.hid hj3; have HN3 := Lib.hid (And.intro hwA (And.intro hn3 (And.intro hlt3 ho3))); clear hA hj3 hwA hn3 hlt3 ho3)
    | fail)
  obtain ⟨hwA, hn3, hlt3, ho3⟩ := HN3.out
  have s1 := Below.size HL1.out
  have s2 := HO2.out.size
  have s3 := ho3.size
  obtain ⟨z1, z2, z3, z4, z5, z6⟩ := HJ'.out
  rw [← HPOST.out]
  have hnear : Near w F F3 := fun q hq hlt => by
    rcases hn3 q hq (by omega) with (e | e) | e
    · exact e
    · omega
    · omega
  have ho : OnlyJ F w w3 := by
    refine ⟨ho3.os.trans (HO2.out.os.trans HL1.out.os), ho3.tape.trans (HO2.out.tape.trans HL1.out.tape), ho3.output.trans (HO2.out.output.trans HL1.out.output), by omega, fun q hq hne => ?_⟩
    refine (ho3.block q (by omega) ?_).trans ((HO2.out.block q (by omega) ?_).trans (Below.block HL1.out q hq))
    · rintro ((e | e) | e)
      · exact hne e
      · omega
      · omega
    · rintro (e | e)
      · exact hne e
      · omega
  exact ⟨w.heap.size, jb', J', A, V, F3, rfl, HJ3.out, HA3.out.toB, fun e => by have := hlt3 A e; omega, fun q hq => ⟨fun e => by have h1 := (HA3.out.row.lt q hq).1; have h2 := hlt3 q e; omega, by have h1 := (HA3.out.row.lt q hq).1; omega⟩, hnear, by omega, ho, z5, z6, z1, z2, z3, z4⟩
end Go.Proofs.YtfpbocjmlhcgiaaGreatDoor
/- The law's laid: an audit on a new disk. -/
namespace Go.Proofs.YtfpbocjmlhcgiaaGreatDoor
open Go.RowKit PJ Go.Maps

theorem J0_auc {n area : Nat} (h4 : 4 ≤ area) : AuC (J0 n area) [] := by
  refine ⟨Nat.zero_le _, (fun i x h => by simp at h), fun i _ hi => ?_, (fun i x h => by simp at h)⟩
  show ((fun _ => none : Cells) i).getD ((V0 (area + i)).take 116) = zs 116
  unfold V0
  rw [if_neg (by omega)]
  exact (take_blk (by simp) 0).trans rfl
/-- A device on a new disk. -/
def NewDev' (w : World) (n c : Nat) (p b : Nat) (w' : World) : Prop := LJ w w' ∧ ∃ g mb R V, DevAt w' p g mb b n c R (since w w') V V false
theorem NewDev'.born {w w1 w2 w3 : World} {n c p g mb : Nat} {safe : List UInt8} (hca : c ≤ 16) (hl1 : LJ w w1) (hl2 : LJ w1 w2) (hd : DiskAt w2 p g mb n safe (fun _ => none)) (hp : w1.heap.size ≤ p) (hg : w1.heap.size ≤ g) (hm : w1.heap.size ≤ mb) (hpl : p < w2.heap.size) (hgl : g < w2.heap.size) (hml : mb < w2.heap.size) (hl3 : LJ w2 w3) (hb : w3.heap[w2.heap.size]? = some (.cells (devCells p 0 n c (.slice none 0 0) 0) 105 (0, 0))) :
    NewDev' w n c p w2.heap.size w3 := by
  have s1 := Below.size hl1
  have s2 := Below.size hl2
  have s3 := Below.size hl3
  refine ⟨hl1.trans (hl2.trans hl3), g, mb, _, _, (DevAt.fresh (F := since w w2) hd hl3 hb hca (fun i hi => rfl) ⟨by omega, hpl⟩ ⟨by omega, hgl⟩ ⟨by omega, hml⟩ (fun q hq => hq.2)).wide ?_ (fun q hq => hq.2)⟩
  rintro q (hq | hq)
  · exact ⟨hq.1, by have := hq.2; omega⟩
  · exact ⟨by omega, hq.2⟩
theorem since_grow {w w1 w2 : World} (h : w.heap.size ≤ w1.heap.size) (h2 : w1.heap.size ≤ w2.heap.size) : ∀ q, grow (since w w1) w1 w2 q → since w w2 q := by
  rintro q (hq | hq)
  · exact ⟨hq.1, by have := hq.2; omega⟩
  · exact ⟨by omega, hq.2⟩
set_option maxRecDepth 100000 in
set_option maxHeartbeats 2000000 in
theorem llaid_any (w : World) (cells area : Nat) (hc1 : 1 ≤ cells) (hc2 : cells ≤ 12) (ha1 : 4 ≤ area) (ha2 : area ≤ 15) :
    Calls Tryz.prog 78 #[.int .i64 cells, .int .i64 area] w fun e w' => ∃ p b jb J A, e = .returned (.tuple #[.pointer (some ⟨p, 0, none⟩), .pointer (some ⟨A, 0, none⟩)]) ∧ AK w w' (fun _ => False) p b jb J A [] 3 ∧ J.n = area + cells ∧ J.area = area := by
  obtain ⟨n, hn⟩ : ∃ n, area + cells = n := ⟨_, rfl⟩
  have hadd : (area : Int) + (cells : Int) = (n : Int) := by omega
  obtain ⟨m, hm⟩ : ∃ m, 128 * n = m := ⟨_, rfl⟩
  have hwr : IntKind.i64.wrap ((128 : Int) * (n : Int)) = (m : Int) := by rw [IntKind.wrap_i64]; omega
  have hmul : (128 : Int) * (n : Int) = (m : Int) := by omega
  have HNO := Lib.hid (lnoughts_any w m (by omega))
  obtain ⟨Z, hZ⟩ : ∃ Z : ByteArray, (⟨(zs m).toArray⟩ : ByteArray) = Z := ⟨_, rfl⟩
  rw [hZ] at HNO
  have hZs : Z.size = 128 * n := by rw [← hZ, hm]; show (zs m).toArray.size = m; simp [zs]
  have HDN := Lib.hid (fun W => dnew_any Z W n (by omega) (by omega) hZs)
  have HBN := Lib.hid (fun W p g mb safe hd => show Calls Tryz.prog 13 #[.pointer (some ⟨p, 0, none⟩), .int .i64 0, .int .i64 n, .int .i64 0] W fun e w' =>
      e = .returned (.tuple #[.pointer (some ⟨W.heap.size, 0, none⟩), .int .i64 0]) ∧ Below W.heap.size W w' ∧ w'.heap[W.heap.size]? = some (.cells (devCells p 0 n 0 (.slice none 0 0) 0) 105 (0, 0)) from
    bnew_any W p g mb n safe (fun _ => none) hd 0 n 0 (by omega) (by omega) (by omega))
  have HF := Lib.hid (fun W p b (hd : NewDev' w n 0 p b W) => show Calls Tryz.prog 14 #[.pointer (some ⟨b, 0, none⟩), .int .i64 area] W fun e w' =>
      ∃ jb, e = .returned (.tuple #[.pointer (some ⟨jb, 0, none⟩), .int .i64 0]) ∧ JAt w' p b jb (since w w') (J0 n area) ∧ LJ w w' from by
    obtain ⟨hl, g, mb, R, V, hd⟩ := hd
    have hsz := Below.size hl
    refine (format_any W p g mb b n 0 R _ V V false hd area (by omega) (by omega)).mono ?_
    rintro e w' ⟨jb, rfl, hj, ho⟩
    have hs2 := ho.size
    exact ⟨jb, rfl, hj.kept (Nat.le_refl _) (fun _ _ => rfl) (since_grow hsz hs2) (fun q hq => hq.2), ⟨ho.os.trans hl.os, ho.tape.trans hl.tape, ho.output.trans hl.output, by omega, fun q hq => (ho.block q (by omega) (fun e => by have := e.1; omega)).trans (Below.block hl q hq)⟩⟩)
  have HOP := Lib.hid (fun W p b jb (hj : JAt W p b jb (since w W) (J0 n area)) => show Calls Tryz.prog 79 #[.pointer (some ⟨p, 0, none⟩), .int .i64 area] W (LOpen W p (since w W) (J0 n area) []) from lopen_any W p b jb _ (J0 n area) hj [] (Jn.Whole.none hj.ok rfl) [] (J0_auc ha1) (by show 2 < 4611686018427387904; decide) (by show 1 ≤ 4611686018427387904; decide))
  have HDIM := Lib.hid (And.intro hn (And.intro ha1 hc1))
  clear hZ hZs hm
  go_enter Tryz.func78, Tryz.ntmps78
  go_upto_region 2 with (first
    | (go_at_call 12; (with_reducible refine HNO.out.mono ?_); rintro e w1 ⟨rfl, hl1⟩; have HL1 := Lib.hid hl1; clear hl1)
    | (go_at_call 11; (with_reducible refine (HDN.out _).mono ?_); rintro e w2 ⟨rfl, hd2, hl2⟩; have HD2 := Lib.hid hd2; have HL2 := Lib.hid hl2; clear hd2 hl2)
    | fail)
  have hd2 := HD2.out
  have hlt := hd2
  obtain ⟨-, -, -, cap, cnt, ch, D, hpc, -, -, -, hgl, -, -, ⟨es, ck, hmm, -⟩, -⟩ := hlt
  have hpl := lt_blk hpc
  have hml := lt_blk hmm
  have HB := Lib.hid (HBN.out w2 _ _ _ _ hd2)
  have HND := Lib.hid (fun w3 hl3 hb3 => NewDev'.born (c := 0) (w3 := w3) (by omega) HL1.out HL2.out hd2 (by omega) (Nat.le_refl _) (by omega) hpl hgl hml hl3 hb3)
  clear hd2 hpc hmm hpl hml hgl
  go_wp2_with (first
    | (go_at_call 13; (with_reducible refine HB.out.mono ?_); rintro e w3 ⟨rfl, hl3, hb3⟩; have HF3 := Lib.hid (HF.out w3 _ _ (HND.out w3 hl3 hb3)); clear hl3 hb3)
    | (go_at_call 14; (with_reducible refine HF3.out.mono ?_); rintro e w4 ⟨jb, rfl, hj4, hl4⟩; have HO4 := Lib.hid (HOP.out w4 _ _ jb hj4); have HJ4 := Lib.hid hj4; have HL4 := Lib.hid hl4; clear hj4 hl4)
    | (go_at_call 79; (with_reducible refine HO4.out.mono ?_); rintro e w5 ⟨b', jb', J', A', V', F', rfl, hj, ha, hFA, hV, hnr, hwA, ho, hc, hL, hn', har, hh, hnx⟩
       have HE := Lib.hid (And.intro hj (And.intro ha (And.intro hFA (And.intro hV (And.intro hnr (And.intro hwA (And.intro ho (And.intro hc (And.intro hL (And.intro hn' (And.intro har (And.intro hh hnx))))))))))))
       clear hj ha hFA hV hnr hwA ho hc hL hn' har hh hnx)
    | fail)
  go_ret2
  obtain ⟨hj, ha, hFA, hV, hnr, hwA, ho, hc, hL, hn', har, hh, hnx⟩ := HE.out
  have s4 := Below.size HL4.out
  obtain ⟨d1, d2, d3⟩ := HDIM.out
  have hge : ∀ q, since w w4 q → w.heap.size ≤ q := fun q hq => hq.1
  exact ⟨_, b', jb', J', A', rfl, ⟨⟨V', F', hj, ha, hFA, (fun q hq => (hV q hq).1), near_ge hnr hge s4, fun q hq => hq.elim⟩, by omega, lj_only HL4.out ho hge, hc, hL, by simp only [J0] at hh hnx; omega⟩, hn'.trans d1.symm, har⟩
end Go.Proofs.YtfpbocjmlhcgiaaGreatDoor
