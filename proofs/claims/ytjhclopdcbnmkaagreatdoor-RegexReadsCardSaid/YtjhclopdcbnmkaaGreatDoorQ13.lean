/- The walk of the document's Parse. -/
import Derived.Test.YtjhclopdcbnmkaaGreatDoorQ12
set_option linter.unusedSimpArgs false
set_option linter.unusedVariables false
namespace Go.Proofs.YtjhclopdcbnmkaaGreatDoor
open Go.RowKit PX

theorem rpiece_ok (rb : Nat) (S : ByteArray) (hs : S.size ≤ 128) : ∀ (f : Nat) (w : World) (i : Nat), RefAt w rb S i false → i ≤ S.size → 3 * (rest S i).length ≤ f →
    Calls Tryz.prog 54 #[.pointer (some ⟨rb, 0, none⟩)] w fun e w' => SaysRx rb S i w (pieceR f (rest S i)) e w' := by
  intro f
  induction f using Nat.strongRecOn with
  | _ f ih =>
    intro w i h hi hf
    match f, ih, hf with
    | 0, _, hf =>
      have hr : rest S i = [] := List.eq_nil_of_length_eq_zero (by omega)
      have hp := rpiece_any w rb S i h (by omega) none (fun w1 h1 => by
        have ha := ratom_any w1 rb S i h1 (by omega) hi (fun _ => none) (fun h40 => by rw [hr] at h40; cases h40)
        rw [hr, atomB_nil] at ha
        exact ha)
      rw [hr]; exact hp
    | 1, _, hf =>
      have hr : rest S i = [] := List.eq_nil_of_length_eq_zero (by omega)
      have hp := rpiece_any w rb S i h (by omega) none (fun w1 h1 => by
        have ha := ratom_any w1 rb S i h1 (by omega) hi (fun _ => none) (fun h40 => by rw [hr] at h40; cases h40)
        rw [hr, atomB_nil] at ha
        exact ha)
      rw [hr]; exact hp
    | f2 + 2, ih, hf =>
      have hA : atomR (f2 + 1) (rest S i) = atomB (altR f2 [] []) (rest S i) := by
        simp only [atomR, atomB]
        rfl
      have hP : pieceR (f2 + 2) (rest S i) = pieceB (atomB (altR f2 [] []) (rest S i)) := by
        rw [← hA]
        simp only [pieceR]
        cases atomR (f2 + 1) (rest S i) with
        | none => rfl
        | some p => rfl
      rw [hP]
      refine rpiece_any w rb S i h (by omega) _ (fun w1 h1 => ?_)
      refine ratom_any w1 rb S i h1 (by omega) hi (altR f2 [] []) (fun h40 w2 h2 => ?_)
      have hi1 := rest_starts h40
      have e1 := rest_length S i
      have e2 := rest_length S (i + 1)
      exact ralt_any f2 w2 rb S (i + 1) (fun f'' hlt w3 i3 h3 hi3 hf3 => ih f'' (by omega) w3 i3 h3 hi3 hf3) h2 hs hi1 (by omega)
theorem ralt_all (F : Nat) (w : World) (rb : Nat) (S : ByteArray) (i : Nat) (h : RefAt w rb S i false) (hs : S.size ≤ 128) (hi : i ≤ S.size) (hF : 3 * (rest S i).length + 1 ≤ F) :
    Calls Tryz.prog 35 #[.pointer (some ⟨rb, 0, none⟩)] w fun e w' => SaysRx rb S i w (altR F [] [] (rest S i)) e w' :=
  ralt_any F w rb S i (fun f' _ => rpiece_ok rb S hs f') h hs hi hF

theorem results_ct {fn : Func} {p q : Tmp} {ty : TypeId} (h : fn.results = #[.cell p ty, .tmp q]) (tmps : Array Value) (P : Program) (w : World) (g : Nat) (t : TypeId) (cs : Array Value) (fr : Nat × Nat) (fs : Array Field)
    (hp : tmps.getD p undef = .pointer (some ⟨g, 0, none⟩)) (hg : w.heap[g]? = some (.cells cs t fr))
    (hu : P.underlying ty = some (.struct fs)) (hi : (P.info? ty).map (·.size) = some cs.size) :
    (results fn tmps).run P w = .ok (.tuple #[.agg cs, tmps.getD q undef]) w := by
  have hp' : tmps[p]?.getD undef = .pointer (some ⟨g, 0, none⟩) := by simpa using hp
  simp [results, h, hp', asAddr, run_loadVar_row w g t ty cs fr (.struct fs) hg hu rfl hi]

set_option maxRecDepth 100000 in
set_option maxHeartbeats 1000000 in
theorem rparse_long (w : World) (S : ByteArray) (hl : 128 < S.size) : Calls Tryz.prog 15 #[.string S] w fun e w' => e = .returned (.tuple #[.agg (cellsA (setA Q4.none)), .int .i64 51]) ∧ Below w.heap.size w w' := by
  have hg : (128 : Int) < S.size := by omega
  go_enter Tryz.func15, Tryz.ntmps15
  go_wp2_with fail
  refine bodyPost_ret (results_ct rfl _ _ _ w.heap.size 26 (cellsA (setA Q4.none)) (0, 0) _ rfl (alloc_block _ _) Tryz.underlying26 (info_rxA _)) rfl ?_
  exact ⟨rfl, (Below.refl _ w).alloc (Nat.le_refl _) _⟩

set_option maxRecDepth 100000 in
set_option maxHeartbeats 1000000 in
theorem rparse_short (w : World) (S : ByteArray) (hl : S.size ≤ 128) : Calls Tryz.prog 15 #[.string S] w fun e w' => ParseSays w S.data.toList e w' := by
  have hlen : S.data.toList.length = S.size := by rw [Array.length_toList]; rfl
  have hr0 : rest S 0 = S.data.toList := by rw [rest_drop, List.drop_zero]
  have hpr := parseR_eq (l := S.data.toList) (by omega)
  obtain ⟨l, hl'⟩ : ∃ l, S.data.toList = l := ⟨_, rfl⟩
  rw [hl'] at hlen hr0 hpr ⊢
  obtain ⟨O, hO⟩ : ∃ O, altR (3 * l.length + 3) [] [] l = O := ⟨_, rfl⟩
  rw [hO] at hpr
  obtain ⟨nb, hnb⟩ : ∃ nb, w.heap.size = nb := ⟨_, rfl⟩
  have hN0 : ((w.alloc (.cells zeroRx 26)).alloc (.cells #[.string S, .int .i64 0, .bool false] 74)).heap[nb]? = some (.cells zeroRx 26 (0, 0)) := alloc_old (alloc_block' _ _ _ hnb) _
  have hR0 : RefAt ((w.alloc (.cells zeroRx 26)).alloc (.cells #[.string S, .int .i64 0, .bool false] 74)) (nb + 1) S 0 false := alloc_block' _ _ _ (by simp [hnb])
  have hB0 : Below nb w ((w.alloc (.cells zeroRx 26)).alloc (.cells #[.string S, .int .i64 0, .bool false] 74)) := by rw [← hnb]; exact ((Below.refl _ w).alloc (Nat.le_refl _) _).alloc (by simp) _
  have halt := ralt_all (3 * l.length + 3) _ (nb + 1) S 0 hR0 hl (by omega) (by rw [hr0]; omega)
  rw [hr0, hO] at halt
  have HALT := Lib.hid (show Calls Tryz.prog 35 #[.pointer (some ⟨nb + 1, 0, none⟩)] ((w.alloc (.cells #[.int .i64 0, .int .i64 0, .int .i64 0, .int .u64 0, .int .u64 0, .int .u64 0, .int .u64 0, .slice none 0 0] 26)).alloc (.cells #[.string S, .int .i64 0, .bool false] 74)) _ from halt)
  have HN0 := Lib.hid hN0
  have HB0 := Lib.hid hB0
  have hl0 := lt_of_block hN0
  have HSZ := Lib.hid hnb
  have HPR := Lib.hid hpr
  have HOO := Lib.hid hO
  have hg : ¬ (128 : Int) < S.size := by omega
  have HL' := Lib.hid hl'
  clear halt hN0 hR0 hB0 hpr hO hr0 hlen hl'
  go_enter Tryz.func15, Tryz.ntmps15
  go_upto_region 5 with (first
    | (go_at_call 35
       refine HALT.out.mono ?_
       rintro e w1 ⟨o1, X, j, b, rfl, hij, hjs, h1, hin, hbl, hor⟩
       have HR1 := Lib.hid h1
       have HN1 := Lib.hid ((o1.block nb hl0 (by omega)).trans HN0.out)
       have HB1 := Lib.hid (HB0.out.trans (o1.below (B := nb) (by omega) (by intro k hk; omega)))
       have hs1 := o1.size
       have HIN := Lib.hid hin
       have HBL := Lib.hid hbl
       have HOR := Lib.hid hor
       clear h1 o1 hin hbl hor)
    | (refine wpList_store_row rfl 26 (.tmp 5) (.tmp 14) ?_ w1.heap.size (cellsA X) ?_ ?_ 26 zeroRx ?_ (info_rxA _) (by rw [cellsA_size]; rfl) (cellsA_one _) ?_; (with_reducible rfl); rfl; rfl; exact alloc_block _ _)
    | fail)
  obtain ⟨eb, heb⟩ : ∃ eb, w1.heap.size = eb := ⟨_, rfl⟩
  obtain ⟨W5, hW5⟩ : ∃ W5, (w1.alloc (.cells zeroRx 26)).setRow eb (cellsA X) = W5 := ⟨_, rfl⟩
  have hE5 : W5.heap[eb]? = some (.cells (cellsA X) 26 (0, 0)) := by rw [← hW5]; exact setRow_heap _ _ _ _ _ _ (alloc_block' _ _ _ heb)
  have hold : ∀ c o, c < eb → w1.heap[c]? = some o → W5.heap[c]? = some o := fun c o hc h => by rw [← hW5]; exact (setRow_other _ _ _ _ (by omega)).trans (alloc_old h _)
  have hold2 : ∀ c, c < eb → W5.heap[c]? = w1.heap[c]? := fun c hc => by rw [← hW5]; exact (setRow_other _ _ _ _ (by omega)).trans (Below.heap_alloc _ _ _ (by omega))
  have hsz5 : W5.heap.size = eb + 1 := by rw [← hW5, size_setRow]; simp [heb]
  have hle5 : eb + 1 ≤ W5.heap.size := by omega
  have hrb5 := lt_of_block HR1.out
  have hnb5 := lt_of_block HN1.out
  have HR5 := Lib.hid (show RefAt W5 (nb + 1) S j b from hold _ _ (by omega) HR1.out)
  have HN5 := Lib.hid (hold _ _ (by omega) HN1.out)
  have HE5 := Lib.hid hE5
  have HB5 := Lib.hid (show Below nb w W5 by rw [← hW5]; exact below_setRow (HB1.out.alloc (by omega) _) (by omega) _)
  have HIN5 := Lib.hid (show X.In W5 W5.heap.size from HIN.out.keep fun c hc => ⟨by have := (HBL.out c hc).2; omega, fun o => World.cell?_of_block (w := w1) (hold2 c (by have := (HBL.out c hc).2; show c < eb; omega))⟩)
  rw [heb]
  rw [show (w1.alloc (.cells #[.int .i64 0, .int .i64 0, .int .i64 0, .int .u64 0, .int .u64 0, .int .u64 0, .int .u64 0, .slice none 0 0] 26)).setRow eb (cellsA X) = W5 from hW5]
  have hxnb : ∀ c ∈ X.blocks, nb < c := fun c hc => by have := (HBL.out c hc).1; simp at this; omega
  have HXN := Lib.hid hxnb
  have hw1e : w1.heap.size ≤ eb := by omega
  clear hold hold2 hE5 hW5 heb hsz5 hxnb
  obtain ⟨c0, c1, c2, z1, z2⟩ := HR5.out.cells
  have hnbe : nb < W5.heap.size := lt_of_block HN5.out
  by_cases hbad : b = true ∨ j < S.size
  · have hno : parseR l = .inr 50 := by
      rw [HPR.out]
      rcases HOR.out with ⟨rfl, rfl⟩ | ⟨rfl, rfl⟩
      · have hj : j < S.size := by rcases hbad with h | h; cases h; exact h
        obtain ⟨c, r, hr⟩ := rest_ex hj
        rw [hr]; rfl
      · rfl
    have HNO := Lib.hid hno
    have hcase : b = true ∨ (b = false ∧ (j : Int) < (S.size : Int)) := by
      cases b
      · right; rcases hbad with h | h; cases h; exact ⟨rfl, by omega⟩
      · exact .inl rfl
    clear hno hbad
    rcases hcase with rfl | ⟨rfl, hlt⟩
    all_goals
      go_wp2_with (first
        | (refine wpList_store_row rfl 26 (.tmp 2) (.tmp 28) ?_ nb (cellsA (setA Q4.none)) ?_ ?_ 26 zeroRx ?_ (info_rxA _) (by rw [cellsA_size]; rfl) (cellsA_one _) ?_; (with_reducible rfl); rfl; rfl; exact HN5.out)
        | fail)
      refine bodyPost_ret (results_ct rfl _ _ _ nb 26 (cellsA (setA Q4.none)) (0, 0) _ rfl (setRow_heap _ _ _ _ _ _ (HN5.out)) Tryz.underlying26 (info_rxA _)) rfl ?_
      rw [← HSZ.out] at *
      exact ⟨below_setRow HB5.out (Nat.le_refl _) _, .inr ⟨50, HNO.out, rfl⟩⟩
  · obtain ⟨rfl, hj⟩ : b = false ∧ ¬ (j : Int) < (S.size : Int) := by
      cases b
      · exact ⟨rfl, fun h => hbad (.inr (by omega))⟩
      · exact absurd (.inl rfl) hbad
    have hsome : altR (3 * l.length + 3) [] [] l = some (X.bare, rest S j) := by
      rcases HOR.out with ⟨-, h⟩ | ⟨h, -⟩
      · rw [HOO.out, h]
      · cases h
    have hfo := (read_form _).1 _ _ _ _ _ (fun y hy => by cases hy) (fun y hy => by cases hy) hsome
    have hsz := rsize_any X W5 W5.heap.size (Nat.le_refl _) HIN5.out (tame_of_form _ hfo)
    obtain ⟨n, hn⟩ : ∃ n, X.bare.sizeI = n := ⟨_, rfl⟩
    have hbd := sizeI_bd X.bare
    have hpr2 : parseR l = if 256 < n then .inr 51 else .inl X.bare := by
      rw [HPR.out, ← HOO.out, hsome, rest_nil (by omega), ← hn]; rfl
    rw [hn, cellsA_val] at hsz
    rw [hn] at hbd
    obtain ⟨hbd1, hbd2⟩ := hbd
    have HS := Lib.hid hsz
    have HP2 := Lib.hid hpr2
    clear hbad hsome hfo hsz hn hpr2
    by_cases h256 : 256 < n
    · go_wp2_with (first
        | (refine wpList_load_row rfl 26 (.tmp 5) ?_ eb ?_ 26 (cellsA X) (0, 0) _ ?_ Tryz.underlying26 rfl (info_rxA _) ?_; (with_reducible rfl); rfl; exact HE5.out)
        | (go_at_call 29; (with_reducible refine HS.out.mono ?_); rintro e w2 ⟨rfl, hb2⟩; have HN2 := Lib.hid ((hb2.block nb hnbe).trans HN5.out); have HB2 := Lib.hid (HB5.out.trans (hb2.mono (by omega))); clear hb2)
        | (refine wpList_store_row rfl 26 (.tmp 2) (.tmp 32) ?_ nb (cellsA (setA Q4.none)) ?_ ?_ 26 zeroRx ?_ (info_rxA _) (by rw [cellsA_size]; rfl) (cellsA_one _) ?_; (with_reducible rfl); rfl; rfl; exact HN2.out)
        | fail)
      refine bodyPost_ret (results_ct rfl _ _ _ nb 26 (cellsA (setA Q4.none)) (0, 0) _ rfl (setRow_heap _ _ _ _ _ _ (HN2.out)) Tryz.underlying26 (info_rxA _)) rfl ?_
      have hp2 := HP2.out
      rw [if_pos h256] at hp2
      rw [← HSZ.out] at *
      exact ⟨below_setRow HB2.out (Nat.le_refl _) _, .inr ⟨51, hp2, rfl⟩⟩
    · go_wp2_with (first
        | (refine wpList_load_row rfl 26 (.tmp 5) ?_ eb ?_ 26 (cellsA X) (0, 0) _ ?_ Tryz.underlying26 rfl (info_rxA _) ?_; (with_reducible rfl); rfl; first | exact HE5.out | exact HE2.out)
        | (go_at_call 29; (with_reducible refine HS.out.mono ?_); rintro e w2 ⟨rfl, hb2⟩; have HN2 := Lib.hid ((hb2.block nb hnbe).trans HN5.out); have HE2 := Lib.hid ((hb2.block eb (by omega)).trans HE5.out); have HB2 := Lib.hid (HB5.out.trans (hb2.mono (by omega))); have HI2 := Lib.hid (HIN5.out.below hb2 (Nat.le_refl _)); have hs2 := hb2.size; clear hb2)
        | (refine wpList_store_row rfl 26 (.tmp 2) (.tmp 33) ?_ nb (cellsA X) ?_ ?_ 26 zeroRx ?_ (info_rxA _) (by rw [cellsA_size]; rfl) (cellsA_one _) ?_; (with_reducible rfl); rfl; rfl; exact HN2.out)
        | fail)
      refine bodyPost_ret (results_ct rfl _ _ _ nb 26 (cellsA X) (0, 0) _ rfl (setRow_heap _ _ _ _ _ _ (HN2.out)) Tryz.underlying26 (info_rxA _)) rfl ?_
      have hp2 := HP2.out
      rw [if_neg (by omega)] at hp2
      have hnb2 := lt_of_block HN2.out
      refine ⟨by rw [HSZ.out]; exact below_setRow HB2.out (Nat.le_refl _) _, .inl ⟨X, hp2, rfl, ?_⟩⟩
      refine HI2.out.keep fun c hc => ⟨?_, fun o => World.cell?_of_block (w := w2) (setRow_other _ _ _ _ (by have := HXN.out c hc; show c ≠ nb; omega))⟩
      rw [size_setRow]
      have := (HBL.out c hc).2
      omega

theorem rparse_any (w : World) (S : ByteArray) : Calls Tryz.prog 15 #[.string S] w fun e w' => ParseSays w S.data.toList e w' := by
  by_cases hl : 128 < S.size
  · have hlen : S.data.toList.length = S.size := by rw [Array.length_toList]; rfl
    refine (rparse_long w S hl).mono ?_
    rintro e w' ⟨he, hb⟩
    exact ⟨hb, .inr ⟨51, by unfold parseR; rw [if_pos (by omega)], he⟩⟩
  · exact rparse_short w S (by omega)
end Go.Proofs.YtjhclopdcbnmkaaGreatDoor
