/- The audit's Append. -/
import Derived.Test.YtfpbocjmlhcgiaaGreatDoorAg1
import Derived.ArgAppend
set_option linter.unusedSimpArgs false
set_option linter.unusedVariables false
namespace Go.Proofs.YtfpbocjmlhcgiaaGreatDoor
open Go.RowKit PJ Go.Maps

/-- What Clip leaves of a row of records. -/
def ClipV (w : World) (v : Value) (xs : List Rec) : Prop :=
  (v = .slice none 0 0 ∧ xs = []) ∨ ∃ g, v = .slice (some ⟨g, 0, none⟩) xs.length xs.length ∧ ∀ j u, (recsC xs)[j]? = some u → w.cell? ⟨g, j, none⟩ = some u
theorem clipV_of {w : World} {V : Value} {xs : List Rec} (h : RecSl w V xs) : ∃ VC, ClipV w VC xs ∧ ∀ W, Calls Tryz.prog 73 #[V] W fun e w' => e = .returned VC ∧ W = w' := by
  rcases h with ⟨rfl, rfl⟩ | ⟨g, cap, rfl, h1, h2, h3⟩
  · exact ⟨_, .inl ⟨rfl, rfl⟩, fun W => rclip_nil W⟩
  · exact ⟨_, .inr ⟨g, rfl, h3⟩, fun W => rclip_some W g xs.length cap h1⟩
theorem ClipV.later {w w' : World} {v : Value} {xs : List Rec} (h : ClipV w v xs) (hl : LJ w w') : ClipV w' v xs := by
  rcases h with h | ⟨g, h1, h2⟩
  · exact .inl h
  · exact .inr ⟨g, h1, fun j u hu => hl.cell (h2 j u hu)⟩
theorem step_append_clip {ops : Array Oper} {o : Oper} {a : Act} {w : World} {K : Act → World → Prop} {Q : Exit → Act → World → Prop} {E : Prop} (hgd : o.guard = none) (s x : Operand)
    (ho : o.op = .call { callee := .builtin .append, args := #[s, x], argTypes := #[45, 45] }) (v : Value) (xs : List Rec) (hx4 : xs.length ≤ 4096) (hs : a.eval s = v) (hv : ClipV w v xs)
    (ad : Addr) (c : Nat) (news : List Value) (hx : a.eval x = .slice (some ad) 1 c) (hl : news.length = 5) (hnews : ∀ j u, news[j]? = some u → w.cell? (ad.add j) = some u) (h1 : ∀ u ∈ news, u.oneCell' = true)
    (h : ∀ v' w', w'.ownsRow w.heap.size 49 5 v' (xs.length + 1) (recsC xs ++ news) → w.grownBy w' none → K (a.put o.dst v') w') :
    if Region.wanted o (yielded ops a.tmps) = true then Oper.wp Tryz.prog o a w K Q else E := by
  obtain ⟨iR, hiR, hzR, hsR, hbR⟩ := info_parts info_recA
  rcases hv with ⟨rfl, rfl⟩ | ⟨g, rfl, hc⟩
  · exact step_append_lies w hgd s x _ ho w.heap.size _ iR _ 5 48 Tryz.underlying45 hiR hzR hsR hbR rfl (by decide) (.slice none 0 0) 0 [] hs ⟨rfl, .inl ⟨rfl, rfl⟩⟩ ad 1 c news hx hl hnews h1 (by decide) (by unfold maxLen; decide) (by decide) (Nat.le_refl _) _ rfl (fun g cap w' r1 r2 _ _ => h _ _ r1 r2)
  · rw [if_pos (by simp [Region.wanted, hgd])]
    obtain ⟨v', w', hrun, r1, r2⟩ := run_append_arg_grows (P := Tryz.prog) w 45 o.type _ iR _ 5 48 Tryz.underlying45 hiR hzR hsR hbR rfl (by decide) ⟨g, 0, none⟩ xs.length xs.length (recsC xs) (recsC_len xs) (fun j u hj => by rw [addr_none, Nat.zero_add]; exact hc j u hj) ad 1 c news hl hnews (by omega) (by unfold maxLen; omega) (by omega)
    unfold Oper.wp
    simp [execOp, ho, resolve, invoke, builtin, hs, hx, hrun, Result.andThen]
    exact h _ _ r1 r2
/-- What an Append that was taken leaves. -/
def ApOut (w : World) (p b jb : Nat) (F : Nat → Prop) (J : Jn) (A : Nat) (V : Value) (xs : List Rec) (x : Rec) (w' : World) : Prop :=
  ∃ V' F', JAt w' p b jb F' (J.app xs x) ∧ AudB w' A jb (xs ++ [x]) V' ∧ Near w F F' ∧ ¬ F' A ∧ (∀ q, V'.ownBlock = some q → ¬ F' q) ∧ (∀ q, V'.ownBlock = some q → w.heap.size ≤ q) ∧ OnlyJ (fun q => F q ∨ q = A) w w'
set_option maxRecDepth 100000 in
set_option maxHeartbeats 4000000 in
theorem aappend_yes (w : World) (p b jb : Nat) (F : Nat → Prop) (J : Jn) (h : JAt w p b jb F J) (hh : J.head < 4611686018427387904) (hnx : J.next < 4611686018427387904) (A : Nat) (xs : List Rec) (V : Value) (hA : AudB w A jb xs V) (hFA : ¬ F A) (hFV : ∀ q, V.ownBlock = some q → ¬ F q)
    (n f t r : Int) (hb : ByteArray) (hm : Rec.may ⟨n, f, t, r, hb⟩ = true) (hn : n = ((xs.length + 1 : Nat) : Int)) (hl : xs.length < J.n - J.area) :
    Calls Tryz.prog 24 #[.pointer (some ⟨A, 0, none⟩), .agg #[.int .i64 n, .int .i64 f, .int .i64 t, .int .i64 r, .string hb]] w fun e w' => e = .returned (.int .i64 0) ∧ ApOut w p b jb F J A V xs ⟨n, f, t, r, hb⟩ w' := by
  obtain ⟨iR, hiR, hzR, hsR, hbR⟩ := info_parts info_recA
  have hok := h.ok
  have h32 := (may_facts hm).2.2.2.2.2
  have h12 := hok.n12
  have hmayw := may_wrA hok xs ⟨n, f, t, r, hb⟩ h32 hl
  obtain ⟨m, hmm⟩ : ∃ m, J.n - J.area = m := ⟨_, rfl⟩
  obtain ⟨k, hk⟩ : ∃ k, xs.length = k := ⟨_, rfl⟩
  have hk12 : k < m := by omega
  have hm12 : m ≤ 4096 := by omega
  obtain ⟨LO, hLO⟩ : ∃ LO : ByteArray, (⟨(lastL xs).toArray⟩ : ByteArray) = LO := ⟨_, rfl⟩
  have hLOl : LO.data.toList = lastL xs := by rw [← hLO]
  obtain ⟨BY, hBY⟩ : ∃ BY : ByteArray, (⟨(Rec.bytes ⟨n, f, t, r, hb⟩).toArray⟩ : ByteArray) = BY := ⟨_, rfl⟩
  have hBYl : BY.data.toList = Rec.bytes ⟨n, f, t, r, hb⟩ := by rw [← hBY]
  obtain ⟨LK, hLK⟩ : ∃ LK : ByteArray, (⟨(lastL (xs ++ [⟨n, f, t, r, hb⟩])).toArray⟩ : ByteArray) = LK := ⟨_, rfl⟩
  have hLOs : LO.size = 32 := by
    have h1 : LO.data.toList.length = LO.size := by rw [Array.length_toList]; rfl
    rw [hLOl, lastL_len] at h1
    omega
  have hBYs : BY.size = 43 := by
    have h1 : BY.data.toList.length = BY.size := by rw [Array.length_toList]; rfl
    rw [hBYl, Rec.bytes_len h32] at h1
    omega
  have hLKs : LK.size = 32 := by
    have h1 : LK.data.toList.length = LK.size := by rw [Array.length_toList]; rfl
    rw [← hLK] at h1
    show LK.size = 32
    rw [← hLK, ← h1]
    exact lastL_len _
  have HLKE := Lib.hid hLK
  have HBYE := Lib.hid hBY
  have HBW := Lib.hid (fun W => abytes_yes W n f t r hb hm)
  rw [hBY] at HBW
  have HLK := Lib.hid (fun W => show Calls Tryz.prog 68 #[.string LO, .string BY] W fun e w' => e = .returned (.string LK) ∧ LJ W w' from by
    have h1 := hlink_any W LO BY (by omega) (by omega)
    rw [hLOl, hBYl, ← lastL_snoc, hLK] at h1
    exact h1)
  obtain ⟨w1, hw1⟩ : ∃ w1, w.alloc (.cells #[.int .i64 n, .int .i64 f, .int .i64 t, .int .i64 r, .string hb] 49) = w1 := ⟨_, rfl⟩
  have HL1 := Lib.hid (show LJ w w1 from by rw [← hw1]; exact (LJ.refl w).alloc _)
  obtain ⟨q3, hq3⟩ : ∃ q, w.heap.size = q := ⟨_, rfl⟩
  have HB1 := Lib.hid (show w1.heap[q3]? = some (.cells #[.int .i64 n, .int .i64 f, .int .i64 t, .int .i64 r, .string hb] 49 (0, 0)) from by rw [← hw1, ← hq3]; exact alloc_blk w _)
  have HAB := Lib.hid (show w.heap[A]? = some (.cells #[.pointer (some ⟨jb, 0, none⟩), V, .string LO, .bool false] 116 (0, 0)) from by rw [← hLO]; exact hA.blk)
  obtain ⟨ao, cap, hV⟩ : ∃ ao cap, V = .slice ao k cap := by
    rcases hA.row.2 with ⟨e, e2⟩ | ⟨g, cap, cur, e, _⟩
    · exact ⟨none, 0, by rw [e, ← hk, e2]⟩
    · exact ⟨_, cap, by rw [e, hk]⟩
  have HAU := Lib.hid hA
  have HV := Lib.hid hV
  have HJ := Lib.hid h
  have HQ3 := Lib.hid hq3
  have HMM := Lib.hid hmm
  have HK := Lib.hid hk
  have HRM := Lib.hid (fun W (hlj : LJ w W) => aroom_any W p b jb F J (h.later hlj) A xs V (hA.later hlj) (Nat.le_of_lt hl))
  rw [hmm, hk] at HRM
  have HFX := Lib.hid (And.intro hm (And.intro hn (And.intro hok (And.intro hmayw (And.intro hFA hFV)))))
  have hwi : IntKind.i64.wrap ((k : Int) + 1) = n := by rw [hn, hk, IntKind.wrap_i64]; omega
  have a0 : w1.cell? ⟨A, 0, none⟩ = some (.pointer (some ⟨jb, 0, none⟩)) := cell_blk (HL1.out.block HAB.out) 0
  have a1 : w1.cell? ⟨A, 1, none⟩ = some (.slice ao k cap) := by rw [← hV]; exact cell_blk (HL1.out.block HAB.out) 1
  have a3 : w1.cell? ⟨A, 3, none⟩ = some (.bool false) := cell_blk (HL1.out.block HAB.out) 3
  have HHH := Lib.hid (And.intro hh hnx)
  clear h hA hFA hFV hm hn hl hok h32 h12 hmayw hmm hk hLO hLOl hBY hBYl hq3 hV hh hnx
  go_enter Tryz.func24, Tryz.ntmps24
  go_upto_region 1 with fail
  have e3 := HQ3.out
  rw [e3]
  clear e3 hw1
  go_upto_region 3 with fail
  go_upto_region 4 with (first
    | (refine wpList_load_row rfl 49 (.tmp 3) rfl q3 rfl 49 _ (0, 0) _ HB1.out Tryz.underlying49 rfl info_rec ?_)
    | (go_at_call 67; (with_reducible refine (HBW.out _).mono ?_); rintro e w2 ⟨rfl, hl2⟩; have HL2 := Lib.hid (HL1.out.trans hl2); have HL12 := Lib.hid hl2; clear hl2)
    | fail)
  clear a0 a1 a3
  have b0 : w2.cell? ⟨q3, 0, none⟩ = some (.int .i64 n) := cell_blk (HL12.out.block HB1.out) 0
  have b1 : w2.cell? ⟨A, 1, none⟩ = some (.slice ao k cap) := by rw [← HV.out]; exact cell_blk (HL2.out.block HAB.out) 1
  go_quiet (fail)
  have HRM2 := Lib.hid (fun j => HRM.out (w2.drewN j) (HL2.out.drewN j))
  have b2 : w2.cell? ⟨A, 2, none⟩ = some (.string LO) := cell_blk (HL2.out.block HAB.out) 2
  have hmk0 : decide (((m - k : Nat) : Int) = 0) = false := by simp; omega
  have hmk1 : ¬ ((m - k : Nat) : Int) = 0 := by omega
  go_upto_region 8 with (first
    | (go_at_call 25; (with_reducible refine (HRM2.out _).mono ?_); rintro e w3 ⟨rfl, nr, rfl⟩)
    | fail)
  go_upto_region 9 with (first
    | (go_at_call 68; (with_reducible refine (HLK.out _).mono ?_); rintro e w4 ⟨rfl, hl4⟩; have HL4 := Lib.hid hl4; clear hl4)
    | fail)
  have HW4 := Lib.hid ((HL2.out.drewN _).trans HL4.out)
  obtain ⟨D1, hD1⟩ : ∃ D1 : ByteArray, (⟨#[1]⟩ : ByteArray) ++ BY = D1 := ⟨_, rfl⟩
  obtain ⟨D, hD⟩ : ∃ D : ByteArray, D1 ++ LK = D := ⟨_, rfl⟩
  have hDW : (wrA xs ⟨n, f, t, r, hb⟩) = ⟨(k : Int), D⟩ := by
    unfold wrA
    rw [HK.out]
    congr 1
    apply ByteArray.ext
    apply Array.toList_inj.1
    rw [← hD, ← hD1, app_data, app_data, ← HLKE.out, ← HBYE.out]
    simp
  have hD1s : D1.size = 44 := by rw [← hD1, ByteArray.size_append, hBYs]; rfl
  have hbig1 : ¬ 9223372036854775807 < (⟨#[1]⟩ : ByteArray).size + BY.size := by rw [hBYs]; show ¬ 9223372036854775807 < 1 + 43; omega
  have hbig2 : ¬ 9223372036854775807 < D1.size + LK.size := by omega
  clear b0 b1 b2 hmk0 hmk1
  have s0 : w4.cell? ⟨A, 0, none⟩ = some (.pointer (some ⟨jb, 0, none⟩)) := cell_blk (HW4.out.block HAB.out) 0
  have s1 : w4.cell? ⟨A, 1, none⟩ = some (.slice ao k cap) := by rw [← HV.out]; exact cell_blk (HW4.out.block HAB.out) 1
  refine wp_region_held_drew (S := fun w' => w'.cell? ⟨A, 0, none⟩ = some (.pointer (some ⟨jb, 0, none⟩)) ∧ w'.cell? ⟨A, 1, none⟩ = some (.slice ao k cap)) (by kernel_rfl) ⟨s0, s1⟩ (fun hHeld => ?_)
  clear s0 s1
  obtain ⟨w5, hw5⟩ : ∃ w5, w4.drew = w5 := ⟨_, rfl⟩
  have HW5 := Lib.hid (show LJ w w5 from by rw [← hw5]; exact HW4.out.drew)
  have HW15 := Lib.hid (show LJ w1 w5 from by rw [← hw5]; exact ((HL12.out.drewN _).trans HL4.out).drew)
  rw [hw5] at hHeld ⊢
  clear hw5
  have HCM := Lib.hid (show Calls Tryz.prog 74 #[.pointer (some ⟨jb, 0, none⟩), .slice (some ⟨w5.heap.size, 0, none⟩) 1 1] (w5.alloc (.cells #[.int .i64 (k : Int), .string D] 130)) fun e w' => e = .returned (.int .i64 0) ∧ JOut w5 p b jb F (J.commit [wrA xs ⟨n, f, t, r, hb⟩]) w' from by
    have hmw := HFX.out.2.2.2.1
    have h1 := commit_lit w5 p b jb F J (HJ.out.later HW5.out) HHH.out.1 HHH.out.2 [wrA xs ⟨n, f, t, r, hb⟩] (by simp) (by simp) (fun y hy => by
      have e : y = wrA xs ⟨n, f, t, r, hb⟩ := by simpa using hy
      rw [e, wrA_size _ _ (may_facts HFX.out.1).2.2.2.2.2]
      omega)
    rw [hmw, if_pos rfl, hDW] at h1
    rw [hDW]
    exact h1)
  obtain ⟨wB, hwB⟩ : ∃ wB, w5.alloc (.cells #[.int .i64 (k : Int), .string D] 130) = wB := ⟨_, rfl⟩
  rw [hwB] at HCM
  have HLB := Lib.hid (show LJ w5 wB from by rw [← hwB]; exact (LJ.refl w5).alloc _)
  clear hDW
  refine tkS 0 hHeld ?_ (hy := by rintro w ⟨s0, s1⟩; go_simp; (try with_reducible rfl))
  refine tkS 1 hHeld ?_ (hy := by rintro w ⟨s0, s1⟩; go_simp; (try with_reducible rfl))
  refine tkS 2 hHeld ?_ (hy := by rintro w ⟨s0, s1⟩; go_simp; (try with_reducible rfl))
  refine tkS 3 hHeld ?_ (hy := by rintro w ⟨s0, s1⟩; go_simp; (try with_reducible rfl))
  refine tkS 4 hHeld ?_ (hy := by rintro w ⟨s0, s1⟩; go_simp; (try with_reducible rfl))
  refine tkS 5 hHeld ?_ (hy := by rintro w ⟨s0, s1⟩; go_simp; (try with_reducible rfl))
  refine tkS 6 hHeld ?_ (hy := by rintro w ⟨s0, s1⟩; go_simp; (try with_reducible rfl))
  refine tkS 7 hHeld ?_ (hy := by rintro w ⟨s0, s1⟩; go_simp; (try with_reducible rfl))
  refine tkS 8 hHeld ?_ (hy := by rintro w ⟨s0, s1⟩; go_simp; (try with_reducible rfl))
  refine tkS 9 hHeld ?_ (hy := by rintro w ⟨s0, s1⟩; go_simp; (try with_reducible rfl))
  refine tkS 10 hHeld ?_ (hy := by rintro w ⟨s0, s1⟩; go_simp; (try with_reducible rfl))
  refine tkS 11 hHeld ?_ (hy := by rintro w ⟨s0, s1⟩; go_simp; (try with_reducible rfl))
  refine tkS 12 hHeld ?_ (hy := by rintro w ⟨s0, s1⟩; go_simp; (try with_reducible rfl))
  refine tkS 13 hHeld ?_ (hy := by rintro w ⟨s0, s1⟩; go_simp; (try with_reducible rfl))
  refine wpAnyH_ready (rs := [14]) (by kernel_rfl) (by simp) ?_
  refine AllReadyH.cons rfl (fun K hK => ?_) AllReadyH.nil
  go_simp
  refine hK.out _ _ ⟨HLB.out.cell hHeld.1, HLB.out.cell hHeld.2⟩ (fun hHeld => ?_)
  clear hK K
  refine wpAnyH_ready (rs := [15]) (by kernel_rfl) (by simp) ?_
  refine AllReadyH.cons rfl (fun K hK => ?_) AllReadyH.nil
  go_simp
  (with_reducible refine HCM.out.mono ?_); rintro e w6 ⟨rfl, ho6⟩
  have hl6 := ho6.2
  have hA6 : w6.heap[A]? = some (.cells #[.pointer (some ⟨jb, 0, none⟩), V, .string LO, .bool false] 116 (0, 0)) := (hl6.block A (lt_blk (HW5.out.block HAB.out)) HFX.out.2.2.2.2.1).trans (HW5.out.block HAB.out)
  have HA6 := Lib.hid hA6
  have HO6 := Lib.hid ho6
  clear ho6 hl6 hA6
  refine hK.out _ _ ⟨cell_blk HA6.out 0, by rw [← HV.out]; exact cell_blk HA6.out 1⟩ (fun hHeld => ?_)
  clear hK K
  refine tkS 16 hHeld ?_ (hy := by rintro w ⟨s0, s1⟩; go_simp; (try with_reducible rfl))
  refine wpAnyH_done (by kernel_rfl) ?_ _
  go_simp
  have a60 : w6.cell? ⟨A, 0, none⟩ = some (.pointer (some ⟨jb, 0, none⟩)) := cell_blk HA6.out 0
  have HSY := Lib.hid (sync_any w6 p b jb _ _ HO6.out.1)
  go_upto_region 15 with (first
    | (go_at_call 75; (with_reducible refine HSY.out.mono ?_); rintro e w7 ⟨rfl, ho7⟩; have HO7 := Lib.hid ho7; clear ho7)
    | fail)
  have hFA6 : ¬ grow F w5 w6 A := grow_not HFX.out.2.2.2.2.1 (lt_blk (HW5.out.block HAB.out))
  have hA7 := (HO7.out.2.block A (lt_blk HA6.out) hFA6).trans HA6.out
  have hq5 := HW15.out.block HB1.out
  have hFq : ¬ F q3 := fun e => by have := HJ.out.lt q3 e; have h2 := HQ3.out; omega
  have hq6 := (HO6.out.2.block q3 (lt_blk hq5) hFq).trans hq5
  have hFq6 : ¬ grow F w5 w6 q3 := grow_not hFq (lt_blk hq5)
  have hq7 := (HO7.out.2.block q3 (lt_blk hq6) hFq6).trans hq6
  have hrow7 : w7.ownsRow 0 49 5 V xs.length (recsC xs) := by
    have r5 := own_below HAU.out.row HW5.out
    have r6 := own_only r5 HO6.out.2 HFX.out.2.2.2.2.2
    exact own_only r6 HO7.out.2 (fun q hq => grow_not (HFX.out.2.2.2.2.2 q hq) (r5.lt q hq).2)
  obtain ⟨VC, hvc, hcp⟩ := clipV_of (own_recs hrow7)
  obtain ⟨wE, hwE⟩ : ∃ wE, w7.drew = wE := ⟨_, rfl⟩
  have HLE := Lib.hid (show LJ w7 wE from by rw [← hwE]; exact (LJ.refl w7).drew)
  have HVC := Lib.hid (hvc.later HLE.out)
  have HCP := Lib.hid hcp
  have HAE := Lib.hid (HLE.out.block hA7)
  have HQE := Lib.hid (HLE.out.block hq7)
  have HQA := Lib.hid (show ¬ q3 = A from fun e => by have h1 := lt_blk HAB.out; have h2 := HQ3.out; omega)
  have HX4 := Lib.hid (show xs.length ≤ 4096 from by have := HK.out; omega)
  have HFIN := Lib.hid (fun (V' : Value) (w8 w9 w10 : World) => show (w8.ownsRow (wE.alloc (.cells #[.int .i64 n, .int .i64 f, .int .i64 t, .int .i64 r, .string hb] 49)).heap.size 49 5 V' (xs.length + 1) (recsC xs ++ [.int .i64 n, .int .i64 f, .int .i64 t, .int .i64 r, .string hb])) → (wE.alloc (.cells #[.int .i64 n, .int .i64 f, .int .i64 t, .int .i64 r, .string hb] 49)).grownBy w8 none → OnlyJ (fun q => q = A) w8 w9 → OnlyJ (fun q => q = A) w9 w10 → w10.heap[A]? = some (.cells #[.pointer (some ⟨jb, 0, none⟩), V', .string LK, .bool false] 116 (0, 0)) → ApOut w p b jb F J A V xs ⟨n, f, t, r, hb⟩ w10 from by
    intro hown hgr ho9 ho10 hA10
    have hlF : LJ w7 (wE.alloc (.cells #[.int .i64 n, .int .i64 f, .int .i64 t, .int .i64 r, .string hb] 49)) := HLE.out.alloc _
    have o1 : OnlyJ (fun q => q = A) w7 _ := OnlyJ.of_below hlF
    have o2 : OnlyJ (fun q => q = A) _ w8 := (OnlyJ.row hgr).mono (fun k _ hk => by cases hk)
    have o : OnlyJ (fun q => q = A) w7 w10 := ((o1.trans o2).trans ho9).trans ho10
    have hs := o.size
    have s5 := HW5.out.size
    have s6 := HO6.out.2.size
    have s7 := HO7.out.2.size
    have sF := hlF.size
    have hlt7 := HO7.out.1.lt
    have hAw := lt_blk HAB.out
    have hFA7 : ¬ grow (grow F w5 w6) w6 w7 A := grow_not hFA6 (lt_blk HA6.out)
    refine ⟨V', grow (grow F w5 w6) w6 w7, ?_, ⟨?_, ?_, fun e => by have := (hown.lt A e).1; omega⟩, ?_, hFA7, ?_, ?_, ?_⟩
    · exact JAt.kept (J := J.app xs ⟨n, f, t, r, hb⟩) HO7.out.1 hs (fun k hk => o.block k (hlt7 k hk) (fun e => hFA7 (e ▸ hk))) (fun _ h => h) (fun q hq => by have := hlt7 q hq; omega)
    · rw [HLKE.out]
      exact hA10
    · rw [List.length_append, recsC_snoc]
      exact own_only (own_base hown (by omega)) (ho9.trans ho10) (fun q hq e => by have := (hown.lt q hq).1; omega)
    · exact Near.grow (Near.grow (fun q hq _ => hq) s5) (by omega)
    · intro q hq e
      have h1 := (hown.lt q hq).1
      have h2 := hlt7 q e
      omega
    · intro q hq
      have h1 := (hown.lt q hq).1
      omega
    · have p5 : OnlyJ F w w5 := OnlyJ.of_below HW5.out
      have p7 : OnlyJ F w w7 := (p5.trans HO6.out.2).near HO7.out.2 (Near.grow (fun q hq _ => hq) s5)
      exact (p7.mono (fun k _ hk => .inl hk)).trans (o.mono (fun k _ hk => .inr hk)))
  refine wp_region_held_drew (S := fun w' => w'.heap[q3]? = some (.cells #[.int .i64 n, .int .i64 f, .int .i64 t, .int .i64 r, .string hb] 49 (0, 0))) (by kernel_rfl) hq7 (fun hHeld => ?_)
  rw [hwE] at hHeld ⊢
  clear a60 hA7 hq5 hFq hq6 hFq6 hq7 hrow7 hvc hcp hwE hFA6
  obtain ⟨wF, hwF⟩ : ∃ wF, wE.alloc (.cells #[.int .i64 n, .int .i64 f, .int .i64 t, .int .i64 r, .string hb] 49) = wF := ⟨_, rfl⟩
  rw [hwF] at HFIN
  have HLF := Lib.hid (show LJ wE wF from by rw [← hwF]; exact (LJ.refl wE).alloc _)
  have HCN := Lib.hid (show ∀ j u, [Value.int .i64 n, .int .i64 f, .int .i64 t, .int .i64 r, .string hb][j]? = some u → wF.cell? ((⟨wE.heap.size, 0, none⟩ : Addr).add j) = some u from by rw [← hwF]; exact cells_newJ wE [.int .i64 n, .int .i64 f, .int .i64 t, .int .i64 r, .string hb] 49)
  have cE : wE.cell? ⟨A, 1, none⟩ = some V := cell_blk HAE.out 1
  have cF : wF.cell? ⟨A, 1, none⟩ = some V := HLF.out.cell cE
  refine tkS 0 hHeld ?_
  refine tkS 1 hHeld ?_
  refine tkS 2 hHeld ?_
  refine tkS 3 hHeld ?_
  refine tkS 4 hHeld ?_
  refine tkS 7 hHeld ?_ (hy := by intro w hSw; have l0 := cell_blk hSw 0; have l1 := cell_blk hSw 1; have l2 := cell_blk hSw 2; have l3 := cell_blk hSw 3; have l4 := cell_blk hSw 4; go_simp; (try with_reducible rfl))
  refine tkS 10 hHeld ?_
  refine wpAnyH_ready (rs := [5, 8]) (by kernel_rfl) (by simp) ?_
  refine AllReadyH.cons rfl (fun K hK => ?_) (AllReadyH.cons rfl (fun K hK => ?_) AllReadyH.nil)
  · go_simp
    refine hK.out _ _ HQE.out (fun hHeld => ?_)
    clear hK K
    refine wpAnyH_ready (rs := [6, 8]) (by kernel_rfl) (by simp) ?_
    refine AllReadyH.cons rfl (fun K hK => ?_) (AllReadyH.cons rfl (fun K hK => ?_) AllReadyH.nil)
    · go_simp
      (with_reducible refine (HCP.out _).mono ?_); rintro e wx ⟨rfl, hwx⟩; subst hwx
      refine hK.out _ _ HQE.out (fun hHeld => ?_)
      clear hK K
      refine wpAnyH_ready (rs := [8]) (by kernel_rfl) (by simp) ?_
      refine AllReadyH.cons rfl (fun K hK => ?_) AllReadyH.nil
      go_simp
      refine hK.out _ _ (HLF.out.block HQE.out) (fun hHeld => ?_)
      clear hK K
      refine wpAnyH_ready (rs := [9]) (by kernel_rfl) (by simp) ?_
      refine AllReadyH.cons rfl (fun K hK => ?_) AllReadyH.nil
      refine step_append_clip rfl (.tmp 84) (.tmp 86) rfl VC xs HX4.out rfl (HVC.out.later HLF.out) ⟨wE.heap.size, 0, none⟩ 1 [.int .i64 n, .int .i64 f, .int .i64 t, .int .i64 r, .string hb] rfl rfl HCN.out (by intro u hu; simp only [List.mem_cons, List.not_mem_nil, or_false] at hu; rcases hu with rfl | rfl | rfl | rfl | rfl <;> rfl) ?_
      intro V' w8 hown8 hgrow8
      obtain ⟨g8, cap8, hV8, hg81, hg82⟩ := hown8.form (by omega)
      subst hV8
      have hA8 : w8.heap[A]? = some (.cells #[.pointer (some ⟨jb, 0, none⟩), V, .string LO, .bool false] 116 (0, 0)) := (hgrow8.block A (lt_blk (HLF.out.block HAE.out)) (fun e => by cases e)).trans (HLF.out.block HAE.out)
      have hq8 : w8.heap[q3]? = some (.cells #[.int .i64 n, .int .i64 f, .int .i64 t, .int .i64 r, .string hb] 49 (0, 0)) := (hgrow8.block q3 (lt_blk (HLF.out.block HQE.out)) (fun e => by cases e)).trans (HLF.out.block HQE.out)
      refine hK.out _ _ hq8 (fun hHeld => ?_)
      clear hK K
      refine tkS 11 hHeld ?_
      refine tkS 12 hHeld ?_
      have k1 := cell_blk hA8 1
      have k1f := free_blk hA8 1
      refine wpAnyH_ready (rs := [13]) (by kernel_rfl) (by simp) ?_
      refine AllReadyH.cons rfl (fun K hK => ?_) AllReadyH.nil
      go_simp
      obtain ⟨w9, hw9⟩ : ∃ w9, w8.setCell ⟨A, 1, none⟩ (.slice (some ⟨g8, 0, none⟩) (xs.length + 1) cap8) = w9 := ⟨_, rfl⟩
      rw [hw9]
      have ho9 : OnlyJ (fun q => q = A) w8 w9 := by rw [← hw9]; exact setCell_only _ _ _ _
      have hA9 : w9.heap[A]? = some (.cells #[.pointer (some ⟨jb, 0, none⟩), .slice (some ⟨g8, 0, none⟩) (xs.length + 1) cap8, .string LO, .bool false] 116 (0, 0)) := by rw [← hw9]; exact heap_setCell_same _ _ 1 _ _ _ hA8
      have hq9 := (ho9.block q3 (lt_blk hq8) (fun e => HQA.out e)).trans hq8
      refine hK.out _ _ hq9 (fun hHeld => ?_)
      clear hK K k1 k1f
      have HGR := Lib.hid hgrow8
      have HOWN := Lib.hid hown8
      have HO9 := Lib.hid ho9
      clear hgrow8 hown8 ho9 hw9 hA8 hq8
      refine tkS 14 hHeld ?_
      refine tkS 15 hHeld ?_
      have k2 := cell_blk hA9 2
      have k2f := free_blk hA9 2
      refine wpAnyH_ready (rs := [16]) (by kernel_rfl) (by simp) ?_
      refine AllReadyH.cons rfl (fun K hK => ?_) AllReadyH.nil
      go_simp
      obtain ⟨w10, hw10⟩ : ∃ w10, w9.setCell ⟨A, 2, none⟩ (.string LK) = w10 := ⟨_, rfl⟩
      rw [hw10]
      have ho10 : OnlyJ (fun q => q = A) w9 w10 := by rw [← hw10]; exact setCell_only _ _ _ _
      have hA10 : w10.heap[A]? = some (.cells #[.pointer (some ⟨jb, 0, none⟩), .slice (some ⟨g8, 0, none⟩) (xs.length + 1) cap8, .string LK, .bool false] 116 (0, 0)) := by rw [← hw10]; exact heap_setCell_same _ _ 2 _ _ _ hA9
      have hq10 := (ho10.block q3 (lt_blk hq9) (fun e => HQA.out e)).trans hq9
      refine hK.out _ _ hq10 (fun hHeld => ?_)
      have HO10 := Lib.hid ho10
      have HA10 := Lib.hid hA10
      clear hK K k2 k2f ho10 hA10 hw10 hA9 hq9 hq10 hHeld
      refine wpAnyH_done (by kernel_rfl) ?_ _
      go_simp
      go_wp2_with fail
      go_ret
      exact ⟨rfl, HFIN.out _ w8 w9 w10 HOWN.out HGR.out HO9.out HO10.out HA10.out⟩
    · go_simp
      refine hK.out _ _ (HLF.out.block HQE.out) (fun hHeld => ?_)
      clear hK K
      refine wpAnyH_ready (rs := [6]) (by kernel_rfl) (by simp) ?_
      refine AllReadyH.cons rfl (fun K hK => ?_) AllReadyH.nil
      go_simp
      (with_reducible refine (HCP.out _).mono ?_); rintro e wx ⟨rfl, hwx⟩; subst hwx
      refine hK.out _ _ (HLF.out.block HQE.out) (fun hHeld => ?_)
      clear hK K
      refine wpAnyH_ready (rs := [9]) (by kernel_rfl) (by simp) ?_
      refine AllReadyH.cons rfl (fun K hK => ?_) AllReadyH.nil
      refine step_append_clip rfl (.tmp 84) (.tmp 86) rfl VC xs HX4.out rfl (HVC.out.later HLF.out) ⟨wE.heap.size, 0, none⟩ 1 [.int .i64 n, .int .i64 f, .int .i64 t, .int .i64 r, .string hb] rfl rfl HCN.out (by intro u hu; simp only [List.mem_cons, List.not_mem_nil, or_false] at hu; rcases hu with rfl | rfl | rfl | rfl | rfl <;> rfl) ?_
      intro V' w8 hown8 hgrow8
      obtain ⟨g8, cap8, hV8, hg81, hg82⟩ := hown8.form (by omega)
      subst hV8
      have hA8 : w8.heap[A]? = some (.cells #[.pointer (some ⟨jb, 0, none⟩), V, .string LO, .bool false] 116 (0, 0)) := (hgrow8.block A (lt_blk (HLF.out.block HAE.out)) (fun e => by cases e)).trans (HLF.out.block HAE.out)
      have hq8 : w8.heap[q3]? = some (.cells #[.int .i64 n, .int .i64 f, .int .i64 t, .int .i64 r, .string hb] 49 (0, 0)) := (hgrow8.block q3 (lt_blk (HLF.out.block HQE.out)) (fun e => by cases e)).trans (HLF.out.block HQE.out)
      refine hK.out _ _ hq8 (fun hHeld => ?_)
      clear hK K
      refine tkS 11 hHeld ?_
      refine tkS 12 hHeld ?_
      have k1 := cell_blk hA8 1
      have k1f := free_blk hA8 1
      refine wpAnyH_ready (rs := [13]) (by kernel_rfl) (by simp) ?_
      refine AllReadyH.cons rfl (fun K hK => ?_) AllReadyH.nil
      go_simp
      obtain ⟨w9, hw9⟩ : ∃ w9, w8.setCell ⟨A, 1, none⟩ (.slice (some ⟨g8, 0, none⟩) (xs.length + 1) cap8) = w9 := ⟨_, rfl⟩
      rw [hw9]
      have ho9 : OnlyJ (fun q => q = A) w8 w9 := by rw [← hw9]; exact setCell_only _ _ _ _
      have hA9 : w9.heap[A]? = some (.cells #[.pointer (some ⟨jb, 0, none⟩), .slice (some ⟨g8, 0, none⟩) (xs.length + 1) cap8, .string LO, .bool false] 116 (0, 0)) := by rw [← hw9]; exact heap_setCell_same _ _ 1 _ _ _ hA8
      have hq9 := (ho9.block q3 (lt_blk hq8) (fun e => HQA.out e)).trans hq8
      refine hK.out _ _ hq9 (fun hHeld => ?_)
      clear hK K k1 k1f
      have HGR := Lib.hid hgrow8
      have HOWN := Lib.hid hown8
      have HO9 := Lib.hid ho9
      clear hgrow8 hown8 ho9 hw9 hA8 hq8
      refine tkS 14 hHeld ?_
      refine tkS 15 hHeld ?_
      have k2 := cell_blk hA9 2
      have k2f := free_blk hA9 2
      refine wpAnyH_ready (rs := [16]) (by kernel_rfl) (by simp) ?_
      refine AllReadyH.cons rfl (fun K hK => ?_) AllReadyH.nil
      go_simp
      obtain ⟨w10, hw10⟩ : ∃ w10, w9.setCell ⟨A, 2, none⟩ (.string LK) = w10 := ⟨_, rfl⟩
      rw [hw10]
      have ho10 : OnlyJ (fun q => q = A) w9 w10 := by rw [← hw10]; exact setCell_only _ _ _ _
      have hA10 : w10.heap[A]? = some (.cells #[.pointer (some ⟨jb, 0, none⟩), .slice (some ⟨g8, 0, none⟩) (xs.length + 1) cap8, .string LK, .bool false] 116 (0, 0)) := by rw [← hw10]; exact heap_setCell_same _ _ 2 _ _ _ hA9
      have hq10 := (ho10.block q3 (lt_blk hq9) (fun e => HQA.out e)).trans hq9
      refine hK.out _ _ hq10 (fun hHeld => ?_)
      have HO10 := Lib.hid ho10
      have HA10 := Lib.hid hA10
      clear hK K k2 k2f ho10 hA10 hw10 hA9 hq9 hq10 hHeld
      refine wpAnyH_done (by kernel_rfl) ?_ _
      go_simp
      go_wp2_with fail
      go_ret
      exact ⟨rfl, HFIN.out _ w8 w9 w10 HOWN.out HGR.out HO9.out HO10.out HA10.out⟩
  · go_simp
    refine hK.out _ _ (HLF.out.block HQE.out) (fun hHeld => ?_)
    clear hK K
    refine wpAnyH_ready (rs := [5]) (by kernel_rfl) (by simp) ?_
    refine AllReadyH.cons rfl (fun K hK => ?_) AllReadyH.nil
    go_simp
    refine hK.out _ _ (HLF.out.block HQE.out) (fun hHeld => ?_)
    clear hK K
    refine wpAnyH_ready (rs := [6]) (by kernel_rfl) (by simp) ?_
    refine AllReadyH.cons rfl (fun K hK => ?_) AllReadyH.nil
    go_simp
    (with_reducible refine (HCP.out _).mono ?_); rintro e wx ⟨rfl, hwx⟩; subst hwx
    refine hK.out _ _ (HLF.out.block HQE.out) (fun hHeld => ?_)
    clear hK K
    refine wpAnyH_ready (rs := [9]) (by kernel_rfl) (by simp) ?_
    refine AllReadyH.cons rfl (fun K hK => ?_) AllReadyH.nil
    refine step_append_clip rfl (.tmp 84) (.tmp 86) rfl VC xs HX4.out rfl (HVC.out.later HLF.out) ⟨wE.heap.size, 0, none⟩ 1 [.int .i64 n, .int .i64 f, .int .i64 t, .int .i64 r, .string hb] rfl rfl HCN.out (by intro u hu; simp only [List.mem_cons, List.not_mem_nil, or_false] at hu; rcases hu with rfl | rfl | rfl | rfl | rfl <;> rfl) ?_
    intro V' w8 hown8 hgrow8
    obtain ⟨g8, cap8, hV8, hg81, hg82⟩ := hown8.form (by omega)
    subst hV8
    have hA8 : w8.heap[A]? = some (.cells #[.pointer (some ⟨jb, 0, none⟩), V, .string LO, .bool false] 116 (0, 0)) := (hgrow8.block A (lt_blk (HLF.out.block HAE.out)) (fun e => by cases e)).trans (HLF.out.block HAE.out)
    have hq8 : w8.heap[q3]? = some (.cells #[.int .i64 n, .int .i64 f, .int .i64 t, .int .i64 r, .string hb] 49 (0, 0)) := (hgrow8.block q3 (lt_blk (HLF.out.block HQE.out)) (fun e => by cases e)).trans (HLF.out.block HQE.out)
    refine hK.out _ _ hq8 (fun hHeld => ?_)
    clear hK K
    refine tkS 11 hHeld ?_
    refine tkS 12 hHeld ?_
    have k1 := cell_blk hA8 1
    have k1f := free_blk hA8 1
    refine wpAnyH_ready (rs := [13]) (by kernel_rfl) (by simp) ?_
    refine AllReadyH.cons rfl (fun K hK => ?_) AllReadyH.nil
    go_simp
    obtain ⟨w9, hw9⟩ : ∃ w9, w8.setCell ⟨A, 1, none⟩ (.slice (some ⟨g8, 0, none⟩) (xs.length + 1) cap8) = w9 := ⟨_, rfl⟩
    rw [hw9]
    have ho9 : OnlyJ (fun q => q = A) w8 w9 := by rw [← hw9]; exact setCell_only _ _ _ _
    have hA9 : w9.heap[A]? = some (.cells #[.pointer (some ⟨jb, 0, none⟩), .slice (some ⟨g8, 0, none⟩) (xs.length + 1) cap8, .string LO, .bool false] 116 (0, 0)) := by rw [← hw9]; exact heap_setCell_same _ _ 1 _ _ _ hA8
    have hq9 := (ho9.block q3 (lt_blk hq8) (fun e => HQA.out e)).trans hq8
    refine hK.out _ _ hq9 (fun hHeld => ?_)
    clear hK K k1 k1f
    have HGR := Lib.hid hgrow8
    have HOWN := Lib.hid hown8
    have HO9 := Lib.hid ho9
    clear hgrow8 hown8 ho9 hw9 hA8 hq8
    refine tkS 14 hHeld ?_
    refine tkS 15 hHeld ?_
    have k2 := cell_blk hA9 2
    have k2f := free_blk hA9 2
    refine wpAnyH_ready (rs := [16]) (by kernel_rfl) (by simp) ?_
    refine AllReadyH.cons rfl (fun K hK => ?_) AllReadyH.nil
    go_simp
    obtain ⟨w10, hw10⟩ : ∃ w10, w9.setCell ⟨A, 2, none⟩ (.string LK) = w10 := ⟨_, rfl⟩
    rw [hw10]
    have ho10 : OnlyJ (fun q => q = A) w9 w10 := by rw [← hw10]; exact setCell_only _ _ _ _
    have hA10 : w10.heap[A]? = some (.cells #[.pointer (some ⟨jb, 0, none⟩), .slice (some ⟨g8, 0, none⟩) (xs.length + 1) cap8, .string LK, .bool false] 116 (0, 0)) := by rw [← hw10]; exact heap_setCell_same _ _ 2 _ _ _ hA9
    have hq10 := (ho10.block q3 (lt_blk hq9) (fun e => HQA.out e)).trans hq9
    refine hK.out _ _ hq10 (fun hHeld => ?_)
    have HO10 := Lib.hid ho10
    have HA10 := Lib.hid hA10
    clear hK K k2 k2f ho10 hA10 hw10 hA9 hq9 hq10 hHeld
    refine wpAnyH_done (by kernel_rfl) ?_ _
    go_simp
    go_wp2_with fail
    go_ret
    exact ⟨rfl, HFIN.out _ w8 w9 w10 HOWN.out HGR.out HO9.out HO10.out HA10.out⟩
end Go.Proofs.YtfpbocjmlhcgiaaGreatDoor
