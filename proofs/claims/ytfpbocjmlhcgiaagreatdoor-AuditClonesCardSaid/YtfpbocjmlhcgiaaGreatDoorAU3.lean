/- The audit's Open: cells that are records, then noughts. -/
import Derived.Test.YtfpbocjmlhcgiaaGreatDoorAU2
import Derived.Test.YtfpbocjmlhcgiaaGreatDoorJg18
set_option linter.unusedSimpArgs false
set_option linter.unusedVariables false
namespace Go.Proofs.YtfpbocjmlhcgiaaGreatDoor
open Go.RowKit PJ Go.Maps

def recC (x : Rec) : List Value := [.int .i64 x.n, .int .i64 x.f, .int .i64 x.t, .int .i64 x.r, .string x.h]
def recsC (xs : List Rec) : List Value := xs.flatMap recC
theorem recsC_len : ∀ xs : List Rec, (recsC xs).length = xs.length * 5
  | [] => rfl
  | x :: r => by
    have := recsC_len r
    unfold recsC at this ⊢
    rw [List.flatMap_cons, List.length_append, this]
    simp only [recC, List.length_cons, List.length_nil]
    omega
theorem recsC_snoc (xs : List Rec) (x : Rec) : recsC (xs ++ [x]) = recsC xs ++ recC x := by simp [recsC]
/-- The link behind so many records. -/
def lastL (xs : List Rec) : List UInt8 := xs.foldl (fun lk x => linkB lk x.bytes) (zs 32)
theorem lastL_snoc (xs : List Rec) (x : Rec) : lastL (xs ++ [x]) = linkB (lastL xs) x.bytes := by simp [lastL]
theorem lastL_len (xs : List Rec) : (lastL xs).length = 32 := by
  rcases List.eq_nil_or_concat xs with rfl | ⟨l, x, rfl⟩
  · simp [lastL, zs]
  · rw [List.concat_eq_append, lastL_snoc, linkB_len]
/-- Cells that are records, then noughts. -/
structure AuC (J : Jn) (xs : List Rec) : Prop where
  len : xs.length ≤ J.n - J.area
  cell : ∀ i x, xs[i]? = some x → J.cell i = cellB x (lastL (xs.take (i + 1)))
  none : ∀ i, xs.length ≤ i → i < J.n - J.area → J.cell i = zs 116
  ok : ∀ i x, xs[i]? = some x → x.may = true ∧ x.n = ((i + 1 : Nat) : Int)
/-- An audit in memory. -/
structure AudAt (w : World) (A jb : Nat) (xs : List Rec) (V : Value) : Prop where
  blk : w.heap[A]? = some (.cells #[.pointer (some ⟨jb, 0, none⟩), V, .string ⟨(lastL xs).toArray⟩, .bool false] 116 (0, 0))
  row : w.ownsRow (A + 1) 49 5 V xs.length (recsC xs)
theorem AudAt.later {w w' : World} {A jb : Nat} {xs : List Rec} {V : Value} (h : AudAt w A jb xs V) (hl : LJ w w') : AudAt w' A jb xs V := ⟨hl.block h.blk, own_below h.row hl⟩
/-- The same, wherever the records lie. -/
structure AudB (w : World) (A jb : Nat) (xs : List Rec) (V : Value) : Prop where
  blk : w.heap[A]? = some (.cells #[.pointer (some ⟨jb, 0, none⟩), V, .string ⟨(lastL xs).toArray⟩, .bool false] 116 (0, 0))
  row : w.ownsRow 0 49 5 V xs.length (recsC xs)
  va : V.ownBlock ≠ some A
theorem AudB.later {w w' : World} {A jb : Nat} {xs : List Rec} {V : Value} (h : AudB w A jb xs V) (hl : LJ w w') : AudB w' A jb xs V := ⟨hl.block h.blk, own_below h.row hl, h.va⟩
theorem own_base0 {w : World} {B : Nat} {T : TypeId} {s n : Nat} {v : Value} {xs : List Value} (h : w.ownsRow B T s v n xs) : w.ownsRow 0 T s v n xs := by
  rcases h with ⟨h0, h | ⟨g, cap, cur, h1, h2, h3⟩⟩
  · exact ⟨h0, .inl h⟩
  · exact ⟨h0, .inr ⟨g, cap, cur, h1, Nat.zero_le _, h3⟩⟩
theorem AudAt.toB {w : World} {A jb : Nat} {xs : List Rec} {V : Value} (h : AudAt w A jb xs V) : AudB w A jb xs V := ⟨h.blk, own_base0 h.row, fun e => by have := (h.row.lt A e).1; omega⟩
/-- What Open leaves. -/
def AOut (w : World) (p b jb : Nat) (F : Nat → Prop) (J : Jn) (xs : List Rec) (e : Ending) (w' : World) : Prop :=
  ∃ A V F', e = .returned (.tuple #[.pointer (some ⟨A, 0, none⟩), .int .i64 0]) ∧ w.heap.size ≤ A ∧ AudAt w' A jb xs V ∧ JAt w' p b jb F' J ∧ Near w F F' ∧ (∀ q, F' q → q < A) ∧ OnlyJ F w w'
theorem info_recA : (Tryz.prog.info? 49).map (fun i => (i.zero, i.size, i.bytes)) = some (some (.agg #[.int .i64 0, .int .i64 0, .int .i64 0, .int .i64 0, .string ⟨#[]⟩]), 5, 48) := by kernel_rfl
/-- A whole array is loaded by an operation whose guard lets it. -/
theorem wpList_load_row_g {P : Program} {ops : Array Oper} {rest : List Oper} {o : Oper} {a : Act} {w : World} {Q : Exit → Act → World → Prop} (hgd : Region.wanted o (yielded ops a.tmps) = true) (ty : TypeId) (x : Operand) (ho : o.op = .load ty x)
    (g : Nat) (hx : a.eval x = .pointer (some ⟨g, 0, none⟩)) (t : TypeId) (cs : Array Value) (fr : Nat × Nat) (d : TypeDesc) (hg : w.heap[g]? = some (.cells cs t fr))
    (hu : P.underlying ty = some d) (hd : (match d with | .struct _ | .array _ _ => true | _ => false) = true) (hi : (P.info? ty).map (·.size) = some cs.size)
    (h : wpList P ops Q rest (a.put o.dst (.agg cs)) w) : wpList P ops Q (o :: rest) a w :=
  wpList_step fun K hK => by rw [if_pos hgd]; exact wp_load_row ty x ho g hx t cs fr d hg hu hd hi (hK _ _ h)
set_option maxRecDepth 100000 in
theorem jdead_any (w : World) (jb : Nat) (h : w.cell? ⟨jb, 7, none⟩ = some (.bool false)) : Calls Tryz.prog 61 #[.pointer (some ⟨jb, 0, none⟩)] w fun e w' => e = .returned (.bool false) ∧ w = w' := by
  go_enter Tryz.func61, Tryz.ntmps61
  go_wp2_with fail
  go_ret
  exact ⟨rfl, rfl⟩
set_option maxRecDepth 100000 in
theorem afirst_any (w : World) : Calls Tryz.prog 64 #[] w fun e w' => e = .returned (.string ⟨(zs 32).toArray⟩) ∧ LJ w w' := by
  have HR := Lib.hid (show Calls Tryz.prog 65 #[.string ⟨#[0]⟩, .int .i64 32] w fun e w' => e = .returned (.string ⟨(zs 32).toArray⟩) ∧ LJ w w' from repeat_any w 32 (by omega))
  obtain ⟨Z, hZ⟩ : ∃ Z : ByteArray, (⟨(zs 32).toArray⟩ : ByteArray) = Z := ⟨_, rfl⟩
  rw [hZ] at HR
  rw [hZ]
  clear hZ
  go_enter Tryz.func64, Tryz.ntmps64
  go_wp2_with (first
    | (go_at_call 65; (with_reducible refine HR.out.mono ?_); rintro e w1 ⟨rfl, hl1⟩)
    | fail)
  go_ret
  exact ⟨rfl, hl1⟩
set_option maxRecDepth 100000 in
set_option maxHeartbeats 4000000 in
theorem aopen_any (w : World) (p b jb : Nat) (F : Nat → Prop) (J : Jn) (h : JAt w p b jb F J) (xs : List Rec) (hx : AuC J xs) :
    Calls Tryz.prog 15 #[.pointer (some ⟨jb, 0, none⟩)] w (AOut w p b jb F J xs) := by
  obtain ⟨iS, hiS, hzS, hsS, hbS⟩ := info_parts info_str
  obtain ⟨iR, hiR, hzR, hsR, hbR⟩ := info_parts info_recA
  have hok := h.ok
  have han := hok.arean
  have h12 := hok.n12
  have hlF := h.lt
  have h0 := h
  obtain ⟨m, hm⟩ : ∃ m, J.n - J.area = m := ⟨_, rfl⟩
  have hm1 : 1 ≤ m := by omega
  have hm60 : m ≤ 4096 := by omega
  have HLF := Lib.hid hlF
  have HJ0 := Lib.hid h0
  have HM := Lib.hid hm
  have HX := Lib.hid hx
  have c7 : ∀ W : World, LJ w W → W.cell? ⟨jb, 7, none⟩ = some (.bool false) := by
    obtain ⟨a, rfl, rfl, rfl, h4, h5, dt, hc, hr⟩ := h
    exact fun W hl => hl.cell (cell_blk hc.cells 7)
  have c70 := c7 w (LJ.refl w)
  have HCL0 := Lib.hid (cells_any w p b jb F J HJ0.out)
  rw [hm] at HCL0
  have HDD := Lib.hid (jdead_any w jb c70)
  clear h h0 hok hlF han hm h12 c7 hx
  go_enter Tryz.func15, Tryz.ntmps15
  go_upto_region 1 with fail
  refine wp_scope_straight ?_
  go_wp2_with (first
    | (go_at_call 61; (with_reducible refine HDD.out.mono ?_); rintro e wd ⟨rfl, hwd⟩; subst hwd)
    | (go_at_call 62; (with_reducible refine HCL0.out.mono ?_); rintro e wc ⟨rfl, nq, rfl⟩)
    | fail)
  have HJ1 := Lib.hid (HJ0.out.drewN nq)
  obtain ⟨w1, hw1⟩ : ∃ w1, w.drewN nq = w1 := ⟨_, rfl⟩
  have HO1 := Lib.hid (show OnlyJ F w w1 from by rw [← hw1]; exact OnlyJ.of_below ((LJ.refl w).drewN nq))
  rw [hw1] at HJ1 ⊢
  clear hw1
  go_loopw [4, 25] (fun v4 v5 wr => ∃ (c : Nat) (F' : Nat → Prop), c ≤ m ∧ v5 = .int .i64 (c : Int) ∧ Hid (wr.ownsRow w.heap.size 9 1 v4 c (strs (J.firstCells c))) ∧ Hid (JAt wr p b jb F' J) ∧ Hid (Near w F F') ∧ Hid (∀ q, v4.ownBlock = some q → ¬ F' q) ∧ Hid (OnlyJ F w wr)) (fun _ v5 _ => m - (intOf v5).toNat)
  case atStart =>
    refine ⟨0, F, by omega, rfl, Lib.hid ⟨rfl, .inl ⟨rfl, rfl⟩⟩, HJ1, Lib.hid (fun q hq _ => hq), Lib.hid ?_, HO1⟩
    intro q hq
    cases hq
  case round =>
    obtain ⟨c, F', hc, rfl, HOW, HJ, HNE, HNB, HO⟩ := hrel
    have hsr := HO.out.size
    by_cases hlt : c < m
    · have HRD := Lib.hid (jread_any wr p b jb F' J HJ.out c (by rw [HM.out]; exact hlt))
      obtain ⟨S, hS⟩ : ∃ S : ByteArray, (⟨(J.cell c).toArray⟩ : ByteArray) = S := ⟨_, rfl⟩
      rw [hS] at HRD
      have HS := Lib.hid hS
      clear hS
      go_wp2_with (first
        | (go_at_call 63; (with_reducible refine HRD.out.mono ?_); rintro e w5 ⟨rfl, hj5⟩
           have ho5 := hj5.2
           have HO5 := Lib.hid (own_only HOW.out ho5 HNB.out)
           have hs5 := ho5.size
           have HOJ := Lib.hid ho5
           clear ho5
           have HJ5 := Lib.hid hj5
           clear hj5)
        | (at_builtin; refine wpList_append_lies _ rfl (.tmp 37) (.tmp 39) 24 rfl w.heap.size 9 iS (.string ⟨#[]⟩) 1 16 Tryz.underlying24 hiS hzS hsS hbS rfl (by decide) _ _ _ rfl (HO5.out.alloc _) ⟨w5.heap.size, 0, none⟩ 1 1 [.string S] rfl rfl (cells_newJ w5 [.string S] 9) (by intro u hu; simp only [List.mem_cons, List.not_mem_nil, or_false] at hu; rcases hu with rfl; rfl) (by omega) (by unfold maxLen; omega) (by omega) (by simp; omega) _ rfl ?_; intro g6 cap6 w6 hown6 hgrow6 hat6 hlt6)
        | fail)
      go_roundw
      case rel =>
        have hlo := HOW.out.lt
        have hgsz := hgrow6.size
        simp only [World.size_alloc] at hgsz
        have hrow := fun k (hk : k < w5.heap.size) hne => (hgrow6.block k (by simp; omega) hne).trans (Below.heap_alloc _ _ _ hk)
        have ho5 := HO.out.near HOJ.out HNE.out
        refine ⟨c + 1, grow F' wr w5, by omega, by simp, Lib.hid ?_, Lib.hid ?_, Lib.hid (HNE.out.grow hsr), Lib.hid ?_, Lib.hid ⟨hgrow6.os.trans ho5.os, hgrow6.tape.trans ho5.tape, hgrow6.output.trans ho5.output, by omega, fun q hq hne => (hrow q (by omega) (fun e => by have := (hlo q e.symm).1; omega)).trans (ho5.block q hq hne)⟩⟩
        · rw [Jn.first_snoc, strs_snoc, show strV (J.cell c) = .string S from by rw [← HS.out]; rfl]
          exact hown6
        · refine JAt.kept (w := w5) (show JAt w5 p b jb (grow F' wr w5) J from HJ5.out.1) (by omega) (fun k hk => ?_) (fun _ h => h) (fun q hq => ?_)
          · have hkl := HJ5.out.1.lt k hk
            refine hrow k hkl (fun e => ?_)
            rcases hk with hk | hk
            · exact HNB.out k e.symm hk
            · have := (hlo k e.symm).2
              omega
          · have := HJ5.out.1.lt q hq
            omega
        · intro q hq
          obtain rfl : g6 = q := by simpa [Value.ownBlock] using hq
          rcases hat6 with e | e
          · rintro (hk | hk)
            · exact HNB.out _ e hk
            · have := (hlo _ e).2
              omega
          · simp only [World.size_alloc] at e
            intro hk
            have := HJ5.out.1.lt g6 hk
            omega
      case measure => simp [intOf]; omega
    · have hce : c = m := by omega
      obtain ⟨gr, capr, hv, hbg, hgl⟩ := HOW.out.form (by omega)
      subst hv
      have hcap : c ≤ capr := by
        rcases HOW.out.2 with ⟨e, _⟩ | ⟨_, _, _, e, _, _, hc2, _⟩
        · cases e
        · injection e with e1 e2 e3
          omega
      have HSC := Lib.hid (own_cells HOW.out)
      have hwr := hsr
      clear hlt
      obtain ⟨Z32, hZ32⟩ : ∃ Z : ByteArray, (⟨(zs 32).toArray⟩ : ByteArray) = Z := ⟨_, rfl⟩
      obtain ⟨Z, hZ⟩ : ∃ Z : ByteArray, (⟨(zs 116).toArray⟩ : ByteArray) = Z := ⟨_, rfl⟩
      have HFI := Lib.hid (afirst_any wr)
      rw [hZ32] at HFI
      have HRP := Lib.hid (fun W => show Calls Tryz.prog 65 #[.string ⟨#[0]⟩, .int .i64 116] W fun e w' => e = .returned (.string Z) ∧ LJ W w' from by rw [← hZ]; exact repeat_any W 116 (by omega))
      have HZ32 := Lib.hid hZ32
      have HZ := Lib.hid hZ
      clear hZ hZ32
      go_upto_region 13 with (first
        | (go_at_call 64; (with_reducible refine HFI.out.mono ?_); rintro e wf ⟨rfl, hlf⟩; have HLF1 := Lib.hid hlf; clear hlf)
        | fail)
      obtain ⟨A, hA⟩ : ∃ A, wf.heap.size = A := ⟨_, rfl⟩
      obtain ⟨wa, hwa⟩ : ∃ wa, wf.alloc (.cells #[.pointer (some ⟨jb, 0, none⟩), .slice none 0 0, .string Z32, .bool false] 116) = wa := ⟨_, rfl⟩
      have HBA := Lib.hid (show wa.heap[A]? = some (.cells #[.pointer (some ⟨jb, 0, none⟩), .slice none 0 0, .string Z32, .bool false] 116 (0, 0)) from by rw [← hwa, ← hA]; exact alloc_blk wf _)
      have HLA := Lib.hid (show LJ wf wa from by rw [← hwa]; exact (LJ.refl wf).alloc _)
      rw [hwa]
      have HA := Lib.hid hA
      have hAs := HLF1.out.size
      rw [hA] at hAs ⊢
      clear hwa hA
      go_wp2_with (first
        | (go_at_call 65; (with_reducible refine (HRP.out _).mono ?_); rintro e wb ⟨rfl, hlb⟩; have HLB := Lib.hid hlb; clear hlb)
        | fail)
      have HAU0 := Lib.hid (show AudAt wb A jb [] (.slice none 0 0) from ⟨HLB.out.block (by rw [show lastL [] = zs 32 from rfl, HZ32.out]; exact HBA.out), ⟨rfl, .inl ⟨rfl, rfl⟩⟩⟩)
      have HLW := Lib.hid (show LJ wr wb from (HLF1.out.trans HLA.out).trans HLB.out)
      clear HFI HRP HBA HLA HLB
      obtain ⟨wo, hwo⟩ : ∃ wo, wo = wr := ⟨_, rfl⟩
      subst hwo
      refine wp_label ?_
      go_wp2_with fail
      go_loopw [10, 49] (fun v10 v49 wr => ∃ (i : Nat) (V : Value), i ≤ m ∧ i ≤ xs.length ∧ v49 = .int .i64 (i : Int) ∧ v10 = .bool false ∧ Hid (AudAt wr A jb (xs.take i) V) ∧ Hid (LJ wo wr)) (fun _ v49 _ => m - (intOf v49).toNat)
      case atStart => exact ⟨0, _, by omega, by omega, rfl, rfl, HAU0, HLW⟩
      case round =>
        obtain ⟨i, V, him, hix, rfl, rfl, HAU, HL⟩ := hrel
        by_cases hlt : i < xs.length
        · obtain ⟨⟨n, f, t, r, hh⟩, hxi⟩ : ∃ x, xs[i]? = some x := ⟨_, List.getElem?_eq_getElem hlt⟩
          have hml : i < m := by have := HX.out.len; have := HM.out; omega
          have him : (i : Int) < (m : Int) := by omega
          obtain ⟨hmay, hn⟩ := HX.out.ok i _ hxi
          change n = ((i + 1 : Nat) : Int) at hn
          obtain ⟨LK, hLK⟩ : ∃ LK : ByteArray, (⟨(lastL (xs.take (i + 1))).toArray⟩ : ByteArray) = LK := ⟨_, rfl⟩
          obtain ⟨S, hS⟩ : ∃ S : ByteArray, (⟨(J.cell i).toArray⟩ : ByteArray) = S := ⟨_, rfl⟩
          have hLKl : LK.data.toList = lastL (xs.take (i + 1)) := by rw [← hLK]
          have hLKs : LK.size = 32 := by
            have h1 : LK.data.toList.length = LK.size := by rw [Array.length_toList]; rfl
            rw [hLKl, lastL_len] at h1
            exact h1.symm
          have hSl : S.data.toList = cellB ⟨n, f, t, r, hh⟩ LK.data.toList := by rw [← hS, hLKl]; exact HX.out.cell i _ hxi
          have HP := Lib.hid (aparse_any wr n f t r hh hmay LK hLKs S hSl)
          have cS : wr.cell? ⟨gr, i, none⟩ = some (.string S) := by
            rw [← hS]
            exact HL.out.cell (HSC.out i (J.cell i) (by rw [Jn.firstCells, List.getElem?_map, List.getElem?_range (by omega)]; rfl))
          have hne : ¬ S = Z := by
            intro e
            have h1 : S.data.toList = zs 116 := by rw [e, ← HZ.out]
            rw [hSl] at h1
            simp [cellB, padT, zs, List.replicate_succ] at h1
          have hne2 : (S.toList == Z.toList) = false := by
            rw [ByteArray.toList_eq, ByteArray.toList_eq]
            exact beq_eq_false_iff_ne.2 (fun e => hne (ByteArray.ext (Array.toList_inj.1 e)))
          obtain ⟨LO, hLO⟩ : ∃ LO : ByteArray, (⟨(lastL (xs.take i)).toArray⟩ : ByteArray) = LO := ⟨_, rfl⟩
          have hLOl : LO.data.toList = lastL (xs.take i) := by rw [← hLO]
          obtain ⟨BY, hBY⟩ : ∃ BY : ByteArray, (⟨(Rec.bytes ⟨n, f, t, r, hh⟩).toArray⟩ : ByteArray) = BY := ⟨_, rfl⟩
          have hBYl : BY.data.toList = Rec.bytes ⟨n, f, t, r, hh⟩ := by rw [← hBY]
          have htk : xs.take (i + 1) = xs.take i ++ [⟨n, f, t, r, hh⟩] := by rw [List.take_add_one, hxi]; rfl
          have HBW := Lib.hid (fun W => abytes_yes W n f t r hh hmay)
          rw [hBY] at HBW
          have HLK := Lib.hid (fun W => show Calls Tryz.prog 68 #[.string LO, .string BY] W fun e w' => e = .returned (.string LK) ∧ LJ W w' from by
            have h1 := hlink_any W LO BY (by
              have h1 : LO.data.toList.length = LO.size := by rw [Array.length_toList]; rfl
              rw [hLOl, lastL_len] at h1
              omega) (by
              have h1 : BY.data.toList.length = BY.size := by rw [Array.length_toList]; rfl
              rw [hBYl, Rec.bytes_len (may_facts hmay).2.2.2.2.2] at h1
              omega)
            rw [hLOl, hBYl, ← lastL_snoc, ← htk, hLK] at h1
            exact h1)
          have HAB := Lib.hid HAU.out.blk
          rw [hLO] at HAB
          have HTK := Lib.hid htk
          have HROW := Lib.hid HAU.out.row
          have HNI := Lib.hid hn
          have HLKE := Lib.hid hLK
          obtain ⟨RX, hRX⟩ : ∃ RX : Array Value, #[.int .i64 n, .int .i64 f, .int .i64 t, .int .i64 r, .string hh] = RX := ⟨_, rfl⟩
          have hwi : IntKind.i64.wrap ((i : Int) + 1) = n := by rw [hn, IntKind.wrap_i64]; have := HX.out.len; omega
          clear hmay hn hLK hS hLKl hLKs hSl hLO hLOl hBY hBYl htk hxi hRX
          go_upto_region 25 with fail
          go_upto_region 26 with (first
            | (go_at_call 66; (with_reducible refine HP.out.mono ?_); rintro e wp ⟨rfl, hlp⟩; have HLP := Lib.hid hlp; clear hlp)
            | (refine wpList_store_row rfl 49 (.tmp 15) (.tmp 72) rfl wp.heap.size #[.int .i64 n, .int .i64 f, .int .i64 t, .int .i64 r, .string hh] rfl rfl 49 _ (alloc_blk wp _) info_rec rfl (by simp [Value.oneCell']) ?_)
            | fail)
          obtain ⟨q15, hq15⟩ : ∃ q, wp.heap.size = q := ⟨_, rfl⟩
          obtain ⟨w6, hw6⟩ : ∃ w6, (wp.alloc (.cells #[.int .i64 0, .int .i64 0, .int .i64 0, .int .i64 0, .string ⟨#[]⟩] 49)).setRow wp.heap.size #[.int .i64 n, .int .i64 f, .int .i64 t, .int .i64 r, .string hh] = w6 := ⟨_, rfl⟩
          have HB6 := Lib.hid (show w6.heap[q15]? = some (.cells #[.int .i64 n, .int .i64 f, .int .i64 t, .int .i64 r, .string hh] 49 (0, 0)) from by rw [← hw6, ← hq15]; exact setRow_heap' _ _ _ _ _ (alloc_blk wp _))
          have HL6 := Lib.hid (show LJ wp w6 from by rw [← hw6]; exact lj_only (F := fun q => q = wp.heap.size) ((LJ.refl wp).alloc _) (setRow_only _ _ _) (fun q e => Nat.le_of_eq e.symm))
          rw [hw6, hq15]
          have HS15 := Lib.hid hq15
          clear hw6 hq15
          have HLW6 := Lib.hid (HLP.out.trans HL6.out)
          go_upto_region 29 with (first
            | (refine wpList_load_row rfl 49 (.tmp 15) rfl q15 rfl 49 _ (0, 0) _ HB6.out Tryz.underlying49 rfl info_rec ?_)
            | (go_at_call 67; (with_reducible refine (HBW.out _).mono ?_); rintro e w7 ⟨rfl, hl7⟩; have HL7 := Lib.hid (HLW6.out.trans hl7); have HL67 := Lib.hid hl7; clear hl7)
            | fail)
          have HB7 := Lib.hid (HL67.out.block HB6.out)
          have c2 : w7.cell? ⟨A, 2, none⟩ = some (.string LO) := cell_blk (HL7.out.block HAB.out) 2
          go_upto_region 30 with (first
            | (go_at_call 68; (with_reducible refine (HLK.out _).mono ?_); rintro e w8 ⟨rfl, hl8⟩; have HL78 := Lib.hid hl8; have c2' := cell_blk ((HL7.out.trans hl8).block HAB.out) 2; have f2' := free_blk ((HL7.out.trans hl8).block HAB.out) 2; clear hl8)
            | fail)
          obtain ⟨w9, hw9⟩ : ∃ w9, w8.setCell ⟨A, 2, none⟩ (.string LK) = w9 := ⟨_, rfl⟩
          have hAB8 := (HL7.out.trans HL78.out).block HAB.out
          have hAl : A < wr.heap.size := lt_blk HAB.out
          have HB9A := Lib.hid (show w9.heap[A]? = some (.cells #[.pointer (some ⟨jb, 0, none⟩), V, .string LK, .bool false] 116 (0, 0)) from by rw [← hw9]; exact heap_setCell_same _ _ 2 _ _ _ hAB8)
          have HO9 := Lib.hid (show OnlyJ (fun q => q = A) w8 w9 from by rw [← hw9]; exact setCell_only _ _ _ _)
          rw [hw9]
          have hq15 : wr.heap.size ≤ q15 := by have := HLP.out.size; have h2 := HS15.out; omega
          have HB8 := Lib.hid (HL78.out.block HB7.out)
          have HB9 := Lib.hid (show w9.heap[q15]? = some (.cells #[.int .i64 n, .int .i64 f, .int .i64 t, .int .i64 r, .string hh] 49 (0, 0)) from (HO9.out.block q15 (lt_blk HB8.out) (by omega)).trans HB8.out)
          have HRL := Lib.hid HROW.out.lt
          have HROW9 := Lib.hid (own_only (own_below HROW.out (HL7.out.trans HL78.out)) HO9.out (fun q hq e => by have := (HRL.out q hq).1; omega))
          clear hw9 c2 c2' f2' hAB8
          go_upto_region 31 with (first
            | (refine wpList_load_row rfl 49 (.tmp 15) rfl q15 rfl 49 _ (0, 0) _ HB9.out Tryz.underlying49 rfl info_rec ?_)
            | (refine wpList_store_row rfl 49 (.tmp 20) (.tmp 91) rfl w9.heap.size #[.int .i64 n, .int .i64 f, .int .i64 t, .int .i64 r, .string hh] rfl rfl 49 _ (alloc_blk w9 _) info_rec rfl (by simp [Value.oneCell']) ?_)
            | fail)
          obtain ⟨q20, hq20⟩ : ∃ q, w9.heap.size = q := ⟨_, rfl⟩
          obtain ⟨w10, hw10⟩ : ∃ w10, (w9.alloc (.cells #[.int .i64 0, .int .i64 0, .int .i64 0, .int .i64 0, .string ⟨#[]⟩] 49)).setRow w9.heap.size #[.int .i64 n, .int .i64 f, .int .i64 t, .int .i64 r, .string hh] = w10 := ⟨_, rfl⟩
          have hb10 : w10.heap[q20]? = some (.cells #[.int .i64 n, .int .i64 f, .int .i64 t, .int .i64 r, .string hh] 49 (0, 0)) := by rw [← hw10, ← hq20]; exact setRow_heap' _ _ _ _ _ (alloc_blk w9 _)
          have HB10 := Lib.hid hb10
          have HL10 := Lib.hid (show LJ w9 w10 from by rw [← hw10]; exact lj_only (F := fun q => q = w9.heap.size) ((LJ.refl w9).alloc _) (setRow_only _ _ _) (fun q e => Nat.le_of_eq e.symm))
          rw [hw10, hq20]
          have HS20 := Lib.hid hq20
          clear hw10 hq20
          have d0 := cell_blk hb10 0
          have e0 := free_blk hb10 0
          clear hb10
          obtain ⟨w11, hw11⟩ : ∃ w11, w10.setCell ⟨q20, 0, none⟩ (.int .i64 n) = w11 := ⟨_, rfl⟩
          have HB11 := Lib.hid (show w11.heap[q20]? = some (.cells #[.int .i64 n, .int .i64 f, .int .i64 t, .int .i64 r, .string hh] 49 (0, 0)) from by rw [← hw11]; exact heap_setCell_same _ _ 0 _ _ _ HB10.out)
          have HL11 := Lib.hid (show LJ w9 w11 from by rw [← hw11]; exact lj_only (F := fun q => q = q20) HL10.out (setCell_only _ _ _ _) (fun q e => by have := HS20.out; omega))
          have HW11 := Lib.hid hw11
          clear hw11
          go_upto_region 32 with fail
          rw [HW11.out]
          clear d0 e0
          have c11 : w11.cell? ⟨A, 2, none⟩ = some (.string LK) := cell_blk (HL11.out.block HB9A.out) 2
          have HB1115 := Lib.hid (HL11.out.block HB9.out)
          go_upto_region 33 with (first
            | (refine wpList_load_row_g rfl 49 (.tmp 15) rfl q15 rfl 49 _ (0, 0) _ HB1115.out Tryz.underlying49 rfl info_rec ?_)
            | (refine wpList_load_row_g rfl 49 (.tmp 20) rfl q20 rfl 49 _ (0, 0) _ HB11.out Tryz.underlying49 rfl info_rec ?_)
            | fail)
          have hlen : (xs.take i).length = i := by rw [List.length_take]; omega
          have HROW12 := Lib.hid (show w11.drew.ownsRow (A + 1) 49 5 V i (recsC (xs.take i)) from by
            have h1 := own_below HROW9.out HL11.out.drew
            rw [hlen] at h1
            exact h1)
          have HX12 := Lib.hid (show LJ w9 w11.drew from HL11.out.drew)
          have HA12 := Lib.hid (HX12.out.block HB9A.out)
          have HQ12 := Lib.hid (HX12.out.block HB9.out)
          have hiM : i ≤ 4096 := by omega
          clear c11 hlen
          refine wp_region_held_drew (S := fun w' => w'.heap[q15]? = some (.cells #[.int .i64 n, .int .i64 f, .int .i64 t, .int .i64 r, .string hh] 49 (0, 0))) (by kernel_rfl) HB1115.out (fun hHeld => ?_)
          obtain ⟨w12, hw12⟩ : ∃ w12, w11.drew = w12 := ⟨_, rfl⟩
          rw [hw12] at HROW12 HX12 HA12 HQ12 hHeld ⊢
          clear hw12
          obtain ⟨wA, hwA⟩ : ∃ wA, w12.alloc (.cells #[.int .i64 n, .int .i64 f, .int .i64 t, .int .i64 r, .string hh] 49) = wA := ⟨_, rfl⟩
          have HLA := Lib.hid (show LJ w12 wA from by rw [← hwA]; exact (LJ.refl w12).alloc _)
          have HCN := Lib.hid (show ∀ j u, [Value.int .i64 n, .int .i64 f, .int .i64 t, .int .i64 r, .string hh][j]? = some u → wA.cell? ((⟨w12.heap.size, 0, none⟩ : Addr).add j) = some u from by rw [← hwA]; exact cells_newJ w12 [.int .i64 n, .int .i64 f, .int .i64 t, .int .i64 r, .string hh] 49)
          have c12 : w12.cell? ⟨A, 1, none⟩ = some V := cell_blk HA12.out 1
          have cA : wA.cell? ⟨A, 1, none⟩ = some V := HLA.out.cell c12
          have HBS := Lib.hid (show A + 1 ≤ wA.heap.size from lt_blk (HLA.out.block HA12.out))
          refine tkS 0 hHeld ?_
          refine tkS 1 hHeld ?_
          refine tkS 2 hHeld ?_
          refine tkS 3 hHeld ?_
          refine tkS 5 hHeld ?_ (hy := by intro w hSw; have l0 := cell_blk hSw 0; have l1 := cell_blk hSw 1; have l2 := cell_blk hSw 2; have l3 := cell_blk hSw 3; have l4 := cell_blk hSw 4; go_simp; (try with_reducible rfl))
          refine wpAnyH_ready (rs := [4, 6]) (by kernel_rfl) (by simp) ?_
          refine AllReadyH.cons rfl (fun K hK => ?_) (AllReadyH.cons rfl (fun K hK => ?_) AllReadyH.nil)
          · go_simp
            refine hK.out _ _ HQ12.out (fun hHeld => ?_)
            clear hK K
            refine wpAnyH_ready (rs := [6]) (by kernel_rfl) (by simp) ?_
            refine AllReadyH.cons rfl (fun K hK => ?_) AllReadyH.nil
            go_simp
            refine hK.out _ _ (HLA.out.block HQ12.out) (fun hHeld => ?_)
            clear hK K
            refine wpAnyH_ready (rs := [7]) (by kernel_rfl) (by simp) ?_
            refine AllReadyH.cons rfl (fun K hK => ?_) AllReadyH.nil
            refine step_append_lies _ rfl (.tmp 113) (.tmp 115) 45 rfl (A + 1) 49 iR (.agg #[.int .i64 0, .int .i64 0, .int .i64 0, .int .i64 0, .string ⟨#[]⟩]) 5 48 Tryz.underlying45 hiR hzR hsR hbR rfl (by decide) V i (recsC (xs.take i)) rfl (own_below HROW12.out HLA.out) ⟨w12.heap.size, 0, none⟩ 1 1 [.int .i64 n, .int .i64 f, .int .i64 t, .int .i64 r, .string hh] rfl rfl HCN.out (by intro u hu; simp only [List.mem_cons, List.not_mem_nil, or_false] at hu; rcases hu with rfl | rfl | rfl | rfl | rfl <;> rfl) (by omega) (by unfold maxLen; omega) (by omega) HBS.out _ rfl ?_
            intro g13 cap13 w13 hown13 hgrow13 hat13 hlt13
            have hA13 : w13.heap[A]? = some (.cells #[.pointer (some ⟨jb, 0, none⟩), V, .string LK, .bool false] 116 (0, 0)) := (hgrow13.block A (lt_blk (HLA.out.block HA12.out)) (fun e => by have := (HRL.out A e.symm).1; omega)).trans (HLA.out.block HA12.out)
            have hq13 : w13.heap[q15]? = some (.cells #[.int .i64 n, .int .i64 f, .int .i64 t, .int .i64 r, .string hh] 49 (0, 0)) := (hgrow13.block q15 (lt_blk (HLA.out.block HQ12.out)) (fun e => by have := (HRL.out q15 e.symm).2; omega)).trans (HLA.out.block HQ12.out)
            refine hK.out _ _ hq13 (fun hHeld => ?_)
            clear hK K
            refine tkS 8 hHeld ?_
            refine tkS 9 hHeld ?_
            have k1 := cell_blk hA13 1
            have k1f := free_blk hA13 1
            refine wpAnyH_ready (rs := [10]) (by kernel_rfl) (by simp) ?_
            refine AllReadyH.cons rfl (fun K hK => ?_) AllReadyH.nil
            go_simp
            obtain ⟨w14, hw14⟩ : ∃ w14, w13.setCell ⟨A, 1, none⟩ (.slice (some ⟨g13, 0, none⟩) (i + 1) cap13) = w14 := ⟨_, rfl⟩
            rw [hw14]
            have ho14 : OnlyJ (fun q => q = A) w13 w14 := by rw [← hw14]; exact setCell_only _ _ _ _
            have hA14 : w14.heap[A]? = some (.cells #[.pointer (some ⟨jb, 0, none⟩), .slice (some ⟨g13, 0, none⟩) (i + 1) cap13, .string LK, .bool false] 116 (0, 0)) := by rw [← hw14]; exact heap_setCell_same _ _ 1 _ _ _ hA13
            refine hK.out _ _ ((ho14.block q15 (lt_blk hq13) (by omega)).trans hq13) (fun hHeld => ?_)
            have HO14 := Lib.hid ho14
            have HA14 := Lib.hid hA14
            have HOWN := Lib.hid hown13
            have HGR := Lib.hid hgrow13
            clear hK K ho14 hA14 hw14 hown13 hgrow13 hat13 hA13 hq13 k1 k1f hHeld
            refine wpAnyH_done (by kernel_rfl) ?_ _
            go_simp
            go_wp2_with fail
            go_roundw
            case rel =>
              refine ⟨i + 1, .slice (some ⟨g13, 0, none⟩) (i + 1) cap13, by omega, by omega, by rw [HNI.out], rfl, Lib.hid ⟨?_, ?_⟩, Lib.hid ?_⟩
              · rw [HLKE.out]
                exact HA14.out
              · have e1 : (xs.take (i + 1)).length = i + 1 := by rw [List.length_take]; omega
                have e2 : recsC (xs.take (i + 1)) = recsC (xs.take i) ++ [.int .i64 n, .int .i64 f, .int .i64 t, .int .i64 r, .string hh] := by rw [HTK.out, recsC_snoc]; rfl
                rw [e1, e2]
                exact own_only HOWN.out HO14.out (fun q hq e => by have := (HOWN.out.lt q hq).1; omega)
              · have l9 : LJ wo w9 := lj_only ((HL.out.trans HL7.out).trans HL78.out) HO9.out (fun q e => by omega)
                exact lj_only (lj_only ((l9.trans HX12.out).trans HLA.out) (OnlyJ.row HGR.out) (fun q e => by have := (HRL.out q e.symm).1; omega)) HO14.out (fun q e => by omega)
            case measure => have := HNI.out; simp [intOf]; omega
          · go_simp
            refine hK.out _ _ (HLA.out.block HQ12.out) (fun hHeld => ?_)
            clear hK K
            refine wpAnyH_ready (rs := [4]) (by kernel_rfl) (by simp) ?_
            refine AllReadyH.cons rfl (fun K hK => ?_) AllReadyH.nil
            go_simp
            refine hK.out _ _ (HLA.out.block HQ12.out) (fun hHeld => ?_)
            clear hK K
            refine wpAnyH_ready (rs := [7]) (by kernel_rfl) (by simp) ?_
            refine AllReadyH.cons rfl (fun K hK => ?_) AllReadyH.nil
            refine step_append_lies _ rfl (.tmp 113) (.tmp 115) 45 rfl (A + 1) 49 iR (.agg #[.int .i64 0, .int .i64 0, .int .i64 0, .int .i64 0, .string ⟨#[]⟩]) 5 48 Tryz.underlying45 hiR hzR hsR hbR rfl (by decide) V i (recsC (xs.take i)) rfl (own_below HROW12.out HLA.out) ⟨w12.heap.size, 0, none⟩ 1 1 [.int .i64 n, .int .i64 f, .int .i64 t, .int .i64 r, .string hh] rfl rfl HCN.out (by intro u hu; simp only [List.mem_cons, List.not_mem_nil, or_false] at hu; rcases hu with rfl | rfl | rfl | rfl | rfl <;> rfl) (by omega) (by unfold maxLen; omega) (by omega) HBS.out _ rfl ?_
            intro g13 cap13 w13 hown13 hgrow13 hat13 hlt13
            have hA13 : w13.heap[A]? = some (.cells #[.pointer (some ⟨jb, 0, none⟩), V, .string LK, .bool false] 116 (0, 0)) := (hgrow13.block A (lt_blk (HLA.out.block HA12.out)) (fun e => by have := (HRL.out A e.symm).1; omega)).trans (HLA.out.block HA12.out)
            have hq13 : w13.heap[q15]? = some (.cells #[.int .i64 n, .int .i64 f, .int .i64 t, .int .i64 r, .string hh] 49 (0, 0)) := (hgrow13.block q15 (lt_blk (HLA.out.block HQ12.out)) (fun e => by have := (HRL.out q15 e.symm).2; omega)).trans (HLA.out.block HQ12.out)
            refine hK.out _ _ hq13 (fun hHeld => ?_)
            clear hK K
            refine tkS 8 hHeld ?_
            refine tkS 9 hHeld ?_
            have k1 := cell_blk hA13 1
            have k1f := free_blk hA13 1
            refine wpAnyH_ready (rs := [10]) (by kernel_rfl) (by simp) ?_
            refine AllReadyH.cons rfl (fun K hK => ?_) AllReadyH.nil
            go_simp
            obtain ⟨w14, hw14⟩ : ∃ w14, w13.setCell ⟨A, 1, none⟩ (.slice (some ⟨g13, 0, none⟩) (i + 1) cap13) = w14 := ⟨_, rfl⟩
            rw [hw14]
            have ho14 : OnlyJ (fun q => q = A) w13 w14 := by rw [← hw14]; exact setCell_only _ _ _ _
            have hA14 : w14.heap[A]? = some (.cells #[.pointer (some ⟨jb, 0, none⟩), .slice (some ⟨g13, 0, none⟩) (i + 1) cap13, .string LK, .bool false] 116 (0, 0)) := by rw [← hw14]; exact heap_setCell_same _ _ 1 _ _ _ hA13
            refine hK.out _ _ ((ho14.block q15 (lt_blk hq13) (by omega)).trans hq13) (fun hHeld => ?_)
            have HO14 := Lib.hid ho14
            have HA14 := Lib.hid hA14
            have HOWN := Lib.hid hown13
            have HGR := Lib.hid hgrow13
            clear hK K ho14 hA14 hw14 hown13 hgrow13 hat13 hA13 hq13 k1 k1f hHeld
            refine wpAnyH_done (by kernel_rfl) ?_ _
            go_simp
            go_wp2_with fail
            go_roundw
            case rel =>
              refine ⟨i + 1, .slice (some ⟨g13, 0, none⟩) (i + 1) cap13, by omega, by omega, by rw [HNI.out], rfl, Lib.hid ⟨?_, ?_⟩, Lib.hid ?_⟩
              · rw [HLKE.out]
                exact HA14.out
              · have e1 : (xs.take (i + 1)).length = i + 1 := by rw [List.length_take]; omega
                have e2 : recsC (xs.take (i + 1)) = recsC (xs.take i) ++ [.int .i64 n, .int .i64 f, .int .i64 t, .int .i64 r, .string hh] := by rw [HTK.out, recsC_snoc]; rfl
                rw [e1, e2]
                exact own_only HOWN.out HO14.out (fun q hq e => by have := (HOWN.out.lt q hq).1; omega)
              · have l9 : LJ wo w9 := lj_only ((HL.out.trans HL7.out).trans HL78.out) HO9.out (fun q e => by omega)
                exact lj_only (lj_only ((l9.trans HX12.out).trans HLA.out) (OnlyJ.row HGR.out) (fun q e => by have := (HRL.out q e.symm).1; omega)) HO14.out (fun q e => by omega)
            case measure => have := HNI.out; simp [intOf]; omega
        · have hie : i = xs.length := by omega
          have HPOST := Lib.hid (show AOut w p b jb F J xs (.returned (.tuple #[.pointer (some ⟨A, 0, none⟩), .int .i64 0])) wr from by
            refine ⟨A, V, F', rfl, by have := HO.out.size; omega, ?_, HJ.out.later HL.out, HNE.out, fun q hq => by have := HJ.out.lt q hq; omega, HO.out.near (OnlyJ.of_below HL.out) HNE.out⟩
            have h1 := HAU.out
            rw [hie, List.take_length] at h1
            exact h1)
          by_cases hml : i < m
          · have hilm : (i : Int) < (m : Int) := by omega
            have him2 : i ≤ m := by omega
            have hcz : ∀ j, i ≤ j → j < m → wr.cell? ⟨gr, j, none⟩ = some (.string Z) := fun j h1 h2 => by
              have h3 := HL.out.cell (HSC.out j (J.cell j) (by rw [Jn.firstCells, List.getElem?_map, List.getElem?_range (by omega)]; rfl))
              rw [HX.out.none j (by omega) (by rw [HM.out]; exact h2)] at h3
              rw [← HZ.out]
              exact h3
            have cS : wr.cell? ⟨gr, i, none⟩ = some (.string Z) := hcz i (Nat.le_refl _) hml
            have HCZ := Lib.hid hcz
            have hzz : (Z.toList == Z.toList) = true := beq_self_eq_true _
            clear hcz hie hlt
            go_upto_region 19 with fail
            go_wp2_with fail
            go_loopw [14, 61] (fun _ v61 w' => ∃ k : Nat, k ≤ m - i ∧ v61 = .int .i64 (k : Int) ∧ w' = wr) (fun _ v61 _ => m - i - (intOf v61).toNat)
            case atStart => exact ⟨0, by omega, rfl, rfl⟩
            case round =>
              obtain ⟨k, hk, rfl, hwr⟩ := hrel
              subst hwr
              by_cases hk2 : k < m - i
              · have cK : wr.cell? ⟨gr, i + k, none⟩ = some (.string Z) := HCZ.out (i + k) (by omega) (by omega)
                have hkm : (k : Int) < ((m - i : Nat) : Int) := by omega
                go_wp2_with fail
                go_roundw
                case rel => exact ⟨k + 1, by omega, by simp, trivial⟩
                case measure => simp [intOf]; omega
              · have hkm : ¬ (k : Int) < ((m - i : Nat) : Int) := by omega
                go_wp2_with fail
                go_ret2
                exact HPOST.out
          · have him2 : i = m := by omega
            have hilm : ¬ (i : Int) < (m : Int) := by omega
            clear hie hlt
            go_wp2_with fail
            go_ret2
            exact HPOST.out
end Go.Proofs.YtfpbocjmlhcgiaaGreatDoor
