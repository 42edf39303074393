/- Jg18, merged: J65 J66 J67 J68. -/
import Derived.Test.YtjgkhdanhglgeaaGreatDoorJg17
import Derived.Laws.MakeOwn
import Derived.Deep.AppendLies
set_option linter.unusedSimpArgs false
set_option linter.unusedVariables false
/- The law's small functions: noughts, place, Pad, same. -/
namespace Go.Proofs.YtjgkhdanhglgeaaGreatDoor
open Go.RowKit PJ Go.Maps

def zs (n : Nat) : List UInt8 := List.replicate n 0
theorem make_z (W : World) (n : Nat) (hn : n ≤ 100000) : (Instr.makeSlice 97 (.int .i64 (n : Int)) (.int .i64 (n : Int))).run Tryz.prog W = .ok (.slice (some ⟨W.heap.size, 0, none⟩) n n) (W.alloc (.cells (bys (zs n)).toArray 5)) := by
  obtain ⟨i0, hi, hz0, hz1, hz2⟩ := info_parts info_u8
  have h := run_makeSlice (P := Tryz.prog) W 97 5 i0 (.int .u8 0) Tryz.underlying97 hi hz0 .i64 .i64 (n : Int) (n : Int) (by omega) (by omega) (by rw [hz1]; omega) (by rw [hz2]; omega) (by omega)
  have e : (n : Int).toNat = n := by omega
  have e2 : madeCells (Value.int .u8 0).cells (n * 1) = (bys (zs n)).toArray := by
    apply Array.toList_inj.1
    rw [show (Value.int .u8 0).cells = #[.int .u8 0] from rfl, toList_madeCells_one, Nat.mul_one]
    unfold bys zs
    simp
  rw [hz1, e, e2] at h
  exact h
theorem conv_z (W : World) (n : Nat) : (convert 97 9 (.slice (some ⟨W.heap.size, 0, none⟩) n n)).run Tryz.prog (W.alloc (.cells (bys (zs n)).toArray 5)) = .ok (.string ⟨(zs n).toArray⟩) (W.alloc (.cells (bys (zs n)).toArray 5)) := by
  have h := run_convert_bytes_back (W.alloc (.cells (bys (zs n)).toArray 5)) 97 9 5 ⟨W.heap.size, 0, none⟩ n (zs n) Tryz.underlying97 Tryz.underlying5 Tryz.underlying9 (fun j hj => by
    refine cells_newJ W (bys (zs n)) 5 j _ ?_
    simp [bys, hj])
  have e : (zs n).length = n := by simp [zs]
  rw [e] at h
  exact h
set_option maxRecDepth 100000 in
theorem noughts_any (w : World) (n : Nat) (hn : n ≤ 100000) :
    Calls Tryz.prog 37 #[.int .i64 n] w fun e w' => e = .returned (.string ⟨(zs n).toArray⟩) ∧ LJ w w' := by
  have hmk := make_z w n hn
  have hcv := conv_z w n
  have hl : LJ w (w.alloc (.cells (bys (zs n)).toArray 5)) := (LJ.refl w).alloc _
  obtain ⟨w1, hw1⟩ : ∃ w1, w.alloc (.cells (bys (zs n)).toArray 5) = w1 := ⟨_, rfl⟩
  obtain ⟨Z, hZ⟩ : ∃ Z : ByteArray, (⟨(zs n).toArray⟩ : ByteArray) = Z := ⟨_, rfl⟩
  rw [hw1] at hmk hcv hl
  rw [hZ] at hcv
  have HZ := Lib.hid hZ
  have HL := Lib.hid hl
  clear hw1 hZ hl hn
  go_enter Tryz.func37, Tryz.ntmps37
  go_wp2_with fail
  go_ret
  exact ⟨ret_str HZ.out.symm, HL.out⟩
theorem pad_zs (d : List UInt8) (k : Nat) : padT d k = d ++ zs (k - d.length) := rfl
set_option maxRecDepth 100000 in
theorem pad_any (w : World) (s : ByteArray) (hs : s.size ≤ 116) :
    Calls Tryz.prog 24 #[.string s] w fun e w' => e = .returned (.string ⟨(padT s.data.toList 116).toArray⟩) ∧ LJ w w' := by
  obtain ⟨n, hn⟩ : ∃ n, 116 - s.size = n := ⟨_, rfl⟩
  have hmk := make_z w n (by omega)
  have hcv := conv_z w n
  have hl : LJ w (w.alloc (.cells (bys (zs n)).toArray 5)) := (LJ.refl w).alloc _
  have hsl : s.data.toList.length = s.size := by rw [Array.length_toList]; rfl
  have hpd : (⟨(padT s.data.toList 116).toArray⟩ : ByteArray) = s ++ ⟨(zs n).toArray⟩ := by
    apply ByteArray.ext
    apply Array.toList_inj.1
    rw [pad_zs, hsl, hn]
    simp
  obtain ⟨w1, hw1⟩ : ∃ w1, w.alloc (.cells (bys (zs n)).toArray 5) = w1 := ⟨_, rfl⟩
  have hZs : (⟨(zs n).toArray⟩ : ByteArray).size = n := by show (zs n).toArray.size = n; simp [zs]
  obtain ⟨Z, hZ⟩ : ∃ Z : ByteArray, (⟨(zs n).toArray⟩ : ByteArray) = Z := ⟨_, rfl⟩
  rw [hw1] at hmk hcv hl
  rw [hZ] at hcv hpd hZs
  have hwr : IntKind.i64.wrap ((116 : Int) - (s.size : Int)) = (n : Int) := by rw [IntKind.wrap_i64]; omega
  have hbig : ¬ 9223372036854775807 < s.size + Z.size := by omega
  have hbig2 : s.size + Z.size ≤ 9223372036854775807 := by omega
  have HPD := Lib.hid hpd
  have HL := Lib.hid hl
  clear hw1 hZ hl hn hpd hsl hs hZs
  go_enter Tryz.func24, Tryz.ntmps24
  go_wp2_with fail
  go_ret
  exact ⟨ret_str HPD.out.symm, HL.out⟩
set_option maxRecDepth 100000 in
theorem place_any (w : World) (x : Int) (hx : -9223372036854775808 ≤ x ∧ x ≤ 9223372036854775807) :
    Calls Tryz.prog 7 #[.int .i64 x, .int .i64 60] w fun e w' => e = .returned (.int .i64 (x % 60)) ∧ w = w' := by
  have ht : x.tmod 60 = x % 60 - (if 0 ≤ x ∨ (60 : Int) ∣ x then 0 else 60) := by
    rw [Int.tmod_eq_emod]
    split <;> rfl
  rcases Int.lt_or_le (x.tmod 60) 0 with h | h
  · have e : x.tmod 60 + 60 = x % 60 := by split at ht <;> omega
    have h2 := Int.emod_lt_of_pos x (show (0 : Int) < 60 by omega)
    have h3 := Int.emod_nonneg x (show (60 : Int) ≠ 0 by omega)
    have hwr : IntKind.i64.wrap (x.tmod 60) = x.tmod 60 := by rw [IntKind.wrap_i64]; omega
    have hwr2 : IntKind.i64.wrap (x.tmod 60 + 60) = x.tmod 60 + 60 := by rw [IntKind.wrap_i64]; omega
    clear ht
    go_enter Tryz.func7, Tryz.ntmps7
    go_wp2_with fail
    go_ret
    exact ⟨rfl, rfl⟩
  · have e : x.tmod 60 = x % 60 := by split at ht <;> omega
    have h2 := Int.emod_lt_of_pos x (show (0 : Int) < 60 by omega)
    have hwr : IntKind.i64.wrap (x.tmod 60) = x.tmod 60 := by rw [IntKind.wrap_i64]; omega
    clear ht
    go_enter Tryz.func7, Tryz.ntmps7
    go_wp2_with fail
    go_ret
    exact ⟨rfl, rfl⟩
def strV (d : List UInt8) : Value := .string ⟨d.toArray⟩
def SCells (w : World) (g : Nat) (l : List (List UInt8)) : Prop := ∀ j s, l[j]? = some s → w.cell? ⟨g, j, none⟩ = some (strV s)
set_option maxRecDepth 100000 in
theorem same_any (w : World) (ga gb ca cb n : Nat) (l : List (List UInt8)) (hn : l.length = n) (hA : SCells w ga l) (hB : SCells w gb l) (h100 : n ≤ 100) (hca : n ≤ ca) (hcb : n ≤ cb) :
    Calls Tryz.prog 16 #[.slice (some ⟨ga, 0, none⟩) n ca, .slice (some ⟨gb, 0, none⟩) n cb] w fun e w' => e = .returned (.bool true) ∧ ∃ k, w' = w.drewN k := by
  have HA := Lib.hid hA
  have HB := Lib.hid hB
  have HN := Lib.hid hn
  clear hA hB hn
  go_enter Tryz.func16, Tryz.ntmps16
  go_wp2_with fail
  go_loopw [5] (fun v5 wr => ∃ i k : Nat, i ≤ n ∧ v5 = .int .i64 (i : Int) ∧ wr = w.drewN k) (fun v5 _ => n - (intOf v5).toNat)
  case atStart => exact ⟨0, 0, by omega, rfl, rfl⟩
  case round =>
    obtain ⟨i, k, hi, rfl, rfl⟩ := hrel
    by_cases hlt : i < n
    · obtain ⟨s, hs⟩ : ∃ s, l[i]? = some s := ⟨_, List.getElem?_eq_getElem (by rw [HN.out]; exact hlt)⟩
      obtain ⟨S, hS⟩ : ∃ S : ByteArray, (⟨s.toArray⟩ : ByteArray) = S := ⟨_, rfl⟩
      have c1 : w.cell? ⟨ga, i, none⟩ = some (.string S) := by rw [← hS]; exact HA.out i s hs
      have c2 : w.cell? ⟨gb, i, none⟩ = some (.string S) := by rw [← hS]; exact HB.out i s hs
      have hili : (i : Int) < (n : Int) := by omega
      clear hs hS
      go_wp2_with fail
      go_region
      all_goals
        go_wp2_with fail
        go_roundw
        case rel => exact ⟨i + 1, k + 1, by omega, by simp, rfl⟩
        case measure => simp [intOf]; omega
    · have hie : i = n := by omega
      subst hie
      go_wp2_with fail
      go_ret
      exact ⟨rfl, k, rfl⟩
end Go.Proofs.YtjgkhdanhglgeaaGreatDoor
/- The law's laid: a journal on a new disk. -/
namespace Go.Proofs.YtjgkhdanhglgeaaGreatDoor
open Go.RowKit PJ Go.Maps

/-- What has been laid since. -/
def since (w w' : World) : Nat → Prop := fun q => w.heap.size ≤ q ∧ q < w'.heap.size
/-- A device on a new disk. -/
def NewDev (w : World) (n : Nat) (p b : Nat) (w' : World) : Prop := LJ w w' ∧ ∃ g mb R V, DevAt w' p g mb b n 4 R (since w w') V V false
theorem NewDev.born {w w1 w2 w3 : World} {n p g mb : Nat} {safe : List UInt8} (hl1 : LJ w w1) (hl2 : LJ w1 w2) (hd : DiskAt w2 p g mb n safe (fun _ => none)) (hp : w1.heap.size ≤ p) (hg : w1.heap.size ≤ g) (hm : w1.heap.size ≤ mb) (hpl : p < w2.heap.size) (hgl : g < w2.heap.size) (hml : mb < w2.heap.size) (hl3 : LJ w2 w3) (hb : w3.heap[w2.heap.size]? = some (.cells (devCells p 0 n 4 (.slice none 0 0) 0) 119 (0, 0))) :
    NewDev w n p w2.heap.size w3 := by
  have s1 := Below.size hl1
  have s2 := Below.size hl2
  have s3 := Below.size hl3
  refine ⟨hl1.trans (hl2.trans hl3), g, mb, _, _, (DevAt.fresh (F := since w w2) hd hl3 hb (by omega) (fun i hi => rfl) ⟨by omega, hpl⟩ ⟨by omega, hgl⟩ ⟨by omega, hml⟩ (fun q hq => hq.2)).wide ?_ (fun q hq => hq.2)⟩
  rintro q (hq | hq)
  · exact ⟨hq.1, by have := hq.2; omega⟩
  · exact ⟨by omega, hq.2⟩
def LaidNo (w : World) (e : Ending) (w' : World) : Prop := ∃ p, e = .returned (.tuple #[.pointer (some ⟨p, 0, none⟩), .pointer none, .int .i64 160]) ∧ LJ w w'
def LaidYes (w : World) (n area : Nat) (e : Ending) (w' : World) : Prop := ∃ p b jb, e = .returned (.tuple #[.pointer (some ⟨p, 0, none⟩), .pointer (some ⟨jb, 0, none⟩), .int .i64 0]) ∧ JAt w' p b jb (since w w') (J0 n area) ∧ LJ w w'
set_option maxRecDepth 100000 in
set_option maxHeartbeats 2000000 in
theorem laid_any (w : World) (n : Nat) (h1 : 1 ≤ n) (h60 : n ≤ 60) (area : Int) (Q : Ending → World → Prop)
    (hno : ¬ (4 ≤ area ∧ area < n) → ∀ e w', LaidNo w e w' → Q e w') (hyes : ∀ k : Nat, area = k → 4 ≤ k → k < n → ∀ e w', LaidYes w n k e w' → Q e w') :
    Calls Tryz.prog 8 #[.int .i64 n, .int .i64 area] w Q := by
  obtain ⟨m, hm⟩ : ∃ m, 128 * n = m := ⟨_, rfl⟩
  have hwr : IntKind.i64.wrap ((128 : Int) * (n : Int)) = (m : Int) := by rw [IntKind.wrap_i64]; omega
  have HNO := Lib.hid (noughts_any w m (by omega))
  obtain ⟨Z, hZ⟩ : ∃ Z : ByteArray, (⟨(zs m).toArray⟩ : ByteArray) = Z := ⟨_, rfl⟩
  rw [hZ] at HNO
  have hZs : Z.size = 128 * n := by rw [← hZ, hm]; show (zs m).toArray.size = m; simp [zs]
  have HDN := Lib.hid (fun W => dnew_any Z W n h1 (by omega) hZs)
  have HBN := Lib.hid (fun W p g mb safe hd => show Calls Tryz.prog 38 #[.pointer (some ⟨p, 0, none⟩), .int .i64 0, .int .i64 n, .int .i64 4] W fun e w' =>
      e = .returned (.tuple #[.pointer (some ⟨W.heap.size, 0, none⟩), .int .i64 0]) ∧ Below W.heap.size W w' ∧ w'.heap[W.heap.size]? = some (.cells (devCells p 0 n 4 (.slice none 0 0) 0) 119 (0, 0)) from
    bnew_any W p g mb n safe (fun _ => none) hd 0 n 4 (by omega) (by omega) (by omega))
  have HF := Lib.hid (fun W p b (hd : NewDev w n p b W) => show Calls Tryz.prog 39 #[.pointer (some ⟨b, 0, none⟩), .int .i64 area] W fun e w' =>
      (¬ (4 ≤ area ∧ area < n) ∧ e = .returned (.tuple #[.pointer none, .int .i64 160]) ∧ LJ w w') ∨ (∃ (k jb : Nat), area = k ∧ 4 ≤ k ∧ k < n ∧ e = .returned (.tuple #[.pointer (some ⟨jb, 0, none⟩), .int .i64 0]) ∧ JAt w' p b jb (since w w') (J0 n k) ∧ LJ w w') from by
    obtain ⟨hl, g, mb, R, V, hd⟩ := hd
    have hsz := Below.size hl
    by_cases h : 4 ≤ area ∧ area < n
    · obtain ⟨k, rfl⟩ := Int.eq_ofNat_of_zero_le (show 0 ≤ area by omega)
      refine (format_any W p g mb b n 4 R _ V V false hd k (by omega) (by omega)).mono ?_
      rintro e w' ⟨jb, rfl, hj, ho⟩
      have hs2 := ho.size
      refine .inr ⟨k, jb, rfl, by omega, by omega, rfl, hj.kept (Nat.le_refl _) (fun _ _ => rfl) ?_ (fun q hq => hq.2), ⟨ho.os.trans hl.os, ho.tape.trans hl.tape, ho.output.trans hl.output, by omega, fun q hq => (ho.block q (by omega) (fun e => by have := e.1; omega)).trans (Below.block hl q hq)⟩⟩
      rintro q (hq | hq)
      · exact ⟨hq.1, by have := hq.2; omega⟩
      · exact ⟨by omega, hq.2⟩
    · refine (format_no W p g mb b n 4 R _ V V false hd area h).mono ?_
      rintro e w' ⟨rfl, hl2⟩
      exact .inl ⟨h, rfl, hl.trans hl2⟩)
  have HQ := Lib.hid hno
  have HY := Lib.hid hyes
  clear hZ hZs hno hyes hm
  go_enter Tryz.func8, Tryz.ntmps8
  go_upto_region 2 with (first
    | (go_at_call 37; (with_reducible refine HNO.out.mono ?_); rintro e w1 ⟨rfl, hl1⟩; have HL1 := Lib.hid hl1; clear hl1)
    | (go_at_call 25; (with_reducible refine (HDN.out _).mono ?_); rintro e w2 ⟨rfl, hd2, hl2⟩; have HD2 := Lib.hid hd2; have HL2 := Lib.hid hl2; clear hd2 hl2)
    | fail)
  have hd2 := HD2.out
  have hlt := hd2
  obtain ⟨-, -, -, cap, cnt, ch, D, hpc, -, -, -, hgl, -, -, ⟨es, ck, hmm, -⟩, -⟩ := hlt
  have hpl := lt_blk hpc
  have hml := lt_blk hmm
  have HB := Lib.hid (HBN.out w2 _ _ _ _ hd2)
  have HND := Lib.hid (fun w3 hl3 hb3 => NewDev.born (w3 := w3) HL1.out HL2.out hd2 (by omega) (Nat.le_refl _) (by omega) hpl hgl hml hl3 hb3)
  clear hd2 hpc hmm hpl hml hgl
  go_upto_region 7 with (first
    | (go_at_call 38; (with_reducible refine HB.out.mono ?_); rintro e w3 ⟨rfl, hl3, hb3⟩; have HF3 := Lib.hid (HF.out w3 _ _ (HND.out w3 hl3 hb3)); clear hl3 hb3)
    | fail)
  go_wp2_with (first
    | (go_at_call 39; (with_reducible refine HF3.out.mono ?_); rintro e w4 (⟨hn, rfl, hl4⟩ | ⟨k, jb, rfl, h4, hkn, rfl, hj4, hl4⟩))
    | fail)
  · go_ret3
    exact HQ.out hn _ _ ⟨_, rfl, hl4⟩
  · go_ret3
    exact HY.out k rfl h4 hkn _ _ ⟨_, _, jb, rfl, hj4, hl4⟩
end Go.Proofs.YtjgkhdanhglgeaaGreatDoor
/- The law's read: all cells. -/
namespace Go.Proofs.YtjgkhdanhglgeaaGreatDoor
open Go.RowKit PJ Go.Maps

/-- A footprint that is another one's, and what has been laid since. -/
def Near (w : World) (F F' : Nat → Prop) : Prop := ∀ q, F' q → q < w.heap.size → F q
theorem OnlyJ.near {w w1 w2 : World} {F F' : Nat → Prop} (h1 : OnlyJ F w w1) (h2 : OnlyJ F' w1 w2) (hn : Near w F F') : OnlyJ F w w2 := by
  have hs := h1.size
  exact ⟨h2.os.trans h1.os, h2.tape.trans h1.tape, h2.output.trans h1.output, Nat.le_trans h1.size h2.size, fun q hq hne => (h2.block q (by omega) (fun e => hne (hn q e hq))).trans (h1.block q hq hne)⟩
theorem Near.grow {w w1 w2 : World} {F F' : Nat → Prop} (h : Near w F F') (hs : w.heap.size ≤ w1.heap.size) : Near w F (grow F' w1 w2) := by
  rintro q (e | e) hq
  · exact h q e hq
  · omega
theorem OnlyJ.row {w w' : World} {row : Option Nat} (h : w.grownBy w' row) : OnlyJ (fun q => some q = row) w w' := ⟨h.os, h.tape, h.output, h.size, fun q hq hne => h.block q hq hne⟩
theorem OnlyJ.undrewN {r : Nat → Prop} {w w' : World} {n : Nat} (h : OnlyJ r (w.drewN n) w') : OnlyJ r w w' := ⟨h.os, h.tape, h.output, h.size, h.block⟩
theorem info_str : (Tryz.prog.info? 9).map (fun i => (i.zero, i.size, i.bytes)) = some (some (.string ⟨#[]⟩), 1, 16) := by kernel_rfl
def strs (l : List (List UInt8)) : List Value := l.map strV
theorem strs_snoc (l : List (List UInt8)) (x : List UInt8) : strs (l ++ [x]) = strs l ++ [strV x] := by simp [strs]
def Jn.firstCells (J : Jn) (c : Nat) : List (List UInt8) := (List.range c).map J.cell
theorem Jn.first_snoc (J : Jn) (c : Nat) : J.firstCells (c + 1) = J.firstCells c ++ [J.cell c] := by simp [Jn.firstCells, List.range_succ]
theorem Jn.read_eq (J : Jn) : J.read = J.firstCells (J.n - J.area) := rfl
theorem own_cells {w : World} {B g n cap : Nat} {l : List (List UInt8)} (h : w.ownsRow B 9 1 (.slice (some ⟨g, 0, none⟩) n cap) n (strs l)) : SCells w g l := by
  intro j s hs
  have hl : l.length = n := by have := h.1; simp [strs] at this; exact this
  have hj := (List.getElem?_eq_some_iff.1 hs).1
  rw [h.cellAt j (by omega)]
  simp [strs, hs]
/-- What read leaves. -/
def ReadOut (w : World) (p b jb : Nat) (F : Nat → Prop) (J : Jn) (e : Ending) (w' : World) : Prop :=
  ∃ g cap F', e = .returned (.tuple #[.slice (some ⟨g, 0, none⟩) (J.n - J.area) cap, .bool true]) ∧ w'.ownsRow w.heap.size 9 1 (.slice (some ⟨g, 0, none⟩) (J.n - J.area) cap) (J.n - J.area) (strs J.read) ∧ JAt w' p b jb F' J ∧ Near w F F' ∧ ¬ F' g ∧ OnlyJ F w w'
set_option maxRecDepth 100000 in
set_option maxHeartbeats 2000000 in
theorem read_any (w : World) (p b jb : Nat) (F : Nat → Prop) (J : Jn) (h : JAt w p b jb F J) (h60 : J.n ≤ 60) :
    Calls Tryz.prog 10 #[.pointer (some ⟨jb, 0, none⟩)] w (ReadOut w p b jb F J) := by
  obtain ⟨iS, hiS, hzS, hsS, hbS⟩ := info_parts info_str
  have hok := h.ok
  have han := hok.arean
  have hlF := h.lt
  have h0 := h.later ((LJ.refl w).alloc (.cells #[] 9))
  obtain ⟨m, hm⟩ : ∃ m, J.n - J.area = m := ⟨_, rfl⟩
  have hm1 : 1 ≤ m := by omega
  have hm60 : m ≤ 60 := by omega
  have HLF := Lib.hid hlF
  have HJ0 := Lib.hid h0
  have HM := Lib.hid hm
  have HPOST := Lib.hid (fun (w' : World) (g cap : Nat) (F' : Nat → Prop) (h1 : w'.ownsRow w.heap.size 9 1 (.slice (some ⟨g, 0, none⟩) m cap) m (strs (J.firstCells m))) (h2 : JAt w' p b jb F' J) (h3 : Near w F F') (h4 : ¬ F' g) (h5 : OnlyJ F w w') =>
    show ReadOut w p b jb F J (.returned (.tuple #[.slice (some ⟨g, 0, none⟩) m cap, .bool true])) w' from ⟨g, cap, F', by rw [hm], by rw [hm, Jn.read_eq, hm]; exact h1, h2, h3, h4, h5⟩)
  clear h h0 hok hlF han hm
  go_enter Tryz.func10, Tryz.ntmps10
  go_wp2_with fail
  go_loopw [4, 5] (fun v4 v5 wr => ∃ (c : Nat) (F' : Nat → Prop), c ≤ m ∧ v5 = .int .i64 (c : Int) ∧ Hid (wr.ownsRow w.heap.size 9 1 v4 c (strs (J.firstCells c))) ∧ Hid (JAt wr p b jb F' J) ∧ Hid (Near w F F') ∧ Hid (∀ q, v4.ownBlock = some q → ¬ F' q) ∧ Hid (OnlyJ F w wr)) (fun _ v5 _ => m - (intOf v5).toNat)
  case atStart =>
    refine ⟨0, F, by omega, rfl, Lib.hid ⟨rfl, .inr ⟨w.heap.size, 0, #[], rfl, Nat.le_refl _, alloc_blk w _, Nat.le_refl _, by unfold maxLen; omega, rfl, rfl⟩⟩, HJ0, Lib.hid (fun q hq _ => hq), Lib.hid ?_, Lib.hid (OnlyJ.of_below ((LJ.refl w).alloc _))⟩
    intro q hq e
    have := HLF.out q e
    obtain rfl : w.heap.size = q := by simpa [Value.ownBlock] using hq
    omega
  case round =>
    obtain ⟨c, F', hc, rfl, HOW, HJ, HNE, HNB, HO⟩ := hrel
    have hsr := HO.out.size
    have hcl := cells_any wr p b jb F' J HJ.out
    rw [HM.out] at hcl
    have HCL := Lib.hid hcl
    clear hcl
    by_cases hlt : c < m
    · have HRD := Lib.hid (fun k => jread_any (wr.drewN k) p b jb F' J (HJ.out.drewN k) c (by rw [HM.out]; exact hlt))
      obtain ⟨S, hS⟩ : ∃ S : ByteArray, (⟨(J.cell c).toArray⟩ : ByteArray) = S := ⟨_, rfl⟩
      rw [hS] at HRD
      have HS := Lib.hid hS
      clear hS
      go_wp2_with (first
        | (go_at_call 18; (with_reducible refine HCL.out.mono ?_); rintro e wc ⟨rfl, nq, rfl⟩)
        | (go_at_call 17; (with_reducible refine (HRD.out _).mono ?_); rintro e w5 ⟨rfl, hj5⟩
           have ho5 := OnlyJ.undrewN hj5.2
           have HO5 := Lib.hid (own_only HOW.out ho5 HNB.out)
           have hs5 := ho5.size
           have HOJ := Lib.hid ho5
           clear ho5
           have HJ5 := Lib.hid hj5
           clear hj5)
        | (at_builtin; refine wpList_append_lies _ rfl (.tmp 23) (.tmp 25) 32 rfl w.heap.size 9 iS (.string ⟨#[]⟩) 1 16 Tryz.underlying32 hiS hzS hsS hbS rfl (by decide) _ _ _ rfl (HO5.out.alloc _) ⟨w5.heap.size, 0, none⟩ 1 1 [.string S] rfl rfl (cells_newJ w5 [.string S] 9) (by intro u hu; simp only [List.mem_cons, List.not_mem_nil, or_false] at hu; rcases hu with rfl; rfl) (by omega) (by unfold maxLen; omega) (by omega) (by simp; omega) _ rfl ?_; intro g6 cap6 w6 hown6 hgrow6 hat6 hlt6)
        | fail)
      go_roundw
      case rel =>
        have hlo := HOW.out.lt
        have hgsz := hgrow6.size
        simp only [World.size_alloc] at hgsz
        have hrow := fun k (hk : k < w5.heap.size) hne => (hgrow6.block k (by simp; omega) hne).trans (Below.heap_alloc _ _ _ hk)
        have ho5 := HO.out.near HOJ.out HNE.out
        refine ⟨c + 1, grow F' wr w5, by omega, by simp, Lib.hid ?_, Lib.hid ?_, Lib.hid (HNE.out.grow hsr), Lib.hid ?_, Lib.hid ⟨hgrow6.os.trans ho5.os, hgrow6.tape.trans ho5.tape, hgrow6.output.trans ho5.output, by omega, fun q hq hne => (hrow q (by omega) (fun e => by have := (hlo q e.symm).1; omega)).trans (ho5.block q hq hne)⟩⟩
        · rw [Jn.first_snoc, strs_snoc, show strV (J.cell c) = .string S from by rw [← HS.out]; rfl]
          exact hown6
        · refine JAt.kept (w := w5) (show JAt w5 p b jb (grow F' wr w5) J from HJ5.out.1) (by omega) (fun k hk => ?_) (fun _ h => h) (fun q hq => ?_)
          · have hkl := HJ5.out.1.lt k hk
            refine hrow k hkl (fun e => ?_)
            rcases hk with hk | hk
            · exact HNB.out k e.symm hk
            · have := (hlo k e.symm).2
              omega
          · have := HJ5.out.1.lt q hq
            omega
        · intro q hq
          obtain rfl : g6 = q := by simpa [Value.ownBlock] using hq
          rcases hat6 with e | e
          · rintro (hk | hk)
            · exact HNB.out _ e hk
            · have := (hlo _ e).2
              omega
          · simp only [World.size_alloc] at e
            intro hk
            have := HJ5.out.1.lt g6 hk
            omega
      case measure => simp [intOf]; omega
    · have hce : c = m := by omega
      subst hce
      obtain ⟨gr, capr, hv, hbg, hgl⟩ := HOW.out.form (by omega)
      subst hv
      go_wp2_with (first
        | (go_at_call 18; (with_reducible refine HCL.out.mono ?_); rintro e wc ⟨rfl, nq, rfl⟩)
        | fail)
      go_ret2
      exact HPOST.out _ gr capr F' HOW.out (HJ.out.drewN nq) HNE.out (HNB.out gr rfl) (HO.out.drewN nq)
end Go.Proofs.YtjgkhdanhglgeaaGreatDoor
/- The law's behind: the cells behind a transaction. -/
namespace Go.Proofs.YtjgkhdanhglgeaaGreatDoor
open Go.RowKit PJ Go.Maps

/-- A deed in memory. -/
def DeedAt (w : World) (lv : Value) (l : List Wr) : Prop :=
  ∃ a cap, lv = .slice a l.length cap ∧ l.length ≤ cap ∧ l.length ≤ 140737488355328 ∧ (l = [] ∨ ∃ g off, a = some ⟨g, off, none⟩ ∧ g < w.heap.size ∧ ∀ j x, l[j]? = some x → WrCells w g (off + j * 2) x)
theorem behindW_len (now : List (List UInt8)) (x : Wr) : (behindW now x).length = now.length := by
  unfold behindW
  split <;> simp
theorem behindL_len : ∀ (l : List Wr) (now : List (List UInt8)), (behindL now l).length = now.length
  | [], _ => rfl
  | x :: r, now => by
    show (behindL (behindW now x) r).length = _
    rw [behindL_len r, behindW_len]
theorem behindL_take {now : List (List UInt8)} {l : List Wr} {i : Nat} {x : Wr} (h : l[i]? = some x) : behindL now (l.take (i + 1)) = behindW (behindL now (l.take i)) x := by
  rw [List.take_add_one, h]
  unfold behindL
  simp
theorem strs_len (l : List (List UInt8)) : (strs l).length = l.length := by simp [strs]
theorem strs_set (l : List (List UInt8)) (i : Nat) (x : List UInt8) : (strs l).set i (strV x) = strs (l.set i x) := by simp [strs, List.map_set]
set_option maxRecDepth 100000 in
set_option maxHeartbeats 2000000 in
theorem behind_any (w : World) (g0 c0 n : Nat) (now : List (List UInt8)) (hn : now.length = n) (h1 : 1 ≤ n) (h60 : n ≤ 60) (hc0 : n ≤ c0) (hA : SCells w g0 now) (lv : Value) (l : List Wr) (hl : DeedAt w lv l) :
    Calls Tryz.prog 13 #[.slice (some ⟨g0, 0, none⟩) n c0, lv] w fun e w' => ∃ g cap, e = .returned (.slice (some ⟨g, 0, none⟩) n cap) ∧ w'.ownsRow w.heap.size 9 1 (.slice (some ⟨g, 0, none⟩) n cap) n (strs (behindL now l)) ∧ LJ w w' := by
  obtain ⟨iS, hiS, hzS, hsS, hbS⟩ := info_parts info_str
  obtain ⟨ad, capl, rfl, hlc, hl47, hd⟩ := hl
  have hg0 : g0 < w.heap.size := by
    obtain ⟨s, hs⟩ : ∃ s, now[0]? = some s := ⟨_, List.getElem?_eq_getElem (by omega)⟩
    exact World.block_lt_of_cell? _ _ (hA 0 s hs)
  have hsl : (strs now).length = n := by rw [strs_len, hn]
  have HNW := Lib.hid (fun j u (hu : (strs now)[j]? = some u) => show (w.alloc (.cells #[] 9)).cell? ((⟨g0, 0, none⟩ : Addr).add j) = some u from by
    rw [addr_none, Nat.zero_add]
    refine ((alloc_below w _).cell (p := ⟨g0, j, none⟩) hg0).trans ?_
    have hj : j < now.length := by rw [hn, ← hsl]; exact (List.getElem?_eq_some_iff.1 hu).1
    have hs : now[j]? = some now[j] := List.getElem?_eq_getElem hj
    rw [hA j _ hs]
    simp only [strs, List.getElem?_map, hs] at hu
    exact hu)
  have HONE := Lib.hid (fun u (hu : u ∈ strs now) => show u.oneCell' = true from by
    obtain ⟨d, -, rfl⟩ := List.mem_map.1 hu
    rfl)
  have HD := Lib.hid hd
  have HN := Lib.hid hn
  have HSL := Lib.hid hsl
  obtain ⟨L, hL⟩ : ∃ L, l.length = L := ⟨_, rfl⟩
  rw [hL] at hlc hl47 ⊢
  have HLL := Lib.hid hL
  have HL47 := Lib.hid hl47
  clear hd hA hn hsl hg0 hL hl47
  go_enter Tryz.func13, Tryz.ntmps13
  go_wp2_with (first
    | (at_builtin; refine wpList_append_lies _ rfl (.tmp 7) (.tmp 8) 32 rfl w.heap.size 9 iS (.string ⟨#[]⟩) 1 16 Tryz.underlying32 hiS hzS hsS hbS rfl (by decide) _ 0 [] rfl ⟨rfl, Or.inr ⟨w.heap.size, 0, #[], rfl, Nat.le_refl _, alloc_blk w _, Nat.le_refl _, by unfold maxLen; omega, rfl, rfl⟩⟩ ⟨g0, 0, none⟩ n c0 (strs now) rfl (by rw [HSL.out]; omega) HNW.out HONE.out (by omega) (by unfold maxLen; omega) (by omega) (by simp) _ rfl ?_; intro g cap w1 hown1 hgrow1 hat1 hlt1)
    | fail)
  rw [Nat.zero_add, List.nil_append] at hown1
  have hlj1 : LJ w w1 := by
    have h7 : w.heap.size ≤ w1.heap.size := Nat.le_trans (alloc_below w (.cells #[] 9)).size hgrow1.size
    exact ⟨hgrow1.os, hgrow1.tape, hgrow1.output, h7, fun k hk => (hgrow1.block k (Nat.lt_of_lt_of_le hk (alloc_below w (.cells #[] 9)).size) (fun e => absurd (Option.some.inj (show some k = some w.heap.size from e)) (Nat.ne_of_lt hk))).trans (Below.heap_alloc _ _ _ hk)⟩
  have HOW1 := Lib.hid hown1
  have HLJ1 := Lib.hid hlj1
  have hgw : w.heap.size ≤ g := (hown1.lt g rfl).1
  clear hown1 hgrow1 hat1 hlt1 hlj1
  go_loopw [6] (fun v6 wr => ∃ i : Nat, i ≤ L ∧ v6 = .int .i64 (i : Int) ∧ Hid (wr.ownsRow w.heap.size 9 1 (.slice (some ⟨g, 0, none⟩) n cap) n (strs (behindL now (l.take i)))) ∧ Hid (LJ w wr)) (fun v6 _ => L - (intOf v6).toNat)
  case atStart => exact ⟨0, by omega, rfl, by simpa [behindL] using HOW1, HLJ1⟩
  case round =>
    obtain ⟨i, hi, rfl, HOW, HLJ⟩ := hrel
    by_cases hlt : i < L
    · obtain ⟨x, hx⟩ : ∃ x, l[i]? = some x := ⟨_, List.getElem?_eq_getElem (by rw [HLL.out]; exact hlt)⟩
      have hd := HD.out
      rcases hd with rfl | ⟨gd, od, rfl, hgd, hc⟩
      · simp at hx
      obtain ⟨k0, k1⟩ := hc i x hx
      have c0' : wr.cell? ⟨gd, od + i * 2, none⟩ = some (.int .i64 x.cell) := LJ.cell HLJ.out k0
      have c1' : wr.cell? ⟨gd, od + i * 2 + 1, none⟩ = some (.string x.data) := LJ.cell HLJ.out k1
      obtain ⟨ce, hce⟩ : ∃ ce, x.cell = ce := ⟨_, rfl⟩
      obtain ⟨DX, hDX⟩ : ∃ DX, x.data = DX := ⟨_, rfl⟩
      rw [hce] at c0'
      rw [hDX] at c1'
      have hbl := behindL_take (now := now) hx
      have hbn : (behindL now (l.take i)).length = n := by rw [behindL_len, HN.out]
      have hli : (i : Int) < (L : Int) := by omega
      have hwi : IntKind.i64.wrap ((i : Int) + 1) = (i : Int) + 1 := by have := HL47.out; rw [IntKind.wrap_i64]; omega
      have hbw : ∀ b : Bool, b = decide (0 ≤ ce ∧ ce < (n : Int) ∧ DX.size ≤ 116) → behindW (behindL now (l.take i)) x = if b = true then (behindL now (l.take i)).set ce.toNat (padT DX.data.toList 116) else behindL now (l.take i) := by
        intro b hb
        subst hb
        unfold behindW
        rw [hbn, hce, hDX]
        simp only [decide_eq_true_eq]
      have HBL := Lib.hid hbl
      have HBW := Lib.hid hbw
      have HBN := Lib.hid hbn
      clear hx k0 k1 hc hce hDX hbl hbw hbn
      by_cases g1 : 0 ≤ ce
      · by_cases g2 : ce < (n : Int)
        · by_cases g3 : DX.size ≤ 116
          · have b1 : decide ((0 : Int) ≤ ce) = true := by simp; omega
            have b2 : decide (ce < (n : Int)) = true := by simp; omega
            have b3 : decide ((DX.size : Int) ≤ 116) = true := by simp; omega
            have b3' : decide (DX.size ≤ 116) = true := by simp; omega
            obtain ⟨kc, rfl⟩ := Int.eq_ofNat_of_zero_le g1
            have hkn : kc < n := by omega
            obtain ⟨PD, hPD⟩ : ∃ PD : ByteArray, (⟨(padT DX.data.toList 116).toArray⟩ : ByteArray) = PD := ⟨_, rfl⟩
            have HPA := Lib.hid (fun W => show Calls Tryz.prog 24 #[.string DX] W fun e w' => e = .returned (.string PD) ∧ LJ W w' from by rw [← hPD]; exact pad_any W DX g3)
            have HPD := Lib.hid hPD
            have hold : ∀ W, LJ wr W → W.frozen? ⟨g, kc, none⟩ = false ∧ ∃ u, W.cell? ⟨g, kc, none⟩ = some u := fun W hW => by
              have ho := own_below HOW.out hW
              refine ⟨ho.frozenAt kc, ?_⟩
              rw [ho.cellAt kc (by omega)]
              exact ⟨_, List.getElem?_eq_getElem (by rw [strs_len, HBN.out]; omega)⟩
            have HOLD := Lib.hid hold
            obtain ⟨kf, u, ku⟩ := hold wr (LJ.refl _)
            have HKK := Lib.hid (fun W (hW : LJ wr W) => And.intro (LJ.cell hW c0') (LJ.cell hW c1'))
            have hgg : gd ≠ g := by omega
            have HKS := Lib.hid (fun W v (hW : LJ wr W) => show (World.setCell W ⟨g, kc, none⟩ v).cell? ⟨gd, od + i * 2, none⟩ = some (.int .i64 (kc : Int)) ∧ (World.setCell W ⟨g, kc, none⟩ v).cell? ⟨gd, od + i * 2 + 1, none⟩ = some (.string DX) from
              ⟨(World.cell?_of_block (a := ⟨gd, od + i * 2, none⟩) (heap_setCell_other W ⟨g, kc, none⟩ gd v hgg)).trans (HKK.out W hW).1, (World.cell?_of_block (a := ⟨gd, od + i * 2 + 1, none⟩) (heap_setCell_other W ⟨g, kc, none⟩ gd v hgg)).trans (HKK.out W hW).2⟩)
            clear hPD hold
            go_wp2_with fail
            go_region_held3 (fun w' => w'.cell? ⟨gd, od + i * 2, none⟩ = some (.int .i64 (kc : Int)) ∧ w'.cell? ⟨gd, od + i * 2 + 1, none⟩ = some (.string DX)) (first | (refine HKS.out _ _ ?_; (repeat (first | assumption | exact LJ.refl _ | refine LJ.drew ?_ | refine LJ.trans ?_ (by assumption)))) | exact HKK.out _ (by repeat (first | assumption | exact LJ.refl _ | refine LJ.drew ?_ | refine LJ.trans ?_ (by assumption))))
              (first
                | (go_at_call 24; (with_reducible refine (HPA.out _).mono ?_); rintro e w9 ⟨rfl, hl9⟩; obtain ⟨kf9, u9, ku9⟩ := HOLD.out w9 (by repeat (first | assumption | exact LJ.refl _ | refine LJ.drew ?_ | refine LJ.trans ?_ (by assumption))))
                | fail)
            all_goals
              go_wp2_with fail
              go_roundw
              case rel =>
                have hl9' : LJ wr w9 := LJ.undrew hl9
                refine ⟨i + 1, by omega, by simp, Lib.hid ?_, Lib.hid ?_⟩
                · rw [HBL.out, HBW.out true (decide_eq_true (by omega)).symm, if_pos rfl, Int.toNat_natCast, ← strs_set]
                  have h1 := ((own_below HOW.out hl9').stored kc (.string PD)).1
                  rw [show strV (padT DX.data.toList 116) = .string PD from by rw [← HPD.out]; rfl]
                  exact h1
                · have h2 : LJ w w9 := HLJ.out.trans hl9'
                  refine Below.setCell h2 ?_ _
                  exact hgw
              case measure => simp [intOf]; omega
          · have b1 : decide ((0 : Int) ≤ ce) = true := by simp; omega
            have b2 : decide (ce < (n : Int)) = true := by simp; omega
            have b3 : decide ((DX.size : Int) ≤ 116) = false := by simp; omega
            have b3' : decide (DX.size ≤ 116) = false := by simp; omega
            go_wp2_with fail
            go_roundw
            case rel =>
              refine ⟨i + 1, by omega, by simp, Lib.hid ?_, HLJ⟩
              rw [HBL.out, HBW.out false (decide_eq_false (by omega)).symm]
              exact HOW.out
            case measure => simp [intOf]; omega
        · have b1 : decide ((0 : Int) ≤ ce) = true := by simp; omega
          have b2 : decide (ce < (n : Int)) = false := by simp; omega
          go_wp2_with fail
          go_roundw
          case rel =>
            refine ⟨i + 1, by omega, by simp, Lib.hid ?_, HLJ⟩
            rw [HBL.out, HBW.out false (decide_eq_false (by omega)).symm]
            exact HOW.out
          case measure => simp [intOf]; omega
      · have b1 : decide ((0 : Int) ≤ ce) = false := by simp; omega
        go_wp2_with fail
        go_roundw
        case rel =>
          refine ⟨i + 1, by omega, by simp, Lib.hid ?_, HLJ⟩
          rw [HBL.out, HBW.out false (decide_eq_false (by omega)).symm]
          exact HOW.out
        case measure => simp [intOf]; omega
    · have hie : i = L := by omega
      subst hie
      have ho := HOW.out
      rw [show l.take i = l from by rw [← HLL.out]; exact List.take_length] at ho
      have HO := Lib.hid ho
      clear ho
      go_wp2_with fail
      go_ret
      exact ⟨g, cap, rfl, HO.out, HLJ.out⟩
end Go.Proofs.YtjgkhdanhglgeaaGreatDoor
