/- Vge, merged: VN7 VN8 VN10 VN9. -/
import Derived.Test.YtfpbocjmlhcgiaaGreatDoorVgd
import Derived.Test.YtfpbocjmlhcgiaaGreatDoorVg4
import Derived.BigQuiet
set_option linter.unusedSimpArgs false
set_option linter.unusedVariables false
/- The law's data. -/
namespace Go.Proofs.YtfpbocjmlhcgiaaGreatDoor
open Go.RowKit PJ Go.Maps

def dotsB (j : Nat) : ByteArray := ⟨(List.replicate j 46).toArray⟩
theorem dots_size (j : Nat) : (dotsB j).size = j := by show (List.replicate j (46 : UInt8)).toArray.size = j; simp
theorem dots_succ (Q : ByteArray) (j : Nat) : Q ++ dotsB j ++ ⟨#[46]⟩ = Q ++ dotsB (j + 1) := by
  apply ByteArray.ext
  apply Array.toList_inj.1
  rw [app_data, app_data, app_data]
  show Q.data.toList ++ List.replicate j 46 ++ [46] = Q.data.toList ++ List.replicate (j + 1) 46
  rw [List.replicate_succ', List.append_assoc]
/-- What a write writes. -/
def dataE (Q : ByteArray) (b : Int) : ByteArray := Q ++ dotsB ((if 1100 < b then 1100 else b).toNat - Q.size)
theorem dataE_size (Q : ByteArray) (b : Int) : (dataE Q b).size ≤ max Q.size 1100 := by
  unfold dataE
  rw [ByteArray.size_append, dots_size]
  split <;> omega
set_option maxRecDepth 100000 in
theorem ldata_any (w : World) (on kd a b : Int) (P Q : ByteArray) (cv : Value) (hQ : Q.size ≤ 140737488355328) :
    Calls Tryz.prog 46 #[.agg #[.int .i64 on, .int .i64 kd, .int .i64 a, .int .i64 b, .string P, .string Q, cv]] w fun e w' => e = .returned (.string (dataE Q b)) ∧ LJ w w' := by
  obtain ⟨w1, hw1⟩ : ∃ w1, w.alloc (.cells #[.int .i64 on, .int .i64 kd, .int .i64 a, .int .i64 b, .string P, .string Q, cv] 66) = w1 := ⟨_, rfl⟩
  obtain ⟨q, hq⟩ : ∃ q, w.heap.size = q := ⟨_, rfl⟩
  have hb : w1.heap[q]? = some (.cells #[.int .i64 on, .int .i64 kd, .int .i64 a, .int .i64 b, .string P, .string Q, cv] 66 (0, 0)) := by rw [← hw1, ← hq]; exact alloc_blk w _
  have HL1 := Lib.hid (show LJ w w1 from by rw [← hw1]; exact (LJ.refl w).alloc _)
  have k3 : w1.cell? ⟨q, 3, none⟩ = some (.int .i64 b) := cell_blk hb 3
  have k5 : w1.cell? ⟨q, 5, none⟩ = some (.string Q) := cell_blk hb 5
  obtain ⟨M, hM⟩ : ∃ M : Int, (if 1100 < b then 1100 else b) = M := ⟨_, rfl⟩
  have hM1 : M ≤ 1100 := by rw [← hM]; split <;> omega
  have hmq : ∀ W ts t, (Builtin.min_ ts t #[.int .i64 b, .int .i64 1100]).run Tryz.prog W = .ok (.int .i64 M) W := fun W ts t => by
    rw [run_min2V, hM]
  obtain ⟨cnt, hcnt⟩ : ∃ c, M.toNat - Q.size = c := ⟨_, rfl⟩
  have HD := Lib.hid (show dataE Q b = Q ++ dotsB cnt from by unfold dataE; rw [hM, hcnt])
  have HW1 := Lib.hid hw1
  have HQ := Lib.hid hq
  clear hw1 hb hM hq
  go_enter Tryz.func46, Tryz.ntmps46
  go_upto_region 1 with fail
  rw [HW1.out, HQ.out]
  go_wp2_with fail
  go_loop [3] (fun v3 => ∃ (j : Nat) (S : ByteArray), j ≤ cnt ∧ v3 = .string S ∧ Hid (S = Q ++ dotsB j) ∧ S.size = Q.size + j) (fun v3 => match v3 with | .string S => Q.size + cnt - S.size | _ => 0)
  case atStart => exact ⟨0, Q, by omega, rfl, Lib.hid (by
    apply ByteArray.ext
    apply Array.toList_inj.1
    rw [app_data]
    show Q.data.toList = Q.data.toList ++ []
    rw [List.append_nil]), by omega⟩
  case round =>
    obtain ⟨j, S, hj, rfl, HS, hsz⟩ := hrel
    by_cases hlt : j < cnt
    · have hc : (S.size : Int) < M := by omega
      have g1 : ¬ 9223372036854775807 < S.size + 1 := by omega
      obtain ⟨S2, hS2⟩ : ∃ S2, S ++ ⟨#[46]⟩ = S2 := ⟨_, rfl⟩
      have hs2 : S2.size = Q.size + (j + 1) := by rw [← hS2, ByteArray.size_append, hsz]; rfl
      have HS2 := Lib.hid (show S2 = Q ++ dotsB (j + 1) from by rw [← hS2, HS.out, dots_succ])
      have HZ := Lib.hid (And.intro hsz (And.intro hs2 hlt))
      clear hs2 hsz hcnt
      go_wp2_with fail
      go_roundw
      case rel => exact ⟨j + 1, S2, HZ.out.2.2, rfl, HS2, HZ.out.2.1⟩
      case measure => have h1 := HZ.out.1; have h2 := HZ.out.2.1; have h3 := HZ.out.2.2; simp only []; omega
    · have hc : ¬ (S.size : Int) < M := by omega
      have HE := Lib.hid (show S = dataE Q b from by rw [HD.out, HS.out]; congr 2; omega)
      clear hsz hcnt
      go_wp2_with fail
      go_ret
      exact ⟨by rw [← HE.out]; rfl, HL1.out⟩
end Go.Proofs.YtfpbocjmlhcgiaaGreatDoor
/- What a call of a script does; a volume's calls. -/
namespace Go.Proofs.YtfpbocjmlhcgiaaGreatDoor
open Go.RowKit PJ Go.Maps

/-- What a call of a script does. -/
def doE (room : Nat) (l : List Ent) (kd a b : Int) (P Q : ByteArray) : Ans :=
  if kd = 0 then mkE room l P.data.toList true else if kd = 1 then mkE room l P.data.toList false else if kd = 2 then wrE room l P.data.toList a (dataE Q b).data.toList else if kd = 3 then rmE room l P.data.toList else if kd = 4 then rnE room l P.data.toList Q.data.toList else (0, l)
theorem wrsV_same (s : List UInt8) : ∀ m : Nat, wrsV s s m = []
  | 0 => rfl
  | m + 1 => by rw [wrsV, if_pos rfl, wrsV_same s m]; rfl
theorem ans_same (J : Jn) (l : List Ent) : J.ans l (0, l) = J := by
  unfold Jn.ans Jn.vol
  rw [if_pos rfl, wrsV_same]
  unfold Jn.deed
  rw [if_pos rfl]
theorem ans_not (J : Jn) (l : List Ent) {a : Ans} (h : a.1 ≠ 0) : J.ans l a = J := by
  unfold Jn.ans
  rw [if_neg h]
theorem ans_room (J : Jn) (l : List Ent) (a : Ans) : (J.ans l a).room' = J.room' := by
  obtain ⟨d1, d2, -, -⟩ := ans_dim J l a
  unfold Jn.room'
  rw [d1, d2]
theorem doE_ok {room : Nat} {l : List Ent} (h : VInv l) (hl : (imageE l).length ≤ room) (kd a b : Int) (P Q : ByteArray) : AnsOK room l (doE room l kd a b P Q) := by
  unfold doE
  repeat' split
  · exact mkE_ok h _ _
  · exact mkE_ok h _ _
  · exact wrE_ok h _ _ _
  · exact rmE_ok h _
  · exact rnE_ok h _ _
  · exact .inr ⟨rfl, h, hl⟩
theorem VK.bd {w W : World} {K : Nat → Prop} {p b jb vb : Nat} {J : Jn} {l : List Ent} {B : Nat} (h : VK w W K p b jb vb J l B) : J.head ≤ B ∧ J.next ≤ B := h.elim fun _ h => h.2.2.2.2
theorem VK.up {w W : World} {K : Nat → Prop} {p b jb vb : Nat} {J : Jn} {l : List Ent} {B B' : Nat} (h : VK w W K p b jb vb J l B) (hB : B ≤ B') : VK w W K p b jb vb J l B' := by
  obtain ⟨F, h1, h2, h3, h4, h5, h6⟩ := h
  exact ⟨F, h1, h2, h3, h4, by omega, by omega⟩
end Go.Proofs.YtfpbocjmlhcgiaaGreatDoor
/- Entries in memory; the document's Same at equal entries. -/
namespace Go.Proofs.YtfpbocjmlhcgiaaGreatDoor
open Go.RowKit PJ Go.Maps

/-- A slice of entries that nobody writes. -/
def EntSl (w : World) (v : Value) (l : List Ent) : Prop :=
  (v = .slice none 0 0 ∧ l = []) ∨ ∃ g cap, v = .slice (some ⟨g, 0, none⟩) l.length cap ∧ l.length ≤ cap ∧ g < w.heap.size ∧ ∀ j u, (entsC l)[j]? = some u → w.cell? ⟨g, j, none⟩ = some u
theorem own_ents {w : World} {B : Nat} {v : Value} {l : List Ent} (h : w.ownsRow B 74 3 v l.length (entsC l)) : EntSl w v l := by
  have h0 := h
  rcases h.2 with ⟨rfl, e⟩ | ⟨g, cap, cur, rfl, h1, h2, h3, h4⟩
  · exact .inl ⟨rfl, List.length_eq_zero_iff.1 e⟩
  · refine .inr ⟨g, cap, rfl, h3, lt_blk h2, fun j u hu => ?_⟩
    have hj : j < l.length * 3 := by rw [← entsC_len]; exact (List.getElem?_eq_some_iff.1 hu).1
    rw [h0.cellAt j hj, hu]
theorem EntSl.later {w w' : World} {v : Value} {l : List Ent} (h : EntSl w v l) (hl : LJ w w') : EntSl w' v l := by
  rcases h with h | ⟨g, cap, h1, h2, h3, h4⟩
  · exact .inl h
  · exact .inr ⟨g, cap, h1, h2, Nat.lt_of_lt_of_le h3 (Below.size hl), fun j u hu => hl.cell (h4 j u hu)⟩
/-- The same, said otherwise. -/
theorem EntSl.forms {w : World} {v : Value} {l : List Ent} (h : EntSl w v l) : ∃ ao cap, v = .slice ao l.length cap ∧ (l.length = 0 ∨ ∃ g, ao = some ⟨g, 0, none⟩ ∧ l.length ≤ cap ∧ ∀ i x, l[i]? = some x → w.cell? ⟨g, i * 3, none⟩ = some (.string ⟨x.p.toArray⟩) ∧ w.cell? ⟨g, i * 3 + 1, none⟩ = some (.bool x.d) ∧ w.cell? ⟨g, i * 3 + 2, none⟩ = some (.string ⟨x.s.toArray⟩)) := by
  rcases h with ⟨rfl, rfl⟩ | ⟨g, cap, rfl, h1, h2, h3⟩
  · exact ⟨none, 0, rfl, .inl rfl⟩
  · refine ⟨_, cap, rfl, .inr ⟨g, rfl, h1, fun i x hx => ?_⟩⟩
    obtain ⟨c0, c1, c2⟩ := entsC_get hx
    exact ⟨h3 _ _ c0, h3 _ _ c1, h3 _ _ c2⟩
set_option maxRecDepth 100000 in
set_option maxHeartbeats 4000000 in
theorem esame_any (w : World) (v1 v2 : Value) (l : List Ent) (hx : l.length ≤ 4096) (h1 : EntSl w v1 l) (h2 : EntSl w v2 l) :
    Calls Tryz.prog 35 #[v1, v2] w fun e w' => e = .returned (.bool true) ∧ LJ w w' := by
  obtain ⟨a1, c1, rfl, f1⟩ := h1.forms
  obtain ⟨a2, c2, rfl, f2⟩ := h2.forms
  obtain ⟨m, hm⟩ : ∃ m, l.length = m := ⟨_, rfl⟩
  have HF1 := Lib.hid f1
  have HF2 := Lib.hid f2
  rw [hm] at HF1 HF2 hx ⊢
  have HM := Lib.hid hm
  have hne : ((m : Int) != (m : Int)) = false := bne_self_eq_false _
  have HJ0 := Lib.hid (LJ.refl w)
  clear h1 h2 f1 f2 hm
  go_enter Tryz.func35, Tryz.ntmps35
  go_wp2_with fail
  go_loopw [5] (fun v5 wr => ∃ i : Nat, i ≤ m ∧ v5 = .int .i64 (i : Int) ∧ Hid (LJ w wr)) (fun v5 _ => m - (intOf v5).toNat)
  case atStart => exact ⟨0, by omega, rfl, HJ0⟩
  case round =>
    obtain ⟨i, hi, rfl, HL⟩ := hrel
    by_cases hlt : i < m
    · have hli : (i : Int) < (m : Int) := by omega
      have hwi : IntKind.i64.wrap ((i : Int) + 1) = (i : Int) + 1 := by rw [IntKind.wrap_i64]; omega
      obtain ⟨x, hxx⟩ : ∃ x, l[i]? = some x := ⟨_, List.getElem?_eq_getElem (by rw [HM.out]; exact hlt)⟩
      rcases HF1.out with h0 | ⟨g1, rfl, hc1, k1⟩
      · omega
      rcases HF2.out with h0 | ⟨g2, rfl, hc2, k2⟩
      · omega
      obtain ⟨k10, k11, k12⟩ := k1 i x hxx
      obtain ⟨k20, k21, k22⟩ := k2 i x hxx
      obtain ⟨xp, xd, xs⟩ := x
      obtain ⟨XP, hXP⟩ : ∃ X : ByteArray, (⟨xp.toArray⟩ : ByteArray) = X := ⟨_, rfl⟩
      obtain ⟨XS, hXS⟩ : ∃ X : ByteArray, (⟨xs.toArray⟩ : ByteArray) = X := ⟨_, rfl⟩
      have e0 : wr.cell? ⟨g1, i * 3, none⟩ = some (.string XP) := by rw [← hXP]; exact HL.out.cell k10
      have e1 : wr.cell? ⟨g1, i * 3 + 1, none⟩ = some (.bool xd) := HL.out.cell k11
      have e2 : wr.cell? ⟨g1, i * 3 + 2, none⟩ = some (.string XS) := by rw [← hXS]; exact HL.out.cell k12
      have d0 : wr.cell? ⟨g2, i * 3, none⟩ = some (.string XP) := by rw [← hXP]; exact HL.out.cell k20
      have d1 : wr.cell? ⟨g2, i * 3 + 1, none⟩ = some (.bool xd) := HL.out.cell k21
      have d2 : wr.cell? ⟨g2, i * 3 + 2, none⟩ = some (.string XS) := by rw [← hXS]; exact HL.out.cell k22
      have hdd : (XP.toList == XP.toList) = true := beq_self_eq_true _
      have hd2 : (XS.toList == XS.toList) = true := beq_self_eq_true _
      have hn0 : (xd == xd) = true := beq_self_eq_true _
      clear k1 k2 k10 k11 k12 k20 k21 k22 hxx hXP hXS
      go_upto_region 6 with fail
      go_quiet (fail)
      have HL2 := Lib.hid (LJ.drewN HL.out nq)
      go_wp2_with fail
      go_roundw
      case rel => exact ⟨i + 1, by omega, by simp, HL2⟩
      case measure => simp [intOf]; omega
    · have hie : i = m := by omega
      subst hie
      go_wp2_with fail
      go_ret
      exact ⟨rfl, HL.out⟩
end Go.Proofs.YtfpbocjmlhcgiaaGreatDoor
/- Calls of a script in memory. -/
namespace Go.Proofs.YtfpbocjmlhcgiaaGreatDoor
open Go.RowKit PJ Go.Maps

/-- A call of a script. -/
structure OpV where
  on : Int
  kd : Int
  a : Int
  b : Int
  P : ByteArray
  Q : ByteArray
  ca : Option Addr
  cn : Nat
  cc : Nat
def OpV.val (x : OpV) : Value := .agg #[.int .i64 x.on, .int .i64 x.kd, .int .i64 x.a, .int .i64 x.b, .string x.P, .string x.Q, .slice x.ca x.cn x.cc]
structure OpV.OK (x : OpV) : Prop where
  P : x.P.size ≤ 1048576
  Q : x.Q.size ≤ 1048576
  a : -9223372036854775808 ≤ x.a ∧ x.a ≤ 9223372036854775807
  b : -9223372036854775808 ≤ x.b ∧ x.b ≤ 9223372036854775807
structure OpCells (w : World) (g o : Nat) (x : OpV) : Prop where
  c0 : w.cell? ⟨g, o, none⟩ = some (.int .i64 x.on)
  c1 : w.cell? ⟨g, o + 1, none⟩ = some (.int .i64 x.kd)
  c2 : w.cell? ⟨g, o + 2, none⟩ = some (.int .i64 x.a)
  c3 : w.cell? ⟨g, o + 3, none⟩ = some (.int .i64 x.b)
  c4 : w.cell? ⟨g, o + 4, none⟩ = some (.string x.P)
  c5 : w.cell? ⟨g, o + 5, none⟩ = some (.string x.Q)
  c6 : w.cell? ⟨g, o + 6, none⟩ = some (.slice x.ca x.cn x.cc)
theorem OpCells.later {w w' : World} {g o : Nat} {x : OpV} (h : OpCells w g o x) (hl : LJ w w') : OpCells w' g o x :=
  ⟨hl.cell h.c0, hl.cell h.c1, hl.cell h.c2, hl.cell h.c3, hl.cell h.c4, hl.cell h.c5, hl.cell h.c6⟩
/-- A script in memory. -/
def OpsAt (w : World) (a : Option Addr) (n : Nat) (l : List OpV) : Prop :=
  l.length = n ∧ n ≤ 1048576 ∧ (∀ x ∈ l, x.OK) ∧ (n = 0 ∨ ∃ g o, a = some ⟨g, o, none⟩ ∧ ∀ i x, l[i]? = some x → OpCells w g (o + i * 7) x)
theorem OpsAt.later {w w' : World} {a : Option Addr} {n : Nat} {l : List OpV} (h : OpsAt w a n l) (hl : LJ w w') : OpsAt w' a n l := by
  obtain ⟨h1, h2, h3, h4⟩ := h
  exact ⟨h1, h2, h3, h4.imp id fun ⟨g, o, e, hc⟩ => ⟨g, o, e, fun i x hx => (hc i x hx).later hl⟩⟩
end Go.Proofs.YtfpbocjmlhcgiaaGreatDoor
