/- Vg8, merged: VM20 VM21. -/
import Derived.Test.YtfpbocjmlhcgiaaGreatDoorVg5
import Derived.Test.YtfpbocjmlhcgiaaGreatDoorVg3
set_option linter.unusedSimpArgs false
set_option linter.unusedVariables false
/- The volume's checks: asked. -/
namespace Go.Proofs.YtfpbocjmlhcgiaaGreatDoor
open Go.RowKit PJ Go.Maps Go.WideMaps Go.Shelf

/-- A check: its closure, what it says, its error. -/
structure Chk where
  K : FuncId
  cp : Array Value
  b : Bool
  e : Int
def Chk.cells (c : Chk) : Array Value := #[.func (.func c.K) #[] c.cp, .int .i64 c.e]
def askE : List Chk → Int
  | [] => 0
  | c :: r => if c.b = true then askE r else c.e
def ChkOK (w : World) (c : Chk) : Prop := (∀ args w, (callFunc c.K args).run Tryz.prog w = .ok (.enter c.K args) w) ∧ ∀ w1, LJ w w1 → Calls Tryz.prog c.K c.cp w1 fun e w' => e = .returned (.bool c.b) ∧ LJ w1 w'
theorem ChkOK.later {w w' : World} {c : Chk} (h : ChkOK w c) (hl : LJ w w') : ChkOK w' c := ⟨h.1, fun w1 h1 => h.2 w1 (hl.trans h1)⟩
theorem info_chk : (Tryz.prog.info? 146).map (fun i => i.size) = some 2 := by kernel_rfl
theorem askE_step (c : Chk) (r : List Chk) : askE (c :: r) = if c.b = true then askE r else c.e := rfl
set_option maxRecDepth 100000 in
set_option maxHeartbeats 2000000 in
theorem asked_any (w : World) (l : List Chk) (g n cap : Nat) (hn : l.length = n) (hn8 : n ≤ 100) (hc : ∀ j c, l[j]? = some c → w.cell? ⟨g, j * 2, none⟩ = some (.func (.func c.K) #[] c.cp) ∧ w.cell? ⟨g, j * 2 + 1, none⟩ = some (.int .i64 c.e)) (hok : ∀ c ∈ l, ChkOK w c) :
    Calls Tryz.prog 90 #[.slice (some ⟨g, 0, none⟩) n cap] w fun e w' => e = .returned (.int .i64 (askE l)) ∧ LJ w w' := by
  have HC := Lib.hid hc
  have HK := Lib.hid hok
  have HN := Lib.hid hn
  obtain ⟨A, hA⟩ : ∃ A, askE l = A := ⟨_, rfl⟩
  rw [hA]
  have HA := Lib.hid hA
  clear hc hok hn hA
  go_enter Tryz.func90, Tryz.ntmps90
  go_wp2_with fail
  go_loopw [7] (fun v wr => ∃ j : Nat, j ≤ n ∧ v = .int .i64 (j : Int) ∧ Hid (askE (l.drop j) = A) ∧ Hid (LJ w wr)) (fun v _ => n - (intOf v).toNat)
  case atStart => exact ⟨0, by omega, rfl, HA, Lib.hid (LJ.refl _)⟩
  case round =>
    obtain ⟨j, hj, rfl, HE, HB⟩ := hrel
    by_cases hlt : j < n
    · have hji : (j : Int) < (n : Int) := by omega
      obtain ⟨c, hcj⟩ : ∃ c, l[j]? = some c := ⟨_, List.getElem?_eq_getElem (by have := HN.out; omega)⟩
      obtain ⟨d1, d2⟩ := HC.out j c hcj
      have r1 := LJ.cell HB.out d1
      have r2 := LJ.cell HB.out d2
      have hck := HK.out c (List.mem_of_getElem? hcj)
      obtain ⟨hKK, hcall⟩ := hck
      have HED := Lib.hid (show askE (c :: l.drop (j + 1)) = A from by
        have h1 := HE.out
        obtain ⟨x1, x2⟩ := List.getElem?_eq_some_iff.1 hcj
        rw [List.drop_eq_getElem_cons x1, x2] at h1
        exact h1)
      obtain ⟨KF, hKF⟩ : ∃ K, c.K = K := ⟨_, rfl⟩
      obtain ⟨CP, hCP⟩ : ∃ K, c.cp = K := ⟨_, rfl⟩
      obtain ⟨E, hEE⟩ : ∃ K, c.e = K := ⟨_, rfl⟩
      obtain ⟨B, hBB⟩ : ∃ K, c.b = K := ⟨_, rfl⟩
      rw [hKF, hCP] at r1
      rw [hEE] at r2
      rw [hKF] at hKK
      rw [hKF, hCP, hBB] at hcall
      rw [askE_step, hEE, hBB] at HED
      have HCALL := Lib.hid (fun W (h : LJ wr W) => hcall W (HB.out.trans h))
      obtain ⟨w4, hw4⟩ : ∃ w4, wr.alloc (.cells #[Value.nilFunc, .int .i64 0] 146) = w4 := ⟨_, rfl⟩
      obtain ⟨q, hq⟩ : ∃ q, wr.heap.size = q := ⟨_, rfl⟩
      have HB4 := Lib.hid (show w4.heap[q]? = some (.cells #[Value.nilFunc, .int .i64 0] 146 (0, 0)) from by rw [← hw4, ← hq]; exact alloc_blk wr _)
      obtain ⟨w5, hw5⟩ : ∃ w5, w4.setRow q #[.func (.func KF) #[] CP, .int .i64 E] = w5 := ⟨_, rfl⟩
      have HB5 := Lib.hid (show w5.heap[q]? = some (.cells #[.func (.func KF) #[] CP, .int .i64 E] 146 (0, 0)) from by rw [← hw5]; exact vrow_heap w4 q _ _ _ HB4.out)
      have HL5 := Lib.hid (show LJ wr w5 from by rw [← hw5]; exact lj_onlyV (show LJ wr w4 from by rw [← hw4]; exact (LJ.refl wr).alloc _) (vrow_only _ _ _) (fun k hk => by rw [show k = q from hk]; omega))
      have HC5 := Lib.hid (HCALL.out w5 HL5.out)
      have l0 : w5.cell? ⟨q, 0, none⟩ = some (.func (.func KF) #[] CP) := cell_blk HB5.out 0
      have HW5 := Lib.hid hw5
      clear hcj d1 d2 hcall hKF hCP hEE hBB hw5 HK
      cases B with
      | true =>
        go_upto_region 4 with (first
          | (refine wpList_store_row rfl 146 (.tmp 4) (.tmp 10) rfl q #[.func (.func KF) #[] CP, .int .i64 E] rfl rfl 146 _ HB4.out info_chk rfl (by first | rfl | simp [Value.oneCell']) ?_; rw [HW5.out])
          | fail)
        clear hq hw4
        go_wp2_with (first
          | (go_at_fn KF; (with_reducible refine HC5.out.mono ?_); rintro e w6 ⟨rfl, hl6⟩; have HL6 := Lib.hid (HL5.out.trans hl6); clear hl6)
          | fail)
        go_roundw
        case rel => exact ⟨j + 1, by omega, by simp, HED, Lib.hid (HB.out.trans HL6.out)⟩
        case measure => simp [intOf]; omega
      | false =>
        go_upto_region 4 with (first
          | (refine wpList_store_row rfl 146 (.tmp 4) (.tmp 10) rfl q #[.func (.func KF) #[] CP, .int .i64 E] rfl rfl 146 _ HB4.out info_chk rfl (by first | rfl | simp [Value.oneCell']) ?_; rw [HW5.out])
          | fail)
        clear hq hw4
        go_wp2_with (first
          | (go_at_fn KF; (with_reducible refine HC5.out.mono ?_); rintro e w6 ⟨rfl, hl6⟩; have HL6 := Lib.hid (HL5.out.trans hl6); have l1 := hl6.cell (cell_blk HB5.out 1); clear hl6)
          | fail)
        go_ret
        exact ⟨by rw [← HED.out]; rfl, HB.out.trans HL6.out⟩
    · have hji : ¬ (j : Int) < (n : Int) := by omega
      have HF := Lib.hid (show 0 = A from by
        have h1 := HE.out
        rw [List.drop_eq_nil_of_le (by have := HN.out; omega)] at h1
        exact h1)
      go_wp2_with fail
      go_ret
      exact ⟨by rw [← HF.out]; rfl, HB.out⟩
end Go.Proofs.YtfpbocjmlhcgiaaGreatDoor
/- The volume's checks: lives, may, is, none, file, dir. -/
namespace Go.Proofs.YtfpbocjmlhcgiaaGreatDoor
open Go.RowKit PJ Go.Maps Go.WideMaps Go.Shelf

/-- A volume's own blocks. -/
structure VC (w : World) (vb jb mb : Nat) (l : List Ent) : Prop where
  blk : w.heap[vb]? = some (.cells (volC jb mb) 143 (0, 0))
  map : EMap w mb l
theorem VC.later {w w' : World} {vb jb mb : Nat} {l : List Ent} (h : VC w vb jb mb l) (hl : LJ w w') : VC w' vb jb mb l := ⟨hl.block h.blk, h.map.later hl⟩
theorem VAt.vc {w : World} {p b jb vb : Nat} {F : Nat → Prop} {J : Jn} {l : List Ent} (h : VAt w p b jb vb F J l) : ∃ mb, VC w vb jb mb l := by
  obtain ⟨mb, FJ, h1, h2, h3, h4⟩ := h
  exact ⟨mb, h2, h3⟩
theorem chk_all (K : FuncId) (cp : Array Value) (e : Int) : (#[.func (.func K) #[] cp, .int .i64 e] : Array Value).all (·.oneCell') = true := by first | rfl | simp [Value.oneCell']
/-- What a maker of a check leaves. -/
def MadeC (w : World) (b : Bool) (e : Int) (r : Ending) (w' : World) : Prop := ∃ (K : FuncId) (cp : Array Value), r = .returned (.agg #[.func (.func K) #[] cp, .int .i64 e]) ∧ ChkOK w' ⟨K, cp, b, e⟩ ∧ LJ w w'
set_option maxRecDepth 100000 in
theorem vlives1_any (w : World) (q1 vb jb mb : Nat) (l : List Ent) (h1 : w.cell? ⟨q1, 0, none⟩ = some (.pointer (some ⟨vb, 0, none⟩))) (hv : VC w vb jb mb l) :
    Calls Tryz.prog 150 #[.pointer (some ⟨q1, 0, none⟩)] w fun e w' => e = .returned (.bool true) ∧ LJ w w' := by
  have c2 : w.cell? ⟨vb, 2, none⟩ = some (.bool false) := cell_blk hv.blk 2
  clear hv
  go_enter Tryz.func150, Tryz.ntmps150
  go_wp2_with fail
  go_ret
  exact ⟨rfl, LJ.refl _⟩
set_option maxRecDepth 100000 in
set_option maxHeartbeats 1000000 in
theorem vmay2_any (w : World) (s : ByteArray) (hs : s.size < 4294967281) :
    Calls Tryz.prog 152 #[.string s] w fun e w' => e = .returned (.bool (!pathB s.data.toList)) ∧ LJ w w' := by
  have HN := Lib.hid (vpath_any w s hs)
  obtain ⟨B, hB⟩ : ∃ B, pathB s.data.toList = B := ⟨_, rfl⟩
  rw [hB] at HN ⊢
  clear hB
  go_enter Tryz.func152, Tryz.ntmps152
  go_wp2_with (first
    | (go_at_call 28; (with_reducible refine HN.out.mono ?_); rintro e w2 ⟨rfl, hl2⟩; have HL2 := Lib.hid hl2; clear hl2)
    | fail)
  go_ret
  exact ⟨rfl, HL2.out⟩
set_option maxRecDepth 100000 in
set_option maxHeartbeats 1000000 in
theorem vmay1_any (w : World) (q1 g cap n : Nat) (xs : List ByteArray) (hn : xs.length = n) (hx : xs.length ≤ 100) (hs : ∀ x ∈ xs, x.size < 4294967281) (h1 : w.cell? ⟨q1, 0, none⟩ = some (.slice (some ⟨g, 0, none⟩) n cap)) (hc : ∀ j x, xs[j]? = some x → w.cell? ⟨g, j, none⟩ = some (.string x)) :
    Calls Tryz.prog 151 #[.pointer (some ⟨q1, 0, none⟩)] w fun e w' => e = .returned (.bool (xs.all fun x => pathB x.data.toList)) ∧ LJ w w' := by
  subst hn
  have HS := Lib.hid (scont_any 152 (enters_of Tryz.func152 (by kernel_rfl) rfl) #[] (fun x => !pathB x.data.toList) w g 0 cap xs (by omega) (fun j x hj => by rw [Nat.zero_add]; exact hc j x hj) (fun w1 hl x hx => vmay2_any w1 x (hs x hx)))
  have HB := Lib.hid (show (xs.all fun x => pathB x.data.toList) = !xs.any fun x => !pathB x.data.toList from by rw [List.not_any_eq_all_not]; congr 1; funext x; simp)
  rw [HB.out]
  obtain ⟨B, hB⟩ : ∃ B, xs.any (fun x => !pathB x.data.toList) = B := ⟨_, rfl⟩
  rw [hB] at HS ⊢
  obtain ⟨n, hn⟩ : ∃ n, xs.length = n := ⟨_, rfl⟩
  rw [hn] at HS h1
  clear hB hn HB hc hs hx
  go_enter Tryz.func151, Tryz.ntmps151
  go_wp2_with (first
    | (go_at_call 81; (with_reducible refine HS.out.mono ?_); rintro e w2 ⟨rfl, hl2⟩; have HL2 := Lib.hid hl2; clear hl2)
    | fail)
  go_ret
  exact ⟨rfl, HL2.out⟩
set_option maxRecDepth 100000 in
set_option maxHeartbeats 1000000 in
theorem vis1_any (w : World) (q1 q2 vb jb mb : Nat) (l : List Ent) (S : ByteArray) (p : List UInt8) (hS : S.data.toList = p) (hp : S.size ≤ 140737488355328) (h1 : w.cell? ⟨q1, 0, none⟩ = some (.pointer (some ⟨vb, 0, none⟩))) (h2 : w.cell? ⟨q2, 0, none⟩ = some (.string S)) (hv : VC w vb jb mb l) :
    Calls Tryz.prog 153 #[.pointer (some ⟨q1, 0, none⟩), .pointer (some ⟨q2, 0, none⟩)] w fun e w' => e = .returned (.bool ((atE l p).isSome)) ∧ LJ w w' := by
  have HA := vat_any w vb mb jb l S p hS hp hv.blk hv.map
  obtain ⟨x, hx⟩ : ∃ x, (atE l p).getD zeroE = x := ⟨_, rfl⟩
  obtain ⟨ok, hok⟩ : ∃ b, (atE l p).isSome = b := ⟨_, rfl⟩
  (try rw [hx] at HA ⊢)
  (try rw [hx] at HA)
  (try rw [hok] at HA ⊢)
  (try rw [hok] at HA)
  obtain ⟨P, hP⟩ : ∃ P : ByteArray, (⟨x.p.toArray⟩ : ByteArray) = P := ⟨_, rfl⟩
  obtain ⟨D, hD⟩ : ∃ D : ByteArray, (⟨x.s.toArray⟩ : ByteArray) = D := ⟨_, rfl⟩
  have hval : x.val = .agg #[.string P, .bool x.d, .string D] := by rw [← hP, ← hD]; rfl
  obtain ⟨b, hb⟩ : ∃ b, x.d = b := ⟨_, rfl⟩
  rw [hb] at hval
  (try rw [hb])
  rw [hval] at HA
  have HA := Lib.hid HA
  clear hv hx hok hP hD hval hb hS hp
  go_enter Tryz.func153, Tryz.ntmps153
  go_upto_region 2 with (first
    | (go_at_call 97; (with_reducible refine HA.out.mono ?_); rintro e w2 ⟨rfl, hl2⟩; have HL2 := Lib.hid hl2; clear hl2)
    | fail)
  obtain ⟨w3, hw3⟩ : ∃ w3, w2.alloc (.cells #[.string P, .bool b, .string D] 74) = w3 := ⟨_, rfl⟩
  obtain ⟨q, hq⟩ : ∃ q, w2.heap.size = q := ⟨_, rfl⟩
  have l1 : w3.cell? ⟨q, 1, none⟩ = some (.bool b) := cell_blk (show w3.heap[q]? = _ from by rw [← hw3, ← hq]; exact alloc_blk w2 _) 1
  have HL3 := Lib.hid (show LJ w w3 from by rw [← hw3]; exact HL2.out.alloc _)
  rw [hw3, hq]
  clear hw3 hq
  go_wp2_with fail
  go_ret
  exact ⟨rfl, HL3.out⟩
set_option maxRecDepth 100000 in
set_option maxHeartbeats 1000000 in
theorem vnone1_any (w : World) (q1 q2 vb jb mb : Nat) (l : List Ent) (S : ByteArray) (p : List UInt8) (hS : S.data.toList = p) (hp : S.size ≤ 140737488355328) (h1 : w.cell? ⟨q1, 0, none⟩ = some (.pointer (some ⟨vb, 0, none⟩))) (h2 : w.cell? ⟨q2, 0, none⟩ = some (.string S)) (hv : VC w vb jb mb l) :
    Calls Tryz.prog 155 #[.pointer (some ⟨q1, 0, none⟩), .pointer (some ⟨q2, 0, none⟩)] w fun e w' => e = .returned (.bool (!(atE l p).isSome)) ∧ LJ w w' := by
  have HA := vat_any w vb mb jb l S p hS hp hv.blk hv.map
  obtain ⟨x, hx⟩ : ∃ x, (atE l p).getD zeroE = x := ⟨_, rfl⟩
  obtain ⟨ok, hok⟩ : ∃ b, (atE l p).isSome = b := ⟨_, rfl⟩
  (try rw [hx] at HA ⊢)
  (try rw [hx] at HA)
  (try rw [hok] at HA ⊢)
  (try rw [hok] at HA)
  obtain ⟨P, hP⟩ : ∃ P : ByteArray, (⟨x.p.toArray⟩ : ByteArray) = P := ⟨_, rfl⟩
  obtain ⟨D, hD⟩ : ∃ D : ByteArray, (⟨x.s.toArray⟩ : ByteArray) = D := ⟨_, rfl⟩
  have hval : x.val = .agg #[.string P, .bool x.d, .string D] := by rw [← hP, ← hD]; rfl
  obtain ⟨b, hb⟩ : ∃ b, x.d = b := ⟨_, rfl⟩
  rw [hb] at hval
  (try rw [hb])
  rw [hval] at HA
  have HA := Lib.hid HA
  clear hv hx hok hP hD hval hb hS hp
  go_enter Tryz.func155, Tryz.ntmps155
  go_upto_region 2 with (first
    | (go_at_call 97; (with_reducible refine HA.out.mono ?_); rintro e w2 ⟨rfl, hl2⟩; have HL2 := Lib.hid hl2; clear hl2)
    | fail)
  obtain ⟨w3, hw3⟩ : ∃ w3, w2.alloc (.cells #[.string P, .bool b, .string D] 74) = w3 := ⟨_, rfl⟩
  obtain ⟨q, hq⟩ : ∃ q, w2.heap.size = q := ⟨_, rfl⟩
  have l1 : w3.cell? ⟨q, 1, none⟩ = some (.bool b) := cell_blk (show w3.heap[q]? = _ from by rw [← hw3, ← hq]; exact alloc_blk w2 _) 1
  have HL3 := Lib.hid (show LJ w w3 from by rw [← hw3]; exact HL2.out.alloc _)
  rw [hw3, hq]
  clear hw3 hq
  go_wp2_with fail
  go_ret
  exact ⟨rfl, HL3.out⟩
set_option maxRecDepth 100000 in
set_option maxHeartbeats 1000000 in
theorem vfile1_any (w : World) (q1 q2 vb jb mb : Nat) (l : List Ent) (S : ByteArray) (p : List UInt8) (hS : S.data.toList = p) (hp : S.size ≤ 140737488355328) (h1 : w.cell? ⟨q1, 0, none⟩ = some (.pointer (some ⟨vb, 0, none⟩))) (h2 : w.cell? ⟨q2, 0, none⟩ = some (.string S)) (hv : VC w vb jb mb l) :
    Calls Tryz.prog 154 #[.pointer (some ⟨q1, 0, none⟩), .pointer (some ⟨q2, 0, none⟩)] w fun e w' => e = .returned (.bool (!((atE l p).getD zeroE).d)) ∧ LJ w w' := by
  have HA := vat_any w vb mb jb l S p hS hp hv.blk hv.map
  obtain ⟨x, hx⟩ : ∃ x, (atE l p).getD zeroE = x := ⟨_, rfl⟩
  obtain ⟨ok, hok⟩ : ∃ b, (atE l p).isSome = b := ⟨_, rfl⟩
  (try rw [hx] at HA ⊢)
  (try rw [hx] at HA)
  (try rw [hok] at HA ⊢)
  (try rw [hok] at HA)
  obtain ⟨P, hP⟩ : ∃ P : ByteArray, (⟨x.p.toArray⟩ : ByteArray) = P := ⟨_, rfl⟩
  obtain ⟨D, hD⟩ : ∃ D : ByteArray, (⟨x.s.toArray⟩ : ByteArray) = D := ⟨_, rfl⟩
  have hval : x.val = .agg #[.string P, .bool x.d, .string D] := by rw [← hP, ← hD]; rfl
  obtain ⟨b, hb⟩ : ∃ b, x.d = b := ⟨_, rfl⟩
  rw [hb] at hval
  (try rw [hb])
  rw [hval] at HA
  have HA := Lib.hid HA
  clear hv hx hok hP hD hval hb hS hp
  go_enter Tryz.func154, Tryz.ntmps154
  go_upto_region 2 with (first
    | (go_at_call 97; (with_reducible refine HA.out.mono ?_); rintro e w2 ⟨rfl, hl2⟩; have HL2 := Lib.hid hl2; clear hl2)
    | fail)
  obtain ⟨w3, hw3⟩ : ∃ w3, w2.alloc (.cells #[.string P, .bool b, .string D] 74) = w3 := ⟨_, rfl⟩
  obtain ⟨q, hq⟩ : ∃ q, w2.heap.size = q := ⟨_, rfl⟩
  have l1 : w3.cell? ⟨q, 1, none⟩ = some (.bool b) := cell_blk (show w3.heap[q]? = _ from by rw [← hw3, ← hq]; exact alloc_blk w2 _) 1
  have HL3 := Lib.hid (show LJ w w3 from by rw [← hw3]; exact HL2.out.alloc _)
  rw [hw3, hq]
  clear hw3 hq
  go_wp2_with fail
  go_ret
  exact ⟨rfl, HL3.out⟩
set_option maxRecDepth 100000 in
set_option maxHeartbeats 1000000 in
theorem vdir1_any (w : World) (q1 q2 vb jb mb : Nat) (l : List Ent) (S : ByteArray) (p : List UInt8) (hS : S.data.toList = p) (hp : S.size ≤ 140737488355328) (h1 : w.cell? ⟨q1, 0, none⟩ = some (.pointer (some ⟨vb, 0, none⟩))) (h2 : w.cell? ⟨q2, 0, none⟩ = some (.string S)) (hv : VC w vb jb mb l) :
    Calls Tryz.prog 156 #[.pointer (some ⟨q1, 0, none⟩), .pointer (some ⟨q2, 0, none⟩)] w fun e w' => e = .returned (.bool (((atE l p).getD zeroE).d)) ∧ LJ w w' := by
  have HA := vat_any w vb mb jb l S p hS hp hv.blk hv.map
  obtain ⟨x, hx⟩ : ∃ x, (atE l p).getD zeroE = x := ⟨_, rfl⟩
  obtain ⟨ok, hok⟩ : ∃ b, (atE l p).isSome = b := ⟨_, rfl⟩
  (try rw [hx] at HA ⊢)
  (try rw [hx] at HA)
  (try rw [hok] at HA ⊢)
  (try rw [hok] at HA)
  obtain ⟨P, hP⟩ : ∃ P : ByteArray, (⟨x.p.toArray⟩ : ByteArray) = P := ⟨_, rfl⟩
  obtain ⟨D, hD⟩ : ∃ D : ByteArray, (⟨x.s.toArray⟩ : ByteArray) = D := ⟨_, rfl⟩
  have hval : x.val = .agg #[.string P, .bool x.d, .string D] := by rw [← hP, ← hD]; rfl
  obtain ⟨b, hb⟩ : ∃ b, x.d = b := ⟨_, rfl⟩
  rw [hb] at hval
  (try rw [hb])
  rw [hval] at HA
  have HA := Lib.hid HA
  clear hv hx hok hP hD hval hb hS hp
  go_enter Tryz.func156, Tryz.ntmps156
  go_upto_region 2 with (first
    | (go_at_call 97; (with_reducible refine HA.out.mono ?_); rintro e w2 ⟨rfl, hl2⟩; have HL2 := Lib.hid hl2; clear hl2)
    | fail)
  obtain ⟨w3, hw3⟩ : ∃ w3, w2.alloc (.cells #[.string P, .bool b, .string D] 74) = w3 := ⟨_, rfl⟩
  obtain ⟨q, hq⟩ : ∃ q, w2.heap.size = q := ⟨_, rfl⟩
  have l1 : w3.cell? ⟨q, 1, none⟩ = some (.bool b) := cell_blk (show w3.heap[q]? = _ from by rw [← hw3, ← hq]; exact alloc_blk w2 _) 1
  have HL3 := Lib.hid (show LJ w w3 from by rw [← hw3]; exact HL2.out.alloc _)
  rw [hw3, hq]
  clear hw3 hq
  go_wp2_with fail
  go_ret
  exact ⟨rfl, HL3.out⟩
set_option maxRecDepth 100000 in
set_option maxHeartbeats 1000000 in
theorem vis_any (w : World) (vb jb mb : Nat) (l : List Ent) (S : ByteArray) (p : List UInt8) (hS : S.data.toList = p) (hp : S.size ≤ 140737488355328) (hv : VC w vb jb mb l) :
    Calls Tryz.prog 93 #[.pointer (some ⟨vb, 0, none⟩), .string S] w (MadeC w ((atE l p).isSome) 172) := by
  have hmf : ∀ (fn : Fn) (first cap : Array Value) (w : World), (Instr.makeFunc fn first cap).run Tryz.prog w = .ok (.func fn first cap) w := fun _ _ _ _ => rfl
  obtain ⟨w1, hw1⟩ : ∃ w1, w.alloc (.cells #[.pointer (some ⟨vb, 0, none⟩)] 60) = w1 := ⟨_, rfl⟩
  obtain ⟨q1, hq1⟩ : ∃ q, w.heap.size = q := ⟨_, rfl⟩
  have hb1 : w1.heap[q1]? = some (.cells #[.pointer (some ⟨vb, 0, none⟩)] 60 (0, 0)) := by rw [← hw1, ← hq1]; exact alloc_blk w _
  have hl1 : LJ w w1 := by rw [← hw1]; exact (LJ.refl w).alloc _
  obtain ⟨w2, hw2⟩ : ∃ w2, w1.alloc (.cells #[.string S] 9) = w2 := ⟨_, rfl⟩
  obtain ⟨q2, hq2⟩ : ∃ q, w1.heap.size = q := ⟨_, rfl⟩
  have e2 : q2 = q1 + 1 := by rw [← hq2, ← hw1, World.size_alloc, hq1]
  subst e2
  have hb2 : w2.heap[q1 + 1]? = some (.cells #[.string S] 9 (0, 0)) := by rw [← hw2, ← hq2]; exact alloc_blk w1 _
  have hl2 : LJ w1 w2 := by rw [← hw2]; exact (LJ.refl w1).alloc _
  obtain ⟨w3, hw3⟩ : ∃ w3, w2.alloc (.cells #[Value.nilFunc, .int .i64 0] 146) = w3 := ⟨_, rfl⟩
  obtain ⟨q3, hq3⟩ : ∃ q, w2.heap.size = q := ⟨_, rfl⟩
  have e3 : q3 = q1 + 1 + 1 := by rw [← hq3, ← hw2, World.size_alloc, hq2]
  subst e3
  have HB3 := Lib.hid (show w3.heap[q1 + 1 + 1]? = some (.cells #[Value.nilFunc, .int .i64 0] 146 (0, 0)) from by rw [← hw3, ← hq3]; exact alloc_blk w2 _)
  have hl3 : LJ w2 w3 := by rw [← hw3]; exact (LJ.refl w2).alloc _
  obtain ⟨w4, hw4⟩ : ∃ w4, w3.setRow (q1 + 1 + 1) #[.func (.func 153) #[] #[.pointer (some ⟨q1, 0, none⟩), .pointer (some ⟨q1 + 1, 0, none⟩)], .int .i64 172] = w4 := ⟨_, rfl⟩
  have HB4 := Lib.hid (show w4.heap[q1 + 1 + 1]? = some (.cells #[.func (.func 153) #[] #[.pointer (some ⟨q1, 0, none⟩), .pointer (some ⟨q1 + 1, 0, none⟩)], .int .i64 172] 146 (0, 0)) from by rw [← hw4]; exact vrow_heap w3 (q1 + 1 + 1) _ _ _ HB3.out)
  have hl4 : LJ w2 w4 := by rw [← hw4]; exact lj_onlyV hl3 (vrow_only _ _ _) (fun k hk => by rw [show k = q1 + 1 + 1 from hk]; omega)
  have hl24 := hl1.trans (hl2.trans hl4)
  have HFIN := Lib.hid (show MadeC w ((atE l p).isSome) 172 (.returned (.agg #[.func (.func 153) #[] #[.pointer (some ⟨q1, 0, none⟩), .pointer (some ⟨q1 + 1, 0, none⟩)], .int .i64 172])) w4 from
    ⟨153, #[.pointer (some ⟨q1, 0, none⟩), .pointer (some ⟨q1 + 1, 0, none⟩)], rfl, ⟨enters_of Tryz.func153 (by kernel_rfl) rfl, fun W hW => vis1_any W q1 (q1 + 1) vb jb mb l S p hS hp (LJ.cell hW (cell_blk ((hl2.trans hl4).block hb1) 0)) (LJ.cell hW (cell_blk (hl4.block hb2) 0)) (hv.later (hl24.trans hW))⟩, hl24⟩)
  obtain ⟨POST, hPOST⟩ : ∃ POST, MadeC w ((atE l p).isSome) 172 = POST := ⟨_, rfl⟩
  rw [hPOST] at HFIN ⊢
  have HW1 := Lib.hid hw1
  have HW2 := Lib.hid hw2
  have HW3 := Lib.hid hw3
  have HW4 := Lib.hid hw4
  clear hv hPOST hS hp hb1 hb2 hl1 hl2 hl3 hl4 hl24 hw1 hw2 hw3 hw4
  go_enter Tryz.func93, Tryz.ntmps93
  go_upto_region 1 with fail
  rw [HW1.out, HW2.out, HW3.out]
  clear hq1 hq2 hq3
  go_wp2_with (first
    | (refine wpList_store_row rfl 146 (.tmp 4) (.tmp 6) rfl (q1 + 1 + 1) #[.func (.func 153) #[] #[.pointer (some ⟨q1, 0, none⟩), .pointer (some ⟨q1 + 1, 0, none⟩)], .int .i64 172] rfl rfl 146 _ HB3.out info_chk rfl (chk_all _ _ _) ?_; rw [HW4.out])
    | fail)
  refine bodyPost_ret (results_cell_row rfl _ _ (q1 + 1 + 1) 146 #[.func (.func 153) #[] #[.pointer (some ⟨q1, 0, none⟩), .pointer (some ⟨q1 + 1, 0, none⟩)], .int .i64 172] (0, 0) _ rfl HB4.out Tryz.underlying146 rfl info_chk) rfl ?_
  exact HFIN.out
set_option maxRecDepth 100000 in
set_option maxHeartbeats 1000000 in
theorem vnone_any (w : World) (vb jb mb : Nat) (l : List Ent) (S : ByteArray) (p : List UInt8) (hS : S.data.toList = p) (hp : S.size ≤ 140737488355328) (hv : VC w vb jb mb l) :
    Calls Tryz.prog 95 #[.pointer (some ⟨vb, 0, none⟩), .string S] w (MadeC w (!(atE l p).isSome) 173) := by
  have hmf : ∀ (fn : Fn) (first cap : Array Value) (w : World), (Instr.makeFunc fn first cap).run Tryz.prog w = .ok (.func fn first cap) w := fun _ _ _ _ => rfl
  obtain ⟨w1, hw1⟩ : ∃ w1, w.alloc (.cells #[.pointer (some ⟨vb, 0, none⟩)] 60) = w1 := ⟨_, rfl⟩
  obtain ⟨q1, hq1⟩ : ∃ q, w.heap.size = q := ⟨_, rfl⟩
  have hb1 : w1.heap[q1]? = some (.cells #[.pointer (some ⟨vb, 0, none⟩)] 60 (0, 0)) := by rw [← hw1, ← hq1]; exact alloc_blk w _
  have hl1 : LJ w w1 := by rw [← hw1]; exact (LJ.refl w).alloc _
  obtain ⟨w2, hw2⟩ : ∃ w2, w1.alloc (.cells #[.string S] 9) = w2 := ⟨_, rfl⟩
  obtain ⟨q2, hq2⟩ : ∃ q, w1.heap.size = q := ⟨_, rfl⟩
  have e2 : q2 = q1 + 1 := by rw [← hq2, ← hw1, World.size_alloc, hq1]
  subst e2
  have hb2 : w2.heap[q1 + 1]? = some (.cells #[.string S] 9 (0, 0)) := by rw [← hw2, ← hq2]; exact alloc_blk w1 _
  have hl2 : LJ w1 w2 := by rw [← hw2]; exact (LJ.refl w1).alloc _
  obtain ⟨w3, hw3⟩ : ∃ w3, w2.alloc (.cells #[Value.nilFunc, .int .i64 0] 146) = w3 := ⟨_, rfl⟩
  obtain ⟨q3, hq3⟩ : ∃ q, w2.heap.size = q := ⟨_, rfl⟩
  have e3 : q3 = q1 + 1 + 1 := by rw [← hq3, ← hw2, World.size_alloc, hq2]
  subst e3
  have HB3 := Lib.hid (show w3.heap[q1 + 1 + 1]? = some (.cells #[Value.nilFunc, .int .i64 0] 146 (0, 0)) from by rw [← hw3, ← hq3]; exact alloc_blk w2 _)
  have hl3 : LJ w2 w3 := by rw [← hw3]; exact (LJ.refl w2).alloc _
  obtain ⟨w4, hw4⟩ : ∃ w4, w3.setRow (q1 + 1 + 1) #[.func (.func 155) #[] #[.pointer (some ⟨q1, 0, none⟩), .pointer (some ⟨q1 + 1, 0, none⟩)], .int .i64 173] = w4 := ⟨_, rfl⟩
  have HB4 := Lib.hid (show w4.heap[q1 + 1 + 1]? = some (.cells #[.func (.func 155) #[] #[.pointer (some ⟨q1, 0, none⟩), .pointer (some ⟨q1 + 1, 0, none⟩)], .int .i64 173] 146 (0, 0)) from by rw [← hw4]; exact vrow_heap w3 (q1 + 1 + 1) _ _ _ HB3.out)
  have hl4 : LJ w2 w4 := by rw [← hw4]; exact lj_onlyV hl3 (vrow_only _ _ _) (fun k hk => by rw [show k = q1 + 1 + 1 from hk]; omega)
  have hl24 := hl1.trans (hl2.trans hl4)
  have HFIN := Lib.hid (show MadeC w (!(atE l p).isSome) 173 (.returned (.agg #[.func (.func 155) #[] #[.pointer (some ⟨q1, 0, none⟩), .pointer (some ⟨q1 + 1, 0, none⟩)], .int .i64 173])) w4 from
    ⟨155, #[.pointer (some ⟨q1, 0, none⟩), .pointer (some ⟨q1 + 1, 0, none⟩)], rfl, ⟨enters_of Tryz.func155 (by kernel_rfl) rfl, fun W hW => vnone1_any W q1 (q1 + 1) vb jb mb l S p hS hp (LJ.cell hW (cell_blk ((hl2.trans hl4).block hb1) 0)) (LJ.cell hW (cell_blk (hl4.block hb2) 0)) (hv.later (hl24.trans hW))⟩, hl24⟩)
  obtain ⟨POST, hPOST⟩ : ∃ POST, MadeC w (!(atE l p).isSome) 173 = POST := ⟨_, rfl⟩
  rw [hPOST] at HFIN ⊢
  have HW1 := Lib.hid hw1
  have HW2 := Lib.hid hw2
  have HW3 := Lib.hid hw3
  have HW4 := Lib.hid hw4
  clear hv hPOST hS hp hb1 hb2 hl1 hl2 hl3 hl4 hl24 hw1 hw2 hw3 hw4
  go_enter Tryz.func95, Tryz.ntmps95
  go_upto_region 1 with fail
  rw [HW1.out, HW2.out, HW3.out]
  clear hq1 hq2 hq3
  go_wp2_with (first
    | (refine wpList_store_row rfl 146 (.tmp 4) (.tmp 6) rfl (q1 + 1 + 1) #[.func (.func 155) #[] #[.pointer (some ⟨q1, 0, none⟩), .pointer (some ⟨q1 + 1, 0, none⟩)], .int .i64 173] rfl rfl 146 _ HB3.out info_chk rfl (chk_all _ _ _) ?_; rw [HW4.out])
    | fail)
  refine bodyPost_ret (results_cell_row rfl _ _ (q1 + 1 + 1) 146 #[.func (.func 155) #[] #[.pointer (some ⟨q1, 0, none⟩), .pointer (some ⟨q1 + 1, 0, none⟩)], .int .i64 173] (0, 0) _ rfl HB4.out Tryz.underlying146 rfl info_chk) rfl ?_
  exact HFIN.out
set_option maxRecDepth 100000 in
set_option maxHeartbeats 1000000 in
theorem vfile_any (w : World) (vb jb mb : Nat) (l : List Ent) (S : ByteArray) (p : List UInt8) (hS : S.data.toList = p) (hp : S.size ≤ 140737488355328) (hv : VC w vb jb mb l) :
    Calls Tryz.prog 94 #[.pointer (some ⟨vb, 0, none⟩), .string S] w (MadeC w (!((atE l p).getD zeroE).d) 174) := by
  have hmf : ∀ (fn : Fn) (first cap : Array Value) (w : World), (Instr.makeFunc fn first cap).run Tryz.prog w = .ok (.func fn first cap) w := fun _ _ _ _ => rfl
  obtain ⟨w1, hw1⟩ : ∃ w1, w.alloc (.cells #[.pointer (some ⟨vb, 0, none⟩)] 60) = w1 := ⟨_, rfl⟩
  obtain ⟨q1, hq1⟩ : ∃ q, w.heap.size = q := ⟨_, rfl⟩
  have hb1 : w1.heap[q1]? = some (.cells #[.pointer (some ⟨vb, 0, none⟩)] 60 (0, 0)) := by rw [← hw1, ← hq1]; exact alloc_blk w _
  have hl1 : LJ w w1 := by rw [← hw1]; exact (LJ.refl w).alloc _
  obtain ⟨w2, hw2⟩ : ∃ w2, w1.alloc (.cells #[.string S] 9) = w2 := ⟨_, rfl⟩
  obtain ⟨q2, hq2⟩ : ∃ q, w1.heap.size = q := ⟨_, rfl⟩
  have e2 : q2 = q1 + 1 := by rw [← hq2, ← hw1, World.size_alloc, hq1]
  subst e2
  have hb2 : w2.heap[q1 + 1]? = some (.cells #[.string S] 9 (0, 0)) := by rw [← hw2, ← hq2]; exact alloc_blk w1 _
  have hl2 : LJ w1 w2 := by rw [← hw2]; exact (LJ.refl w1).alloc _
  obtain ⟨w3, hw3⟩ : ∃ w3, w2.alloc (.cells #[Value.nilFunc, .int .i64 0] 146) = w3 := ⟨_, rfl⟩
  obtain ⟨q3, hq3⟩ : ∃ q, w2.heap.size = q := ⟨_, rfl⟩
  have e3 : q3 = q1 + 1 + 1 := by rw [← hq3, ← hw2, World.size_alloc, hq2]
  subst e3
  have HB3 := Lib.hid (show w3.heap[q1 + 1 + 1]? = some (.cells #[Value.nilFunc, .int .i64 0] 146 (0, 0)) from by rw [← hw3, ← hq3]; exact alloc_blk w2 _)
  have hl3 : LJ w2 w3 := by rw [← hw3]; exact (LJ.refl w2).alloc _
  obtain ⟨w4, hw4⟩ : ∃ w4, w3.setRow (q1 + 1 + 1) #[.func (.func 154) #[] #[.pointer (some ⟨q1, 0, none⟩), .pointer (some ⟨q1 + 1, 0, none⟩)], .int .i64 174] = w4 := ⟨_, rfl⟩
  have HB4 := Lib.hid (show w4.heap[q1 + 1 + 1]? = some (.cells #[.func (.func 154) #[] #[.pointer (some ⟨q1, 0, none⟩), .pointer (some ⟨q1 + 1, 0, none⟩)], .int .i64 174] 146 (0, 0)) from by rw [← hw4]; exact vrow_heap w3 (q1 + 1 + 1) _ _ _ HB3.out)
  have hl4 : LJ w2 w4 := by rw [← hw4]; exact lj_onlyV hl3 (vrow_only _ _ _) (fun k hk => by rw [show k = q1 + 1 + 1 from hk]; omega)
  have hl24 := hl1.trans (hl2.trans hl4)
  have HFIN := Lib.hid (show MadeC w (!((atE l p).getD zeroE).d) 174 (.returned (.agg #[.func (.func 154) #[] #[.pointer (some ⟨q1, 0, none⟩), .pointer (some ⟨q1 + 1, 0, none⟩)], .int .i64 174])) w4 from
    ⟨154, #[.pointer (some ⟨q1, 0, none⟩), .pointer (some ⟨q1 + 1, 0, none⟩)], rfl, ⟨enters_of Tryz.func154 (by kernel_rfl) rfl, fun W hW => vfile1_any W q1 (q1 + 1) vb jb mb l S p hS hp (LJ.cell hW (cell_blk ((hl2.trans hl4).block hb1) 0)) (LJ.cell hW (cell_blk (hl4.block hb2) 0)) (hv.later (hl24.trans hW))⟩, hl24⟩)
  obtain ⟨POST, hPOST⟩ : ∃ POST, MadeC w (!((atE l p).getD zeroE).d) 174 = POST := ⟨_, rfl⟩
  rw [hPOST] at HFIN ⊢
  have HW1 := Lib.hid hw1
  have HW2 := Lib.hid hw2
  have HW3 := Lib.hid hw3
  have HW4 := Lib.hid hw4
  clear hv hPOST hS hp hb1 hb2 hl1 hl2 hl3 hl4 hl24 hw1 hw2 hw3 hw4
  go_enter Tryz.func94, Tryz.ntmps94
  go_upto_region 1 with fail
  rw [HW1.out, HW2.out, HW3.out]
  clear hq1 hq2 hq3
  go_wp2_with (first
    | (refine wpList_store_row rfl 146 (.tmp 4) (.tmp 6) rfl (q1 + 1 + 1) #[.func (.func 154) #[] #[.pointer (some ⟨q1, 0, none⟩), .pointer (some ⟨q1 + 1, 0, none⟩)], .int .i64 174] rfl rfl 146 _ HB3.out info_chk rfl (chk_all _ _ _) ?_; rw [HW4.out])
    | fail)
  refine bodyPost_ret (results_cell_row rfl _ _ (q1 + 1 + 1) 146 #[.func (.func 154) #[] #[.pointer (some ⟨q1, 0, none⟩), .pointer (some ⟨q1 + 1, 0, none⟩)], .int .i64 174] (0, 0) _ rfl HB4.out Tryz.underlying146 rfl info_chk) rfl ?_
  exact HFIN.out
set_option maxRecDepth 100000 in
set_option maxHeartbeats 1000000 in
theorem vdir_any (w : World) (vb jb mb : Nat) (l : List Ent) (S : ByteArray) (p : List UInt8) (hS : S.data.toList = p) (hp : S.size ≤ 140737488355328) (hv : VC w vb jb mb l) :
    Calls Tryz.prog 96 #[.pointer (some ⟨vb, 0, none⟩), .string S] w (MadeC w (((atE l p).getD zeroE).d) 174) := by
  have hmf : ∀ (fn : Fn) (first cap : Array Value) (w : World), (Instr.makeFunc fn first cap).run Tryz.prog w = .ok (.func fn first cap) w := fun _ _ _ _ => rfl
  obtain ⟨w1, hw1⟩ : ∃ w1, w.alloc (.cells #[.pointer (some ⟨vb, 0, none⟩)] 60) = w1 := ⟨_, rfl⟩
  obtain ⟨q1, hq1⟩ : ∃ q, w.heap.size = q := ⟨_, rfl⟩
  have hb1 : w1.heap[q1]? = some (.cells #[.pointer (some ⟨vb, 0, none⟩)] 60 (0, 0)) := by rw [← hw1, ← hq1]; exact alloc_blk w _
  have hl1 : LJ w w1 := by rw [← hw1]; exact (LJ.refl w).alloc _
  obtain ⟨w2, hw2⟩ : ∃ w2, w1.alloc (.cells #[.string S] 9) = w2 := ⟨_, rfl⟩
  obtain ⟨q2, hq2⟩ : ∃ q, w1.heap.size = q := ⟨_, rfl⟩
  have e2 : q2 = q1 + 1 := by rw [← hq2, ← hw1, World.size_alloc, hq1]
  subst e2
  have hb2 : w2.heap[q1 + 1]? = some (.cells #[.string S] 9 (0, 0)) := by rw [← hw2, ← hq2]; exact alloc_blk w1 _
  have hl2 : LJ w1 w2 := by rw [← hw2]; exact (LJ.refl w1).alloc _
  obtain ⟨w3, hw3⟩ : ∃ w3, w2.alloc (.cells #[Value.nilFunc, .int .i64 0] 146) = w3 := ⟨_, rfl⟩
  obtain ⟨q3, hq3⟩ : ∃ q, w2.heap.size = q := ⟨_, rfl⟩
  have e3 : q3 = q1 + 1 + 1 := by rw [← hq3, ← hw2, World.size_alloc, hq2]
  subst e3
  have HB3 := Lib.hid (show w3.heap[q1 + 1 + 1]? = some (.cells #[Value.nilFunc, .int .i64 0] 146 (0, 0)) from by rw [← hw3, ← hq3]; exact alloc_blk w2 _)
  have hl3 : LJ w2 w3 := by rw [← hw3]; exact (LJ.refl w2).alloc _
  obtain ⟨w4, hw4⟩ : ∃ w4, w3.setRow (q1 + 1 + 1) #[.func (.func 156) #[] #[.pointer (some ⟨q1, 0, none⟩), .pointer (some ⟨q1 + 1, 0, none⟩)], .int .i64 174] = w4 := ⟨_, rfl⟩
  have HB4 := Lib.hid (show w4.heap[q1 + 1 + 1]? = some (.cells #[.func (.func 156) #[] #[.pointer (some ⟨q1, 0, none⟩), .pointer (some ⟨q1 + 1, 0, none⟩)], .int .i64 174] 146 (0, 0)) from by rw [← hw4]; exact vrow_heap w3 (q1 + 1 + 1) _ _ _ HB3.out)
  have hl4 : LJ w2 w4 := by rw [← hw4]; exact lj_onlyV hl3 (vrow_only _ _ _) (fun k hk => by rw [show k = q1 + 1 + 1 from hk]; omega)
  have hl24 := hl1.trans (hl2.trans hl4)
  have HFIN := Lib.hid (show MadeC w (((atE l p).getD zeroE).d) 174 (.returned (.agg #[.func (.func 156) #[] #[.pointer (some ⟨q1, 0, none⟩), .pointer (some ⟨q1 + 1, 0, none⟩)], .int .i64 174])) w4 from
    ⟨156, #[.pointer (some ⟨q1, 0, none⟩), .pointer (some ⟨q1 + 1, 0, none⟩)], rfl, ⟨enters_of Tryz.func156 (by kernel_rfl) rfl, fun W hW => vdir1_any W q1 (q1 + 1) vb jb mb l S p hS hp (LJ.cell hW (cell_blk ((hl2.trans hl4).block hb1) 0)) (LJ.cell hW (cell_blk (hl4.block hb2) 0)) (hv.later (hl24.trans hW))⟩, hl24⟩)
  obtain ⟨POST, hPOST⟩ : ∃ POST, MadeC w (((atE l p).getD zeroE).d) 174 = POST := ⟨_, rfl⟩
  rw [hPOST] at HFIN ⊢
  have HW1 := Lib.hid hw1
  have HW2 := Lib.hid hw2
  have HW3 := Lib.hid hw3
  have HW4 := Lib.hid hw4
  clear hv hPOST hS hp hb1 hb2 hl1 hl2 hl3 hl4 hl24 hw1 hw2 hw3 hw4
  go_enter Tryz.func96, Tryz.ntmps96
  go_upto_region 1 with fail
  rw [HW1.out, HW2.out, HW3.out]
  clear hq1 hq2 hq3
  go_wp2_with (first
    | (refine wpList_store_row rfl 146 (.tmp 4) (.tmp 6) rfl (q1 + 1 + 1) #[.func (.func 156) #[] #[.pointer (some ⟨q1, 0, none⟩), .pointer (some ⟨q1 + 1, 0, none⟩)], .int .i64 174] rfl rfl 146 _ HB3.out info_chk rfl (chk_all _ _ _) ?_; rw [HW4.out])
    | fail)
  refine bodyPost_ret (results_cell_row rfl _ _ (q1 + 1 + 1) 146 #[.func (.func 156) #[] #[.pointer (some ⟨q1, 0, none⟩), .pointer (some ⟨q1 + 1, 0, none⟩)], .int .i64 174] (0, 0) _ rfl HB4.out Tryz.underlying146 rfl info_chk) rfl ?_
  exact HFIN.out
set_option maxRecDepth 100000 in
set_option maxHeartbeats 1000000 in
theorem vlives_any (w : World) (vb jb mb : Nat) (l : List Ent) (hv : VC w vb jb mb l) :
    Calls Tryz.prog 91 #[.pointer (some ⟨vb, 0, none⟩)] w (MadeC w (true) 2) := by
  have hmf : ∀ (fn : Fn) (first cap : Array Value) (w : World), (Instr.makeFunc fn first cap).run Tryz.prog w = .ok (.func fn first cap) w := fun _ _ _ _ => rfl
  obtain ⟨w1, hw1⟩ : ∃ w1, w.alloc (.cells #[.pointer (some ⟨vb, 0, none⟩)] 60) = w1 := ⟨_, rfl⟩
  obtain ⟨q1, hq1⟩ : ∃ q, w.heap.size = q := ⟨_, rfl⟩
  have hb1 : w1.heap[q1]? = some (.cells #[.pointer (some ⟨vb, 0, none⟩)] 60 (0, 0)) := by rw [← hw1, ← hq1]; exact alloc_blk w _
  have hl1 : LJ w w1 := by rw [← hw1]; exact (LJ.refl w).alloc _
  obtain ⟨w3, hw3⟩ : ∃ w3, w1.alloc (.cells #[Value.nilFunc, .int .i64 0] 146) = w3 := ⟨_, rfl⟩
  obtain ⟨q3, hq3⟩ : ∃ q, w1.heap.size = q := ⟨_, rfl⟩
  have e3 : q3 = q1 + 1 := by rw [← hq3, ← hw1, World.size_alloc, hq1]
  subst e3
  have HB3 := Lib.hid (show w3.heap[q1 + 1]? = some (.cells #[Value.nilFunc, .int .i64 0] 146 (0, 0)) from by rw [← hw3, ← hq3]; exact alloc_blk w1 _)
  have hl3 : LJ w1 w3 := by rw [← hw3]; exact (LJ.refl w1).alloc _
  obtain ⟨w4, hw4⟩ : ∃ w4, w3.setRow (q1 + 1) #[.func (.func 150) #[] #[.pointer (some ⟨q1, 0, none⟩)], .int .i64 2] = w4 := ⟨_, rfl⟩
  have HB4 := Lib.hid (show w4.heap[q1 + 1]? = some (.cells #[.func (.func 150) #[] #[.pointer (some ⟨q1, 0, none⟩)], .int .i64 2] 146 (0, 0)) from by rw [← hw4]; exact vrow_heap w3 (q1 + 1) _ _ _ HB3.out)
  have hl4 : LJ w1 w4 := by rw [← hw4]; exact lj_onlyV hl3 (vrow_only _ _ _) (fun k hk => by rw [show k = q1 + 1 from hk]; omega)
  have hl24 := hl1.trans hl4
  have HFIN := Lib.hid (show MadeC w (true) 2 (.returned (.agg #[.func (.func 150) #[] #[.pointer (some ⟨q1, 0, none⟩)], .int .i64 2])) w4 from
    ⟨150, #[.pointer (some ⟨q1, 0, none⟩)], rfl, ⟨enters_of Tryz.func150 (by kernel_rfl) rfl, fun W hW => vlives1_any W q1 vb jb mb l (LJ.cell hW (cell_blk (hl4.block hb1) 0)) (hv.later (hl24.trans hW))⟩, hl24⟩)
  obtain ⟨POST, hPOST⟩ : ∃ POST, MadeC w (true) 2 = POST := ⟨_, rfl⟩
  rw [hPOST] at HFIN ⊢
  have HW1 := Lib.hid hw1
  have HW3 := Lib.hid hw3
  have HW4 := Lib.hid hw4
  clear hv hPOST hb1 hl1 hl3 hl4 hl24 hw1 hw3 hw4
  go_enter Tryz.func91, Tryz.ntmps91
  go_upto_region 1 with fail
  rw [HW1.out, HW3.out]
  clear hq1 hq3
  go_wp2_with (first
    | (refine wpList_store_row rfl 146 (.tmp 2) (.tmp 4) rfl (q1 + 1) #[.func (.func 150) #[] #[.pointer (some ⟨q1, 0, none⟩)], .int .i64 2] rfl rfl 146 _ HB3.out info_chk rfl (chk_all _ _ _) ?_; rw [HW4.out])
    | fail)
  refine bodyPost_ret (results_cell_row rfl _ _ (q1 + 1) 146 #[.func (.func 150) #[] #[.pointer (some ⟨q1, 0, none⟩)], .int .i64 2] (0, 0) _ rfl HB4.out Tryz.underlying146 rfl info_chk) rfl ?_
  exact HFIN.out
set_option maxRecDepth 100000 in
set_option maxHeartbeats 1000000 in
theorem vmay_any (w : World) (vb g cap n : Nat) (xs : List ByteArray) (hn : xs.length = n) (hx : xs.length ≤ 100) (hs : ∀ x ∈ xs, x.size < 4294967281) (hc : ∀ j x, xs[j]? = some x → w.cell? ⟨g, j, none⟩ = some (.string x)) :
    Calls Tryz.prog 92 #[.pointer (some ⟨vb, 0, none⟩), .slice (some ⟨g, 0, none⟩) n cap] w (MadeC w (xs.all fun x => pathB x.data.toList) 171) := by
  have hmf : ∀ (fn : Fn) (first cap : Array Value) (w : World), (Instr.makeFunc fn first cap).run Tryz.prog w = .ok (.func fn first cap) w := fun _ _ _ _ => rfl
  obtain ⟨w1, hw1⟩ : ∃ w1, w.alloc (.cells #[.slice (some ⟨g, 0, none⟩) n cap] 24) = w1 := ⟨_, rfl⟩
  obtain ⟨q1, hq1⟩ : ∃ q, w.heap.size = q := ⟨_, rfl⟩
  have hb1 : w1.heap[q1]? = some (.cells #[.slice (some ⟨g, 0, none⟩) n cap] 24 (0, 0)) := by rw [← hw1, ← hq1]; exact alloc_blk w _
  have hl1 : LJ w w1 := by rw [← hw1]; exact (LJ.refl w).alloc _
  obtain ⟨w3, hw3⟩ : ∃ w3, w1.alloc (.cells #[Value.nilFunc, .int .i64 0] 146) = w3 := ⟨_, rfl⟩
  obtain ⟨q3, hq3⟩ : ∃ q, w1.heap.size = q := ⟨_, rfl⟩
  have e3 : q3 = q1 + 1 := by rw [← hq3, ← hw1, World.size_alloc, hq1]
  subst e3
  have HB3 := Lib.hid (show w3.heap[q1 + 1]? = some (.cells #[Value.nilFunc, .int .i64 0] 146 (0, 0)) from by rw [← hw3, ← hq3]; exact alloc_blk w1 _)
  have hl3 : LJ w1 w3 := by rw [← hw3]; exact (LJ.refl w1).alloc _
  obtain ⟨w4, hw4⟩ : ∃ w4, w3.setRow (q1 + 1) #[.func (.func 151) #[] #[.pointer (some ⟨q1, 0, none⟩)], .int .i64 171] = w4 := ⟨_, rfl⟩
  have HB4 := Lib.hid (show w4.heap[q1 + 1]? = some (.cells #[.func (.func 151) #[] #[.pointer (some ⟨q1, 0, none⟩)], .int .i64 171] 146 (0, 0)) from by rw [← hw4]; exact vrow_heap w3 (q1 + 1) _ _ _ HB3.out)
  have hl4 : LJ w1 w4 := by rw [← hw4]; exact lj_onlyV hl3 (vrow_only _ _ _) (fun k hk => by rw [show k = q1 + 1 from hk]; omega)
  have hl24 := hl1.trans hl4
  have HFIN := Lib.hid (show MadeC w (xs.all fun x => pathB x.data.toList) 171 (.returned (.agg #[.func (.func 151) #[] #[.pointer (some ⟨q1, 0, none⟩)], .int .i64 171])) w4 from
    ⟨151, #[.pointer (some ⟨q1, 0, none⟩)], rfl, ⟨enters_of Tryz.func151 (by kernel_rfl) rfl, fun W hW => vmay1_any W q1 g cap n xs hn hx hs (LJ.cell hW (cell_blk (hl4.block hb1) 0)) (fun j x hj => LJ.cell (hl24.trans hW) (hc j x hj))⟩, hl24⟩)
  obtain ⟨POST, hPOST⟩ : ∃ POST, MadeC w (xs.all fun x => pathB x.data.toList) 171 = POST := ⟨_, rfl⟩
  rw [hPOST] at HFIN ⊢
  have HW1 := Lib.hid hw1
  have HW3 := Lib.hid hw3
  have HW4 := Lib.hid hw4
  clear hn hx hs hc hPOST hb1 hl1 hl3 hl4 hl24 hw1 hw3 hw4
  go_enter Tryz.func92, Tryz.ntmps92
  go_upto_region 1 with fail
  rw [HW1.out, HW3.out]
  clear hq1 hq3
  go_wp2_with (first
    | (refine wpList_store_row rfl 146 (.tmp 4) (.tmp 6) rfl (q1 + 1) #[.func (.func 151) #[] #[.pointer (some ⟨q1, 0, none⟩)], .int .i64 171] rfl rfl 146 _ HB3.out info_chk rfl (chk_all _ _ _) ?_; rw [HW4.out])
    | fail)
  refine bodyPost_ret (results_cell_row rfl _ _ (q1 + 1) 146 #[.func (.func 151) #[] #[.pointer (some ⟨q1, 0, none⟩)], .int .i64 171] (0, 0) _ rfl HB4.out Tryz.underlying146 rfl info_chk) rfl ?_
  exact HFIN.out
end Go.Proofs.YtfpbocjmlhcgiaaGreatDoor
