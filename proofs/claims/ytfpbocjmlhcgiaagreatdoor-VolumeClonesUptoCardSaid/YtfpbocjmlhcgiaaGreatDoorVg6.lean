/- Vg6, merged: VM16 VM17. -/
import Derived.Test.YtfpbocjmlhcgiaaGreatDoorVg5
import Derived.Test.YtfpbocjmlhcgiaaGreatDoorJ58
import Derived.Deep.AppendLies
set_option linter.unusedSimpArgs false
set_option linter.unusedVariables false
/- The volume's room, cell, becomes. -/
namespace Go.Proofs.YtfpbocjmlhcgiaaGreatDoor
open Go.RowKit PJ Go.Maps Go.WideMaps Go.Shelf

theorem run_min2V {P : Program} {w : World} (ts : Array TypeId) (t : TypeId) (k k' : IntKind) (x y : Int) :
    (Builtin.min_ ts t #[.int k x, .int k' y]).run P w = .ok (.int k (if y < x then y else x)) w := by
  simp [Builtin.min_, Builtin.min2]
set_option maxRecDepth 100000 in
theorem vroom_any (w : World) (p b jb vb : Nat) (F : Nat → Prop) (J : Jn) (l : List Ent) (h : VAt w p b jb vb F J l) :
    Calls Tryz.prog 109 #[.pointer (some ⟨vb, 0, none⟩)] w fun e w' => e = .returned (.int .i64 (J.room' : Int)) ∧ LJ w w' := by
  obtain ⟨mb, FJ, hj, hv, hm, h4, h5, h6, h7, hvj⟩ := h
  have HC := Lib.hid (cells_any w p b jb FJ J hj)
  have c0 : w.cell? ⟨vb, 0, none⟩ = some (.pointer (some ⟨jb, 0, none⟩)) := cell_blk hv 0
  have h40 := hvj.c40
  obtain ⟨c, hc⟩ : ∃ c, J.n - J.area = c := ⟨_, rfl⟩
  unfold Jn.room'
  rw [hc] at HC h40 ⊢
  have hwr : IntKind.i64.wrap ((c : Int) * 116) = ((116 * c : Nat) : Int) := by rw [IntKind.wrap_i64]; omega
  have hwr2 : IntKind.i64.wrap ((116 : Int) * (c : Int)) = ((116 * c : Nat) : Int) := by rw [IntKind.wrap_i64]; omega
  clear hj hv hm h4 h5 h6 h7 hvj hc
  go_enter Tryz.func109, Tryz.ntmps109
  go_wp2_with (first
    | (go_at_call 62; (with_reducible refine HC.out.mono ?_); rintro e w1 ⟨rfl, n, hw1⟩; have HL1 := Lib.hid (show LJ w w1 from by rw [hw1]; exact (LJ.refl w).drewN n); clear hw1)
    | fail)
  go_ret
  exact ⟨rfl, HL1.out⟩
theorem cell_ext (S : ByteArray) (c F E : Nat) (hF : F = min S.size (c * 116)) (hE : E = min S.size (F + 116)) : S.extract F E = ⟨((S.data.toList.drop (116 * c)).take 116).toArray⟩ := by
  have hl : S.data.toList.length = S.size := by rw [Array.length_toList]; rfl
  apply ByteArray.ext
  apply Array.toList_inj.1
  rw [ex_list]
  show (S.data.toList.drop F).take (E - F) = (S.data.toList.drop (116 * c)).take 116
  rcases Nat.le_total S.size (c * 116) with h | h
  · rw [List.drop_eq_nil_of_le (by omega), List.drop_eq_nil_of_le (by omega)]
    simp
  · have e1 : F = 116 * c := by omega
    rw [e1]
    rcases Nat.le_total S.size (116 * c + 116) with h2 | h2
    · rw [List.take_of_length_le (by rw [List.length_drop]; omega), List.take_of_length_le (by rw [List.length_drop]; omega)]
    · rw [show E - 116 * c = 116 from by omega]
set_option maxRecDepth 100000 in
theorem vcell_any (w : World) (S : ByteArray) (c : Nat) (hc : c ≤ 1000) (hs : S.size ≤ 1000000) :
    Calls Tryz.prog 158 #[.string S, .int .i64 c] w fun e w' => e = .returned (.string ⟨((S.data.toList.drop (116 * c)).take 116).toArray⟩) ∧ w' = w := by
  obtain ⟨F, hF⟩ : ∃ F, F = min S.size (c * 116) := ⟨_, rfl⟩
  obtain ⟨E, hE⟩ : ∃ E, E = min S.size (F + 116) := ⟨_, rfl⟩
  have HX := Lib.hid (cell_ext S c F E hF hE)
  have hw1 : IntKind.i64.wrap ((c : Int) * 116) = (c : Int) * 116 := by rw [IntKind.wrap_i64]; omega
  have hw1' : IntKind.i64.wrap ((116 : Int) * (c : Int)) = (c : Int) * 116 := by rw [IntKind.wrap_i64]; omega
  have hw2 : IntKind.i64.wrap ((F : Int) + 116) = (F : Int) + 116 := by rw [IntKind.wrap_i64]; omega
  have hm1 : ∀ W ts t, (Builtin.min_ ts t #[.int .i64 (S.size : Int), .int .i64 ((c : Int) * 116)]).run Tryz.prog W = .ok (.int .i64 (F : Int)) W := fun W ts t => by
    have e : (if (c : Int) * 116 < (S.size : Int) then (c : Int) * 116 else (S.size : Int)) = (F : Int) := by split <;> omega
    rw [run_min2V, e]
  have hm2 : ∀ W ts t, (Builtin.min_ ts t #[.int .i64 (S.size : Int), .int .i64 ((F : Int) + 116)]).run Tryz.prog W = .ok (.int .i64 (E : Int)) W := fun W ts t => by
    have e : (if (F : Int) + 116 < (S.size : Int) then (F : Int) + 116 else (S.size : Int)) = (E : Int) := by split <;> omega
    rw [run_min2V, e]
  have hFE : F ≤ E := by omega
  have hES : E ≤ S.size := by omega
  have hFE' : (F : Int) ≤ (E : Int) := by omega
  have hES' : (E : Int) ≤ (S.size : Int) := by omega
  have hF0 : (0 : Int) ≤ (F : Int) := by omega
  have hE0 : (0 : Int) ≤ (E : Int) := by omega
  have hFt : (F : Int).toNat = F := by omega
  have hEt : (E : Int).toNat = E := by omega
  clear hF hE
  go_enter Tryz.func158, Tryz.ntmps158
  go_wp2_with fail
  go_ret
  exact ⟨ret_str HX.out, rfl⟩
set_option maxRecDepth 100000 in
theorem vpadded_any (w : World) (S : ByteArray) (s : List UInt8) (hS : S.data.toList = s) (hs : S.size ≤ 116) :
    Calls Tryz.prog 157 #[.string S] w fun e w' => e = .returned (.string ⟨(padT s 116).toArray⟩) ∧ LJ w w' := by
  obtain ⟨m, hm⟩ : ∃ m, 116 - S.size = m := ⟨_, rfl⟩
  obtain ⟨RP, hRP⟩ : ∃ RP : ByteArray, (⟨(List.replicate m (0 : UInt8)).toArray⟩ : ByteArray) = RP := ⟨_, rfl⟩
  have hRPs : RP.size = m := by rw [← hRP]; show (List.replicate m (0 : UInt8)).toArray.size = m; simp
  have HRE := Lib.hid (fun W => show Calls Tryz.prog 65 #[.string ⟨#[0]⟩, .int .i64 m] W fun e w' => e = .returned (.string RP) ∧ LJ W w' from by rw [← hRP]; exact repeat_any W m (by omega))
  have hm2 : (116 : Int) - (S.size : Int) = (m : Int) := by omega
  have hmw : IntKind.i64.wrap ((116 : Int) - (S.size : Int)) = (m : Int) := by rw [IntKind.wrap_i64]; omega
  have hcat : ¬ 9223372036854775807 < S.size + RP.size := by omega
  have HX := Lib.hid (show S ++ RP = ⟨(padT s 116).toArray⟩ from by
    apply ByteArray.ext
    apply Array.toList_inj.1
    rw [app_data, hS, ← hRP]
    have hl : s.length = S.size := by rw [← hS, Array.length_toList]; rfl
    unfold padT
    simp [hl, hm])
  clear hm hRP hRPs
  go_enter Tryz.func157, Tryz.ntmps157
  go_wp2_with (first
    | (go_at_call 65; (with_reducible refine (HRE.out _).mono ?_); rintro e w1 ⟨rfl, hl1⟩; have HL1 := Lib.hid hl1; clear hl1)
    | fail)
  go_ret
  exact ⟨ret_str HX.out, HL1.out⟩
end Go.Proofs.YtfpbocjmlhcgiaaGreatDoor
/- The volume's becomes. -/
namespace Go.Proofs.YtfpbocjmlhcgiaaGreatDoor
open Go.RowKit PJ Go.Maps Go.WideMaps Go.Shelf

theorem wsC_snoc (l : List Wr) (c : Int) (d : ByteArray) : wsC (l ++ [⟨c, d⟩]) = wsC l ++ [.int .i64 c, .string d] := by simp [wsC]
theorem ownRow_nil (w : World) (B : Nat) (T : TypeId) (s : Nat) : w.ownsRow B T s (.slice none 0 0) 0 [] := World.ownsRow_nil w B T s
set_option maxRecDepth 100000 in
set_option maxHeartbeats 8000000 in
theorem vbecomes_any (w : World) (p b jb vb : Nat) (F : Nat → Prop) (J : Jn) (l now : List Ent) (h : VAt w p b jb vb F J l) (hh : J.head < 4611686018427387904) (hn : J.next < 4611686018427387904) (m : Nat) (hm : EMap w m now) (hFm : ¬ F m) (hi : VInv now) (hlen : now.length ≤ 800) :
    Calls Tryz.prog 99 #[.pointer (some ⟨vb, 0, none⟩), .map (some m)] w fun e w' => e = .returned (.int .i64 (becE J.room' l now).1) ∧ VAt w' p b jb vb (grow (fun q => F q ∨ q = m) w w') (J.ans l (becE J.room' l now)) (becE J.room' l now).2 ∧ OnlyJ F w w' := by
  have HV := Lib.hid h
  have hok := h.ok
  have hvj := h.vj
  have hroom := vroom_any w p b jb vb F J l h
  have hlF := h.lt
  obtain ⟨mb, FJ, hj, hv, hmb, h4, h5, h6, h7, -⟩ := h
  have c0 : w.cell? ⟨vb, 0, none⟩ = some (.pointer (some ⟨jb, 0, none⟩)) := cell_blk hv 0
  have c1 : w.cell? ⟨vb, 1, none⟩ = some (.map (some mb)) := cell_blk hv 1
  obtain ⟨WAS, hWAS⟩ : ∃ B : ByteArray, (⟨(imageE l).toArray⟩ : ByteArray) = B := ⟨_, rfl⟩
  obtain ⟨NOW, hNOW⟩ : ∃ B : ByteArray, (⟨(imageE now).toArray⟩ : ByteArray) = B := ⟨_, rfl⟩
  have hWd : WAS.data.toList = imageE l := by rw [← hWAS]
  have hNd : NOW.data.toList = imageE now := by rw [← hNOW]
  have hWs : WAS.size = (imageE l).length := by rw [← hWAS]; show (imageE l).toArray.size = _; rw [List.size_toArray]
  have hNs : NOW.size = (imageE now).length := by rw [← hNOW]; show (imageE now).toArray.size = _; rw [List.size_toArray]
  have hW87 := hvj.inv.image_le (by have := hvj.count; omega)
  have hN87 := hi.image_le hlen
  have HI1 := Lib.hid (show Calls Tryz.prog 110 #[.map (some mb)] w fun e w' => e = .returned (.string WAS) ∧ LJ w w' from by rw [← hWAS]; exact vimage_any w mb l hmb hvj.inv (by have := hvj.count; omega))
  have HI2 := Lib.hid (fun W (hW : LJ w W) => show Calls Tryz.prog 110 #[.map (some m)] W fun e w' => e = .returned (.string NOW) ∧ LJ W w' from by rw [← hNOW]; exact vimage_any W m now (hm.later hW) hi hlen)
  have HRM := Lib.hid (fun W (hW : LJ w W) => vroom_any W p b jb vb F J l (HV.out.later hW))
  obtain ⟨room, hrm⟩ : ∃ r, J.room' = r := ⟨_, rfl⟩
  rw [hrm] at HRM ⊢
  by_cases hbig : room < NOW.size
  · have hbe : becE room l now = (175, l) := if_pos (by omega)
    rw [hbe]
    have hbi : (room : Int) < (NOW.size : Int) := by omega
    have HFIN := Lib.hid (fun w' (hl : LJ w w') => show VAt w' p b jb vb (grow (fun q => F q ∨ q = m) w w') J l from by
      refine (HV.out.later hl).kept (Nat.le_refl _) (fun _ _ => rfl) (fun q hq => .inl (.inl hq)) ?_
      have hs := Below.size hl
      have hml := hm.lt
      rintro q ((hq | rfl) | hq)
      · have := hlF q hq; omega
      · omega
      · exact hq.2)
    clear hok hvj hroom hlF hj hv hmb h4 h5 h6 h7 c0 hm hFm hi hWAS hNOW hWd hNd hWs hNs hW87 hN87 hrm hbig hbe
    go_enter Tryz.func99, Tryz.ntmps99
    go_upto_region 2 with (first
      | (go_at_call 110; (with_reducible refine HI1.out.mono ?_); rintro e w1 ⟨rfl, hl1⟩; have HL1 := Lib.hid hl1; clear hl1)
      | (go_at_call 110; (with_reducible refine (HI2.out _ HL1.out).mono ?_); rintro e w2 ⟨rfl, hl2⟩; have HL2 := Lib.hid (HL1.out.trans hl2); clear hl2)
      | fail)
    go_wp2_with (first
      | (go_at_call 109; (with_reducible refine (HRM.out _ HL2.out).mono ?_); rintro e w3 ⟨rfl, hl3⟩; have HL3 := Lib.hid (HL2.out.trans hl3); clear hl3)
      | fail)
    go_ret
    exact ⟨rfl, HFIN.out _ HL3.out, OnlyJ.of_below HL3.out⟩
  · have hbe : becE room l now = (0, now) := if_neg (by omega)
    rw [hbe]
    have hbi : ¬ (room : Int) < (NOW.size : Int) := by omega
    obtain ⟨c, hc⟩ : ∃ c, J.n - J.area = c := ⟨_, rfl⟩
    have h40 : c ≤ 40 := by have := hvj.c40; omega
    have hVJ := hvj.bec hok hh (by omega) hi (by omega)
    have hmay := hvj.may (now := now)
    obtain ⟨d1, d2, d3, d4⟩ := vol_dim J l now
    have HCE := Lib.hid (fun W (hW : LJ w W) => cells_any W p b jb FJ J (hj.later hW))
    rw [hc] at HCE hmay
    have HPN := Lib.hid (fun W (i : Nat) (hi : i < c) => vcell_any W NOW i (by omega) (by omega))
    have HPW := Lib.hid (fun W (i : Nat) (hi : i < c) => vcell_any W WAS i (by omega) (by omega))
    rw [hNd] at HPN
    rw [hWd] at HPW
    have HPD := Lib.hid (fun W (img : List UInt8) (i : Nat) => show Calls Tryz.prog 157 #[.string ⟨((img.drop (116 * i)).take 116).toArray⟩] W fun e w' => e = .returned (.string ⟨(pcE img i).toArray⟩) ∧ LJ W w' from
      vpadded_any W _ _ rfl (by show ((img.drop (116 * i)).take 116).toArray.size ≤ 116; rw [List.size_toArray, List.length_take]; omega))
    have HML := Lib.hid (fun j => wrsV_len (imageE l) (imageE now) j)
    have HANS := Lib.hid (show J.ans l (0, now) = J.vol l now from if_pos rfl)
    have HDV := Lib.hid (show J.vol l now = J.deed (wrsV (imageE l) (imageE now) c) from by unfold Jn.vol; rw [hc])
    have HCOM := Lib.hid (fun W (hW : LJ w W) (ak : Option Addr) (ck : Nat) (ws : List Wr) (hws : ws = wrsV (imageE l) (imageE now) c) (ho : W.ownsRow w.heap.size 130 2 (.slice ak ws.length ck) ws.length (wsC ws)) =>
      show Calls Tryz.prog 74 #[.pointer (some ⟨jb, 0, none⟩), .slice ak ws.length ck] W fun e w' => e = .returned (.int .i64 0) ∧ JOut W p b jb FJ (J.vol l now) w' from by
        rw [← hws] at hmay HDV
        rw [HDV.out]
        have hjW := hj.later hW
        unfold Jn.deed
        by_cases h0 : ws = []
        · rw [if_pos h0]
          subst h0
          exact commit_none W p b jb FJ J hjW ak ck
        · rw [if_neg h0, hc, if_pos hmay]
          have h1 : 1 ≤ ws.length := by cases ws with | nil => exact absurd rfl h0 | cons _ _ => simp
          obtain ⟨g, cap, hf, hg1, hg2⟩ := ho.form h1
          have hf1 : ak = some ⟨g, 0, none⟩ := by injection hf
          have hf2 : ck = cap := by injection hf
          subst hf1
          subst hf2
          have hsw := Below.size hW
          have hlw := HML.out c
          rw [← hws] at hlw
          have hcap : ws.length ≤ ck := by
            rcases ho.2 with ⟨e, _⟩ | ⟨_, _, _, e, _, _, hc2, _⟩
            · cases e
            · injection e with e1 e2 e3
              omega
          have hgl := (ho.lt g rfl).2
          have := commit_some W p b jb FJ J hjW hh hn g 0 ck ws h1 (by omega) hcap hgl (fun e => by have := hj.lt g e; omega) (fun j x hx => by
            obtain ⟨q1, q2⟩ := wsC_get ws j x hx
            have k1 := ho.cells (g := g) rfl _ _ q1
            have k2 := ho.cells (g := g) rfl _ _ q2
            rw [addr_none, Nat.zero_add] at k1 k2
            exact ⟨by rw [Nat.zero_add]; exact k1, by rw [Nat.zero_add]; exact k2⟩) (fun x hx => by
            rw [hws] at hx
            have := (wrsV_in hx).2.2
            omega)
          rw [hc, hmay, if_pos rfl] at this
          exact this)
    have HFIN := Lib.hid (fun W w6 (hW : LJ w W) (ho : JOut W p b jb FJ (J.vol l now) w6) => show VAt (w6.setCell ⟨vb, 1, none⟩ (.map (some m))) p b jb vb (grow (fun q => F q ∨ q = m) w (w6.setCell ⟨vb, 1, none⟩ (.map (some m)))) (J.ans l (0, now)) now ∧ OnlyJ F w (w6.setCell ⟨vb, 1, none⟩ (.map (some m))) from by
      rw [HANS.out]
      have hs1 := Below.size hW
      have hs2 := ho.2.size
      have fv := h6 vb (.inr (.inl rfl))
      have hvl := lt_blk hv
      have hml := hm.lt
      have hmv : m ≠ vb := fun e => hFm (e ▸ fv)
      have hnm : ¬ FJ m := fun e => hFm (h6 m (.inl e))
      have hb6 : w6.heap[vb]? = some (.cells (volC jb mb) 143 (0, 0)) := (ho.2.block vb (by omega) h4).trans (hW.block hv)
      have hset := heap_setCell_same w6 vb 1 _ _ (.map (some m)) hb6
      have hsz : (w6.setCell ⟨vb, 1, none⟩ (.map (some m))).heap.size = w6.heap.size := World.size_setCell ..
      refine ⟨⟨m, grow FJ W w6, ho.1.kept (by rw [hsz]; exact Nat.le_refl _) (fun k hk => heap_setCell_other w6 ⟨vb, 1, none⟩ k _ (fun e => ?_)) (fun _ h => h) (fun q hq => by rw [hsz]; exact ho.1.lt q hq), hset, ?_, grow_not h4 (by omega), grow_not hnm (by omega), ?_, ?_, hVJ⟩, ?_⟩
      · have e' : k = vb := e
        subst e'
        exact grow_not h4 (by omega) hk
      · refine hm.kept ?_
        exact (heap_setCell_other w6 ⟨vb, 1, none⟩ m _ hmv).trans ((ho.2.block m (by omega) hnm).trans (Below.block hW m hml))
      · rintro q ((hq | hq) | rfl | rfl)
        · exact .inl (.inl (h6 q (.inl hq)))
        · exact .inr ⟨by omega, by rw [hsz]; exact hq.2⟩
        · exact .inl (.inl fv)
        · exact .inl (.inr rfl)
      · rintro q ((hq | rfl) | hq)
        · have := hlF q hq; omega
        · omega
        · exact hq.2
      · refine ((OnlyJ.of_below hW).trans (ho.2.mono fun q _ hq => h6 q (.inl hq))).trans ((setCell_only w6 vb 1 _).mono fun q _ hq => ?_)
        rw [show q = vb from hq]
        exact fv)
    have HFV := Lib.hid (fun W w6 (hW : LJ w W) (ho : JOut W p b jb FJ (J.vol l now) w6) => show w6.heap[vb]? = some (.cells (volC jb mb) 143 (0, 0)) from by
      have hs1 := Below.size hW
      have hvl := lt_blk hv
      exact (ho.2.block vb (by omega) h4).trans (hW.block hv))
    obtain ⟨iK, hiK, hzK, hsK, hbK⟩ := info_parts info_write
    have HCB := Lib.hid (fun W (hW : LJ w W) => LJ.cell hW c0)
    have HWR := Lib.hid (show ∀ i, wrsV (imageE l) (imageE now) (i + 1) = wrsV (imageE l) (imageE now) i ++ if pcE (imageE now) i = pcE (imageE l) i then [] else [⟨(i : Int), ⟨(pcE (imageE now) i).toArray⟩⟩] from fun i => rfl)
    obtain ⟨iw, hiw⟩ : ∃ x, imageE l = x := ⟨_, rfl⟩
    obtain ⟨inw, hinw⟩ : ∃ x, imageE now = x := ⟨_, rfl⟩
    rw [hiw, hinw] at HWR HML HCOM
    rw [hiw] at HPW
    rw [hinw] at HPN
    clear hok hvj hroom hlF hj hv hmb h4 h5 h6 h7 c0 hm hFm hi hWAS hNOW hWd hNd hWs hNs hW87 hN87 hrm hbig hbe hVJ hmay d1 d2 d3 d4 HDV hiw hinw HANS
    go_enter Tryz.func99, Tryz.ntmps99
    go_upto_region 2 with (first
      | (go_at_call 110; (with_reducible refine HI1.out.mono ?_); rintro e w1 ⟨rfl, hl1⟩; have HL1 := Lib.hid hl1; clear hl1)
      | (go_at_call 110; (with_reducible refine (HI2.out _ HL1.out).mono ?_); rintro e w2 ⟨rfl, hl2⟩; have HL2 := Lib.hid (HL1.out.trans hl2); clear hl2)
      | fail)
    go_upto_region 6 with (first
      | (go_at_call 109; (with_reducible refine (HRM.out _ HL2.out).mono ?_); rintro e w3 ⟨rfl, hl3⟩; have HL3 := Lib.hid (HL2.out.trans hl3); have d0 := HCB.out _ HL3.out; clear hl3)
      | fail)
    go_upto_region 7 with (first
      | (go_at_call 62; (with_reducible refine (HCE.out _ HL3.out).mono ?_); rintro e w4 ⟨rfl, nd, hw4⟩; have HL4 := Lib.hid (show LJ w w4 from by rw [hw4]; exact HL3.out.drewN nd); clear hw4)
      | fail)
    clear c1 d0 hbi
    go_loopw [8, 29] (fun v8 v29 wr => ∃ (i : Nat) (ak : Option Addr) (ck k : Nat), i ≤ c ∧ v29 = .int .i64 (i : Int) ∧ v8 = .slice ak k ck ∧ Hid (k = (wrsV iw inw i).length) ∧ Hid (wr.ownsRow w.heap.size 130 2 (.slice ak k ck) k (wsC (wrsV iw inw i))) ∧ Hid (LJ w wr)) (fun _ v29 _ => c - (intOf v29).toNat)
    case atStart => exact ⟨0, none, 0, 0, by omega, rfl, rfl, Lib.hid rfl, Lib.hid (ownRow_nil _ _ _ _), HL4⟩
    case round =>
      obtain ⟨i, ak, ck, k, hic, rfl, rfl, HK, HR, HL⟩ := hrel
      by_cases hlt : i < c
      · have hii : (i : Int) < (c : Int) := by omega
        have hk40 : k ≤ 40 := by have h1 := HK.out; have h2 := HML.out i; omega
        have HA := Lib.hid (HPN.out wr i hlt)
        have HB := Lib.hid (HPW.out · i hlt)
        have HPA := Lib.hid (fun W => HPD.out W inw i)
        have HPB := Lib.hid (fun W => HPD.out W iw i)
        obtain ⟨XN, hXN⟩ : ∃ B : ByteArray, (⟨((inw.drop (116 * i)).take 116).toArray⟩ : ByteArray) = B := ⟨_, rfl⟩
        obtain ⟨XW, hXW⟩ : ∃ B : ByteArray, (⟨((iw.drop (116 * i)).take 116).toArray⟩ : ByteArray) = B := ⟨_, rfl⟩
        obtain ⟨PN, hPN⟩ : ∃ B : ByteArray, (⟨(pcE inw i).toArray⟩ : ByteArray) = B := ⟨_, rfl⟩
        obtain ⟨PW, hPW⟩ : ∃ B : ByteArray, (⟨(pcE iw i).toArray⟩ : ByteArray) = B := ⟨_, rfl⟩
        have HWI := Lib.hid (HWR.out i)
        rw [hPN] at HWI
        rw [hXN] at HA HPA
        rw [hXW] at HB HPB
        rw [hPN] at HPA
        rw [hPW] at HPB
        have hNl : PN.toList = pcE inw i := by rw [ByteArray.toList_eq, ← hPN]
        have hWl : PW.toList = pcE iw i := by rw [ByteArray.toList_eq, ← hPW]
        obtain ⟨pn, hpn⟩ : ∃ x, pcE inw i = x := ⟨_, rfl⟩
        obtain ⟨pw, hpw⟩ : ∃ x, pcE iw i = x := ⟨_, rfl⟩
        rw [hpn] at hNl
        rw [hpw] at hWl
        rw [hpn, hpw] at HWI
        clear hXN hXW hPN hPW hpn hpw
        by_cases heq : pn = pw
        · have hb1 : (pn == pw) = true := by simpa using heq
          have HE := Lib.hid (show wrsV iw inw (i + 1) = wrsV iw inw i from by rw [HWI.out, if_pos heq, List.append_nil])
          subst heq
          clear HWI hb1
          go_wp2_with (first
            | (go_at_call 158; (with_reducible refine HA.out.mono ?_); rintro e w5 ⟨rfl, hw5⟩; have hw5 := hw5.symm; subst hw5)
            | (go_at_call 157; (with_reducible refine (HPA.out _).mono ?_); rintro e w6 ⟨rfl, hl6⟩; have HL6 := Lib.hid hl6; clear hl6)
            | (go_at_call 158; (with_reducible refine (HB.out _).mono ?_); rintro e w7 ⟨rfl, hw7⟩; have hw7 := hw7.symm; subst hw7)
            | (go_at_call 157; (with_reducible refine (HPB.out _).mono ?_); rintro e w8 ⟨rfl, hl8⟩; have HL8 := Lib.hid (HL6.out.trans hl8); clear hl8)
            | fail)
          go_roundw
          case rel => exact ⟨i + 1, ak, ck, k, by omega, by simp, rfl, Lib.hid (by rw [HE.out]; exact HK.out), Lib.hid (by rw [HE.out]; exact own_below HR.out HL8.out), Lib.hid (HL.out.trans HL8.out)⟩
          case measure => simp [intOf]; omega
        · have hb1 : (pn == pw) = false := by simpa using heq
          have HE := Lib.hid (show wsC (wrsV iw inw (i + 1)) = wsC (wrsV iw inw i) ++ [.int .i64 (i : Int), .string PN] from by rw [HWI.out, if_neg heq, wsC_snoc])
          have HE2 := Lib.hid (show (wrsV iw inw (i + 1)).length = (wrsV iw inw i).length + 1 from by rw [HWI.out, if_neg heq, List.length_append]; rfl)
          clear HWI
          go_upto_region 11 with (first
            | (go_at_call 158; (with_reducible refine HA.out.mono ?_); rintro e w5 ⟨rfl, hw5⟩; have hw5 := hw5.symm; subst hw5)
            | (go_at_call 157; (with_reducible refine (HPA.out _).mono ?_); rintro e w6 ⟨rfl, hl6⟩; have HL6 := Lib.hid hl6; clear hl6)
            | (go_at_call 158; (with_reducible refine (HB.out _).mono ?_); rintro e w7 ⟨rfl, hw7⟩; have hw7 := hw7.symm; subst hw7)
            | (go_at_call 157; (with_reducible refine (HPB.out _).mono ?_); rintro e w8 ⟨rfl, hl8⟩; have HL8 := Lib.hid (HL6.out.trans hl8); clear hl8)
            | fail)
          have HR8 := Lib.hid (own_below HR.out HL8.out)
          have hs8 : w.heap.size ≤ w8.heap.size := Nat.le_trans (Below.size HL.out) (Below.size HL8.out)
          go_wp2_with (first
            | (at_builtin; refine wpList_append_lies _ rfl (.tmp 44) (.tmp 48) 131 rfl w.heap.size 130 iK (.agg #[.int .i64 0, .string ⟨#[]⟩]) 2 24 Tryz.underlying131 hiK hzK hsK hbK rfl (by decide) _ _ _ rfl (HR8.out.alloc _) ⟨w8.heap.size, 0, none⟩ 1 1 [.int .i64 (i : Int), .string PN] rfl rfl (cells_newJ w8 [.int .i64 (i : Int), .string PN] 130) (by intro u hu; simp only [List.mem_cons, List.not_mem_nil, or_false] at hu; rcases hu with rfl | rfl <;> rfl) (by omega) (by unfold maxLen; omega) (by omega) (by simp; omega) _ rfl ?_; intro g9 cap9 w9 hown9 hgrow9 hat9 hlt9)
            | fail)
          have HL9 := Lib.hid (show LJ w w9 from by
            have h1 := HL.out.trans HL8.out
            have h2 : LJ w (w8.alloc (.cells #[.int .i64 (i : Int), .string PN] 130)) := h1.alloc _
            exact Below.grown h2 hgrow9 (Below.size h2) (fun q hq => (HR8.out.lt q hq).1))
          have HR9 := Lib.hid (show w9.ownsRow w.heap.size 130 2 (.slice (some ⟨g9, 0, none⟩) (k + 1) cap9) (k + 1) (wsC (wrsV iw inw (i + 1))) from by rw [HE.out]; exact hown9)
          clear hown9 hgrow9
          go_roundw
          case rel => exact ⟨i + 1, some ⟨g9, 0, none⟩, cap9, k + 1, by omega, by simp, rfl, Lib.hid (by rw [HE2.out, HK.out]), HR9, HL9⟩
          case measure => simp [intOf]; omega
      · have hie : i = c := by omega
        have hii : ¬ (i : Int) < (c : Int) := by omega
        have hk := HK.out
        rw [hie] at hk HR
        obtain ⟨ws, hws⟩ : ∃ ws, wrsV iw inw c = ws := ⟨_, rfl⟩
        rw [hws] at hk HR
        have HKK := Lib.hid hk
        have HCM := Lib.hid (by have h1 := HCOM.out wr HL.out ak ck ws hws.symm (by rw [← hk]; exact HR.out); rw [← hk] at h1; exact h1)
        have d0 := HCB.out _ HL.out
        clear hie hk hws
        go_wp2_with (first
          | (go_at_call 74; (with_reducible refine HCM.out.mono ?_); rintro e w6 ⟨rfl, hj6⟩; have hb6 := HFV.out _ _ HL.out hj6; have HJ6 := Lib.hid hj6; have c61 := cell_blk hb6 1; have f61 := free_blk hb6 1; clear hj6 hb6)
          | fail)
        go_ret
        obtain ⟨r1, r2⟩ := HFIN.out _ _ HL.out HJ6.out
        exact ⟨rfl, r1, r2⟩
end Go.Proofs.YtfpbocjmlhcgiaaGreatDoor
