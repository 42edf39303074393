/- The law VolumeAppends. -/
import Derived.Test.YtfpbocjmlhcgiaaGreatDoorVgd
import Derived.Test.YtfpbocjmlhcgiaaGreatDoorVM33
set_option linter.unusedSimpArgs false
set_option linter.unusedVariables false
namespace Go.Proofs.YtfpbocjmlhcgiaaGreatDoor
open Go.RowKit PJ Go.Maps
def oneF (all : List UInt8) : List Ent := [⟨[47, 102], false, all⟩]
theorem path_f : pathB [47, 102] = true := by kernel_rfl
theorem at_f (all : List UInt8) : atE (oneF all) [47, 102] = some ⟨[47, 102], false, all⟩ := rfl
theorem wr_end (room : Nat) (all piece : List UInt8) : wrE room (oneF all) [47, 102] (all.length : Int) piece = if 1024 < all.length + piece.length then (176, oneF all) else becE room (oneF all) (oneF (all ++ piece)) := by
  unfold wrE
  rw [path_f, if_neg (by simp), at_f]
  simp only
  rw [if_neg (by simp), if_neg (by omega)]
  have e1 : all.take (all.length : Int).toNat = all := by rw [Int.toNat_natCast, List.take_length]
  have e2 : all.drop (min all.length ((all.length : Int).toNat + piece.length)) = [] := by rw [Int.toNat_natCast]; exact List.drop_eq_nil_of_le (by omega)
  rw [e1, e2, List.append_nil]
  by_cases h : 1024 < all.length + piece.length
  · rw [if_pos (by omega), if_pos h]
  · rw [if_neg (by omega), if_neg h]
    rfl
theorem rd_f (all : List UInt8) (h : all.length ≤ 1024) : rdE (oneF all) [47, 102] 0 2000 = (all, 0) := by
  unfold rdE
  rw [path_f, if_neg (by simp), at_f]
  simp only
  rw [if_neg (by simp), if_neg (by omega)]
  rw [show ((0 : Int).toNat) = 0 from rfl, List.drop_zero, show ((2000 : Int).toNat) = 2000 from rfl, List.take_of_length_le (by omega)]
theorem st_f (all : List UInt8) : stE (oneF all) [47, 102] = (false, all.length, 0) := by
  unfold stE
  rw [path_f, if_neg (by simp), at_f]
  simp only
  rw [show kidsE (oneF all) [47, 102] = [] from rfl]
  rfl
theorem one_image (all : List UInt8) : (imageE (oneF all)).length = 8 + all.length := by
  rw [imageE_len]
  simp [sumE, oneF]
  omega

/-- A volume of one file. -/
def VApp (w W : World) (p b jb vb : Nat) (all : ByteArray) (B : Nat) : Prop := ∃ J, VK w W (fun _ => False) p b jb vb J (oneF all.data.toList) B
theorem VApp.later {w W W' : World} {p b jb vb : Nat} {all : ByteArray} {B : Nat} (h : VApp w W p b jb vb all B) (hl : LJ W W') : VApp w W' p b jb vb all B := h.elim fun J h => ⟨J, h.later hl⟩
theorem VApp.lj {w W : World} {p b jb vb : Nat} {all : ByteArray} {B : Nat} (h : VApp w W p b jb vb all B) : LJ w W := h.elim fun J h => h.elim fun _ h => h.2.2.2.1
theorem ba_listV (s : ByteArray) : (⟨s.data.toList.toArray⟩ : ByteArray) = s := by cases s; rfl
theorem va_write {w W : World} {p b jb vb : Nat} {all : ByteArray} {B : Nat} (h : VApp w W p b jb vb all B) (hB : B < 2305843009213693952) (S : ByteArray) (hS : S.size ≤ 140737488355328) :
    Calls Tryz.prog 38 #[.pointer (some ⟨vb, 0, none⟩), .string ⟨#[47, 102]⟩, .int .i64 (all.size : Int), .string S] W fun e w' =>
      (1024 < all.size + S.size ∧ e = .returned (.int .i64 176) ∧ VApp w w' p b jb vb all (B + 1)) ∨ (¬ 1024 < all.size + S.size ∧ ((e = .returned (.int .i64 0) ∧ VApp w w' p b jb vb (all ++ S) (B + 1)) ∨ (e = .returned (.int .i64 175) ∧ VApp w w' p b jb vb all (B + 1)))) := by
  obtain ⟨J, hk⟩ := h
  have hb : J.head ≤ B ∧ J.next ≤ B := hk.elim fun _ h => h.2.2.2.2
  have h1 : all.data.toList.length = all.size := by rw [Array.length_toList]; rfl
  have h2 : S.data.toList.length = S.size := by rw [Array.length_toList]; rfl
  have hw := wr_end J.room' all.data.toList S.data.toList
  rw [h1, h2] at hw
  obtain ⟨A, hA⟩ : ∃ A, wrE J.room' (oneF all.data.toList) [47, 102] (all.size : Int) S.data.toList = A := ⟨_, rfl⟩
  rw [hA] at hw
  refine (hk.call (a := A) (R := .returned (.int .i64 A.1)) (fun F hv => by
    have h3 := vwrite_any W p b jb vb F J _ hv (by omega) (by omega) ⟨#[47, 102]⟩ (by decide) (all.size : Int) S hS
    rw [show (⟨#[47, 102]⟩ : ByteArray).data.toList = [47, 102] from rfl, hA] at h3
    exact h3)).mono ?_
  rintro e w' ⟨rfl, h4, -⟩
  by_cases hlt : 1024 < all.size + S.size
  · rw [if_pos hlt] at hw
    subst hw
    exact .inl ⟨hlt, rfl, _, h4⟩
  · rw [if_neg hlt] at hw
    refine .inr ⟨hlt, ?_⟩
    rcases becE_or J.room' (oneF all.data.toList) (oneF (all.data.toList ++ S.data.toList)) with e | ⟨e, -⟩
    · rw [e] at hw
      subst hw
      exact .inr ⟨rfl, _, h4⟩
    · rw [e] at hw
      subst hw
      refine .inl ⟨rfl, J.ans (oneF all.data.toList) (0, oneF (all.data.toList ++ S.data.toList)), ?_⟩
      rw [app_data]
      exact h4
theorem va_read {w W : World} {p b jb vb : Nat} {all : ByteArray} {B : Nat} (h : VApp w W p b jb vb all B) (ha : all.size ≤ 1024) :
    Calls Tryz.prog 39 #[.pointer (some ⟨vb, 0, none⟩), .string ⟨#[47, 102]⟩, .int .i64 0, .int .i64 2000] W fun e w' => e = .returned (.tuple #[.string all, .int .i64 0]) ∧ VApp w w' p b jb vb all B := by
  obtain ⟨J, F, hv, -⟩ := id h
  have h3 := vreads_any W p b jb vb F J _ hv ⟨#[47, 102]⟩ (by decide) 0 2000 (by omega)
  have h1 : all.data.toList.length = all.size := by rw [Array.length_toList]; rfl
  rw [show (⟨#[47, 102]⟩ : ByteArray).data.toList = [47, 102] from rfl, rd_f _ (by omega)] at h3
  rw [show (⟨(all.data.toList, (0 : Int)).1.toArray⟩ : ByteArray) = all from ba_listV all] at h3
  refine h3.mono ?_
  rintro e w' ⟨rfl, hl⟩
  exact ⟨rfl, h.later hl⟩
theorem va_stat {w W : World} {p b jb vb : Nat} {all : ByteArray} {B : Nat} (h : VApp w W p b jb vb all B) :
    Calls Tryz.prog 40 #[.pointer (some ⟨vb, 0, none⟩), .string ⟨#[47, 102]⟩] W fun e w' => e = .returned (.tuple #[.bool false, .int .i64 (all.size : Int), .int .i64 0]) ∧ VApp w w' p b jb vb all B := by
  obtain ⟨J, F, hv, -⟩ := id h
  have h3 := vstat_any W p b jb vb F J _ hv ⟨#[47, 102]⟩ (by decide)
  have h1 : all.data.toList.length = all.size := by rw [Array.length_toList]; rfl
  rw [show (⟨#[47, 102]⟩ : ByteArray).data.toList = [47, 102] from rfl, st_f, h1] at h3
  refine h3.mono ?_
  rintro e w' ⟨rfl, hl⟩
  exact ⟨rfl, h.later hl⟩
theorem mk_f (room : Nat) (h : 8 ≤ room) : mkE room [] [47, 102] false = (0, oneF []) := by
  have e : mkE room [] [47, 102] false = becE room [] (oneF []) := rfl
  rw [e]
  unfold becE
  rw [one_image, if_neg (by simp; omega)]
theorem va_create {w W : World} {p b jb vb : Nat} {J : Jn} (hk : VK w W (fun _ => False) p b jb vb J [] 3) (hr : 8 ≤ J.room') :
    Calls Tryz.prog 37 #[.pointer (some ⟨vb, 0, none⟩), .string ⟨#[47, 102]⟩] W fun e w' => e = .returned (.int .i64 0) ∧ VApp w w' p b jb vb ⟨#[]⟩ 4 := by
  have hb : J.head ≤ 3 ∧ J.next ≤ 3 := hk.elim fun _ h => h.2.2.2.2
  refine (hk.call (a := (0, oneF [])) (R := .returned (.int .i64 0)) (fun F hv => by
    have h3 := vcreate_any W p b jb vb F J _ hv (by omega) (by omega) ⟨#[47, 102]⟩ (by decide)
    rw [show (⟨#[47, 102]⟩ : ByteArray).data.toList = [47, 102] from rfl, mk_f _ hr] at h3
    exact h3)).mono ?_
  rintro e w' ⟨rfl, h4, -⟩
  exact ⟨rfl, _, h4⟩
set_option maxRecDepth 100000 in
set_option maxHeartbeats 8000000 in
theorem appends_any (w : World) (c m k : Int) (hc : -9223372036854775808 ≤ c ∧ c ≤ 9223372036854775807) (hm : -9223372036854775808 ≤ m ∧ m ≤ 9223372036854775807) (hk : -9223372036854775808 ≤ k ∧ k ≤ 9223372036854775807) (a : Option Addr) (n cap : Nat) (ss : List ByteArray) (hlen : ss.length = n) (hn : n ≤ 140737488355328) (hss : ∀ s ∈ ss, s.size ≤ 140737488355328) (hcell : n = 0 ∨ ∃ b o, a = some ⟨b, o, none⟩ ∧ b < w.heap.size ∧ ∀ j x, ss[j]? = some x → w.cell? ⟨b, o + j, none⟩ = some (.string x)) :
    Calls Tryz.prog 6 #[.agg #[.int .i64 c, .int .i64 m, .int .i64 k], .slice a n cap] w fun e w' => e = .returned (.bool true) ∧ LJ w w' := by
  obtain ⟨w1, hw1⟩ : ∃ w1, w.alloc (.cells #[.int .i64 c, .int .i64 m, .int .i64 k] 57) = w1 := ⟨_, rfl⟩
  obtain ⟨q3, hq3⟩ : ∃ q, w.heap.size = q := ⟨_, rfl⟩
  have HB1 := Lib.hid (show w1.heap[q3]? = some (.cells #[.int .i64 c, .int .i64 m, .int .i64 k] 57 (0, 0)) from by rw [← hw1, ← hq3]; exact alloc_blk w _)
  have HL1 := Lib.hid (show LJ w w1 from by rw [← hw1]; exact (LJ.refl w).alloc _)
  have k0 : w1.cell? ⟨q3, 0, none⟩ = some (.int .i64 c) := cell_blk HB1.out 0
  have k1 : w1.cell? ⟨q3, 1, none⟩ = some (.int .i64 m) := cell_blk HB1.out 1
  have k2 : w1.cell? ⟨q3, 2, none⟩ = some (.int .i64 k) := cell_blk HB1.out 2
  have HLD := Lib.hid (show Calls Tryz.prog 31 #[.agg #[.int .i64 c, .int .i64 m, .int .i64 k]] w1 fun e w' => ∃ p b jb vb J, e = .returned (.tuple #[.pointer (some ⟨p, 0, none⟩), .pointer (some ⟨vb, 0, none⟩)]) ∧ VK w1 w' (fun _ => False) p b jb vb J [] 3 ∧ 8 ≤ J.room' from by
    refine (l17laid_any w1 c m k hc hm hk).mono ?_
    rintro e w' ⟨p, b, jb, vb, J, rfl, h1, h2, h3⟩
    have := shC_bd c
    exact ⟨p, b, jb, vb, J, rfl, h1, by unfold Jn.room'; omega⟩)
  have HFX := Lib.hid (fun W => fixed17_any W)
  have HCE := Lib.hid hcell
  have HSS := Lib.hid (And.intro hlen (And.intro hn hss))
  have HW1 := Lib.hid hw1
  have HQ := Lib.hid hq3
  clear hc hm hk hcell hss hw1 hq3
  go_enter Tryz.func6, Tryz.ntmps6
  go_upto_region 1 with fail
  rw [HW1.out, HQ.out]
  go_upto_region 2 with (first
    | (go_at_call 31; (with_reducible refine HLD.out.mono ?_); rintro e w2 ⟨p, b, jb, vb, J, rfl, h1, h2⟩; have H0 := Lib.hid h1; have HRM := Lib.hid h2; clear h1 h2)
    | fail)
  clear k0 k1 k2
  go_wp2_with (first
    | (go_at_call 37; (with_reducible refine (va_create H0.out HRM.out).mono ?_); rintro e w3 ⟨rfl, h1⟩; have H1 := Lib.hid h1; clear h1)
    | fail)
  go_loopw [7, 8] (fun v7 v8 wr => ∃ (i : Nat) (all : ByteArray) (B : Nat), i ≤ n ∧ v8 = .int .i64 (i : Int) ∧ v7 = .string all ∧ Hid (all.size ≤ 1024 ∧ B = 4 + i) ∧ Hid (VApp w1 wr p b jb vb all B)) (fun _ v8 _ => n - (intOf v8).toNat)
  case atStart => exact ⟨0, ⟨#[]⟩, 4, by omega, rfl, rfl, Lib.hid ⟨by decide, rfl⟩, H1⟩
  case round =>
    obtain ⟨i, all, B, hi, rfl, rfl, HA, HV⟩ := hrel
    by_cases hlt : i < n
    · have hin : (i : Int) < (n : Int) := by omega
      obtain ⟨S, hS⟩ : ∃ S, ss[i]? = some S := ⟨_, List.getElem?_eq_getElem (by omega)⟩
      have hSs := HSS.out.2.2 S (List.mem_of_getElem? hS)
      obtain ⟨gb, o, rfl, hgl, hgc⟩ : ∃ b o, a = some ⟨b, o, none⟩ ∧ b < w.heap.size ∧ ∀ j x, ss[j]? = some x → w.cell? ⟨b, o + j, none⟩ = some (.string x) := by
        rcases HCE.out with h | h
        · omega
        · exact h
      have HC := Lib.hid (fun W (hW : LJ w W) => hW.cell (hgc i S hS))
      have cS := HC.out wr (HL1.out.trans HV.out.lj)
      obtain ⟨ha, hB⟩ := HA.out
      have hn9 := HSS.out.2.1
      have HIL := Lib.hid hlt
      have hw1 : IntKind.i64.wrap ((i : Int) + 1) = ((i + 1 : Nat) : Int) := by rw [IntKind.wrap_i64]; omega
      have hw2 : IntKind.i64.wrap ((all.size : Int) + (S.size : Int)) = ((all.size + S.size : Nat) : Int) := by rw [IntKind.wrap_i64]; omega
      obtain ⟨T, hT⟩ : ∃ T, all.size + S.size = T := ⟨_, rfl⟩
      obtain ⟨AS, hAS⟩ : ∃ AS, all ++ S = AS := ⟨_, rfl⟩
      have hASs : AS.size = T := by rw [← hAS, ByteArray.size_append, hT]
      have HWR := Lib.hid (show Calls Tryz.prog 38 #[.pointer (some ⟨vb, 0, none⟩), .string ⟨#[47, 102]⟩, .int .i64 (all.size : Int), .string S] wr fun e w' => ∃ (r : Int) (A2 : ByteArray), e = .returned (.int .i64 r) ∧ VApp w1 w' p b jb vb A2 (B + 1) ∧ ((1024 < T ∧ r = 176 ∧ A2 = all) ∨ (¬ 1024 < T ∧ r = 0 ∧ A2 = AS) ∨ (¬ 1024 < T ∧ r = 175 ∧ A2 = all)) from by
        refine (va_write HV.out (by omega) S hSs).mono ?_
        rw [hT, hAS]
        rintro e w' (⟨h1, rfl, h2⟩ | ⟨h1, ⟨rfl, h2⟩ | ⟨rfl, h2⟩⟩)
        · exact ⟨176, all, rfl, h2, .inl ⟨h1, rfl, rfl⟩⟩
        · exact ⟨0, AS, rfl, h2, .inr (.inl ⟨h1, rfl, rfl⟩)⟩
        · exact ⟨175, all, rfl, h2, .inr (.inr ⟨h1, rfl, rfl⟩)⟩)
      have HW9 := Lib.hid hw1
      have HBI := Lib.hid hB
      rw [hT] at hw2
      have g1 : ¬ 9223372036854775807 < all.size + S.size := by omega
      have hT47 : T ≤ 140737488355328 + 1024 := by omega
      have hla : (all.toList == all.toList) = true := beq_self_eq_true _
      have hls : (AS.toList == AS.toList) = true := beq_self_eq_true _
      clear hB hn9 hSs hS hgc hgl hw1
      go_upto_region 9 with (first
        | (go_at_call 38; (with_reducible refine HWR.out.mono ?_); rintro e wv ⟨r, A2, rfl, h1, h2⟩; have HV2 := Lib.hid h1; have HD2 := Lib.hid h2; have cS2 := HC.out wv (HL1.out.trans h1.lj); clear h1 h2)
        | fail)
      clear cS
      rcases HD2.out with ⟨h1, rfl, rfl⟩ | ⟨h1, rfl, rfl⟩ | ⟨h1, rfl, rfl⟩
      · have h1i : (1024 : Int) < (T : Int) := by omega
        have HA2 := Lib.hid ha
        clear hT hASs ha
        go_wp2_with (first
            | (go_at_call 39; (with_reducible refine (va_read HV2.out HA2.out).mono ?_); rintro e wx ⟨rfl, h5⟩; have HV3 := Lib.hid h5; clear h5)
            | (go_at_call 40; (with_reducible refine (va_stat HV3.out).mono ?_); rintro e wy ⟨rfl, h5⟩; have HV4 := Lib.hid h5; clear h5)
            | fail)
        go_roundw
        case rel => exact ⟨i + 1, _, B + 1, HIL.out, by simp [HW9.out], rfl, Lib.hid ⟨HA2.out, by have := HBI.out; omega⟩, HV4⟩
        case measure => have := HIL.out; have := HW9.out; simp [intOf]; omega
      · have h1i : ¬ (1024 : Int) < (T : Int) := by omega
        have HA2 := Lib.hid (show A2.size ≤ 1024 from by omega)
        clear hT hASs ha
        go_wp2_with (first
            | (go_at_call 39; (with_reducible refine (va_read HV2.out HA2.out).mono ?_); rintro e wx ⟨rfl, h5⟩; have HV3 := Lib.hid h5; clear h5)
            | (go_at_call 40; (with_reducible refine (va_stat HV3.out).mono ?_); rintro e wy ⟨rfl, h5⟩; have HV4 := Lib.hid h5; clear h5)
            | fail)
        go_roundw
        case rel => exact ⟨i + 1, _, B + 1, HIL.out, by simp [HW9.out], rfl, Lib.hid ⟨HA2.out, by have := HBI.out; omega⟩, HV4⟩
        case measure => have := HIL.out; have := HW9.out; simp [intOf]; omega
      · have h1i : ¬ (1024 : Int) < (T : Int) := by omega
        have HA2 := Lib.hid ha
        clear hT hASs ha
        go_wp2_with (first
            | (go_at_call 39; (with_reducible refine (va_read HV2.out HA2.out).mono ?_); rintro e wx ⟨rfl, h5⟩; have HV3 := Lib.hid h5; clear h5)
            | (go_at_call 40; (with_reducible refine (va_stat HV3.out).mono ?_); rintro e wy ⟨rfl, h5⟩; have HV4 := Lib.hid h5; clear h5)
            | fail)
        go_roundw
        case rel => exact ⟨i + 1, _, B + 1, HIL.out, by simp [HW9.out], rfl, Lib.hid ⟨HA2.out, by have := HBI.out; omega⟩, HV4⟩
        case measure => have := HIL.out; have := HW9.out; simp [intOf]; omega
    · have hin : ¬ (i : Int) < (n : Int) := by omega
      have HLR := Lib.hid (HL1.out.trans HV.out.lj)
      go_wp2_with (first
        | (go_at_call 30; (with_reducible refine (HFX.out _).mono ?_); rintro e w4 ⟨rfl, hl4⟩; have HL4 := Lib.hid hl4; clear hl4)
        | fail)
      go_ret
      exact ⟨rfl, HLR.out.trans HL4.out⟩
theorem appends_card (w : World) (c m k : Int) (hc : -9223372036854775808 ≤ c ∧ c ≤ 9223372036854775807) (hm : -9223372036854775808 ≤ m ∧ m ≤ 9223372036854775807) (hk : -9223372036854775808 ≤ k ∧ k ≤ 9223372036854775807) (a : Option Addr) (n cap : Nat) (ss : List ByteArray) (hlen : ss.length = n) (hn : n ≤ 140737488355328) (hss : ∀ s ∈ ss, s.size ≤ 140737488355328) (hcell : n = 0 ∨ ∃ b o, a = some ⟨b, o, none⟩ ∧ b < w.heap.size ∧ ∀ j x, ss[j]? = some x → w.cell? ⟨b, o + j, none⟩ = some (.string x)) :
    Calls Tryz.prog 6 #[.agg #[.int .i64 c, .int .i64 m, .int .i64 k], .slice a n cap] w fun e w' => e = .returned (.bool true) ∧ Below w.heap.size w w' := appends_any w c m k hc hm hk a n cap ss hlen hn hss hcell
end Go.Proofs.YtfpbocjmlhcgiaaGreatDoor
