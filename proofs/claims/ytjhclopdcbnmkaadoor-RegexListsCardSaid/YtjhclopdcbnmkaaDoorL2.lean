/- RegexLists: the bytes of a set as they are told, and the walk of the loop. (Printed by wip/gen_l2.py.) -/
import Derived.Test.YtjhclopdcbnmkaaDoorS9
import Derived.Test.YtjhclopdcbnmkaaDoorT1
import Derived.Test.YtjhclopdcbnmkaaDoorL1
import Derived.WalkSpells
set_option linter.unusedSimpArgs false
set_option linter.unusedVariables false
namespace Go.Proofs.YtjhclopdcbnmkaaDoor
open Go.RowKit PX

theorem not_bit (V : Int) (k : Nat) (hV : 0 ≤ V ∧ V < 18446744073709551616) (hk : k < 64) : bits BinOp.andNot IntKind.u64 (18446744073709551615 - V) (IntKind.u64.wrap (2 ^ k)) = 18446744073709551615 - orBit V k := by
  obtain ⟨m, rfl⟩ := Int.eq_ofNat_of_zero_le hV.1
  have h2 : 2 ^ k < 2 ^ 64 := Nat.pow_lt_pow_right (by omega) hk
  have e0 : ((2 : Int) ^ k) = ((2 ^ k : Nat) : Int) := by simp
  have e64 : (2 : Nat) ^ 64 = 18446744073709551616 := by decide
  unfold orBit
  rw [e0, Int.toNat_natCast]
  generalize 2 ^ k = N at h2 ⊢
  have e1 : IntKind.u64.wrap (N : Int) = (N : Int) := by rw [IntKind.wrap_u64]; omega
  have hm : m < 2 ^ 64 := by omega
  have ho : m ||| N < 2 ^ 64 := Nat.or_lt_two_pow hm h2
  rw [e1]
  have hx : BitVec.ofInt 64 (18446744073709551615 - (m : Int)) = ~~~ BitVec.ofNat 64 m := by
    apply BitVec.eq_of_toNat_eq
    rw [BitVec.toNat_not, BitVec.toNat_ofNat, BitVec.toNat_ofInt]
    omega
  show IntKind.u64.wrap ((BitVec.ofInt 64 (18446744073709551615 - (m : Int)) &&& ~~~BitVec.ofInt 64 ((N : Nat) : Int)).toNat : Int) = _
  rw [hx, BitVec.ofInt_natCast, ← BitVec.not_or, BitVec.toNat_not, BitVec.toNat_or, BitVec.toNat_ofNat, BitVec.toNat_ofNat, Nat.mod_eq_of_lt hm, Nat.mod_eq_of_lt h2, IntKind.wrap_u64]
  omega
theorem low_digit : ∀ n, n < 16 → (⟨#[48, 49, 50, 51, 52, 53, 54, 55, 56, 57, 97, 98, 99, 100, 101, 102]⟩ : ByteArray).extract n (n + 1) = ⟨[hexd n].toArray⟩ := by decide +kernel
theorem high_digit : ∀ n, n < 16 → (⟨#[48, 49, 50, 51, 52, 53, 54, 55, 56, 57, 65, 66, 67, 68, 69, 70]⟩ : ByteArray).extract n (n + 1) = ⟨[highd n].toArray⟩ := by decide +kernel
theorem cut_low (n : Nat) (h : n < 16) (w : World) : (Instr.slice 9 (.string ⟨#[48, 49, 50, 51, 52, 53, 54, 55, 56, 57, 97, 98, 99, 100, 101, 102]⟩) (some (.int .i64 n)) (some (.int .i64 ((n : Int) + 1))) none).run Tryd.prog w = .ok (.string ⟨[hexd n].toArray⟩) w := by
  rw [run_slice_string (h := Tryd.underlying9) (h0 := by omega) (h1 := by omega) (h2 := by show (n : Int) + 1 ≤ 16; omega), Int.toNat_natCast, show ((n : Int) + 1).toNat = n + 1 by omega, low_digit n h]
theorem cut_high (n : Nat) (h : n < 16) (w : World) : (Instr.slice 9 (.string ⟨#[48, 49, 50, 51, 52, 53, 54, 55, 56, 57, 65, 66, 67, 68, 69, 70]⟩) (some (.int .i64 n)) (some (.int .i64 ((n : Int) + 1))) none).run Tryd.prog w = .ok (.string ⟨[highd n].toArray⟩) w := by
  rw [run_slice_string (h := Tryd.underlying9) (h0 := by omega) (h1 := by omega) (h2 := by show (n : Int) + 1 ≤ 16; omega), Int.toNat_natCast, show ((n : Int) + 1).toNat = n + 1 by omega, high_digit n h]
theorem item_str (p q : ByteArray) (x y : UInt8) (hp : (⟨[x].toArray⟩ : ByteArray) = p) (hq : (⟨[y].toArray⟩ : ByteArray) = q) : (⟨#[92, 120]⟩ : ByteArray) ++ p ++ q = ⟨[92, 120, x, y].toArray⟩ := by
  subst hp hq; apply ByteArray.ext; simp
/-- The bytes of a text. -/
def bytesN (S : ByteArray) : List Nat := S.data.toList.map UInt8.toNat
theorem bytesN_lt (S : ByteArray) : ∀ x ∈ bytesN S, x < 256 := by
  intro x hx
  obtain ⟨c, -, rfl⟩ := List.mem_map.1 hx
  exact UInt8.toNat_lt c
theorem bytesN_length (S : ByteArray) : (bytesN S).length = S.size := by unfold bytesN; rw [List.length_map]; rfl
theorem bytesN_take (S : ByteArray) (i : Nat) (h : i < S.size) : (bytesN S).take (i + 1) = (bytesN S).take i ++ [(S.data.toList.getD i 0).toNat] := by
  have hl : i < (bytesN S).length := by rw [bytesN_length]; exact h
  have h2 : i < S.data.toList.length := h
  rw [List.take_succ_eq_append_getElem hl]
  congr 2
  simp only [bytesN, List.getElem_map]
  congr 1
  rw [List.getD_eq_getElem?_getD, List.getElem?_eq_getElem h2]
  rfl
/-- A text of its bytes. -/
def strL (s : List UInt8) : ByteArray := ⟨s.toArray⟩
theorem strL_size (s : List UInt8) : (strL s).size = s.length := by simp [strL, ByteArray.size]
theorem strL_append (s t : List UInt8) : strL s ++ strL t = strL (s ++ t) := by apply ByteArray.ext; simp [strL]
/-- What the loop knows behind i bytes. -/
def aheadT (S : ByteArray) (i : Nat) : List UInt8 := ((bytesN S).take i).flatMap itemA
def behindT (S : ByteArray) (i : Nat) : List UInt8 := ((bytesN S).take i).reverse.flatMap itemZ
def setTo (S : ByteArray) (i : Nat) : Q4 := setL ((bytesN S).take i)
theorem take_lt (S : ByteArray) (i : Nat) : ∀ x ∈ (bytesN S).take i, x < 256 := fun x hx => bytesN_lt S x (List.mem_of_mem_take hx)
theorem aheadT_next {S : ByteArray} {i : Nat} (h : i < S.size) : aheadT S (i + 1) = aheadT S i ++ itemA (S.data.toList.getD i 0).toNat := by
  unfold aheadT
  rw [bytesN_take S i h, List.flatMap_append, List.flatMap_cons, List.flatMap_nil, List.append_nil]
theorem behindT_next {S : ByteArray} {i : Nat} (h : i < S.size) : behindT S (i + 1) = itemZ (S.data.toList.getD i 0).toNat ++ behindT S i := by
  unfold behindT
  rw [bytesN_take S i h, List.reverse_append, List.flatMap_append]
  rfl
theorem setTo_next {S : ByteArray} {i : Nat} (h : i < S.size) : setTo S (i + 1) = (setTo S i).with (S.data.toList.getD i 0).toNat := by
  unfold setTo setL
  rw [bytesN_take S i h, withL_snoc]
theorem setTo_wide (S : ByteArray) (i : Nat) : (setTo S i).wide := withL_wide _ _ none_wide (take_lt S i)
theorem aheadT_length (S : ByteArray) (i : Nat) (h : i ≤ S.size) : (aheadT S i).length = 4 * i := by
  unfold aheadT
  rw [items_length itemA (fun c hc => itemA_is hc) _ (take_lt S i), List.length_take, bytesN_length]
  omega
theorem behindT_length (S : ByteArray) (i : Nat) (h : i ≤ S.size) : (behindT S i).length = 4 * i := by
  unfold behindT
  rw [items_length itemZ (fun c hc => itemZ_is hc) _ (fun x hx => take_lt S i x (List.mem_reverse.1 hx)), List.length_reverse, List.length_take, bytesN_length]
  omega
theorem idx_byte5 (S : ByteArray) (i : Nat) (hi : i < S.size) (w : World) : (Instr.index 9 (.string S) (.int .i64 i)).run Tryd.prog w = .ok (.int .u8 ((S.data.toList.getD i 0).toNat : Int)) w := by
  have hl : i < S.data.toList.length := by rw [Array.length_toList]; exact hi
  have h : (0 : Int) ≤ (i : Int) ∧ (i : Int) < (S.size : Int) := by omega
  rw [run_index_string (h := Tryd.underlying9), dif_pos h, List.getD_eq_getElem?_getD, List.getElem?_eq_getElem hl]
  rfl

theorem parse_set (w : World) (T : ByteArray) (a b c d : Int) (h : parseR T.data.toList = .inl (.set ⟨a, b, c, d⟩)) : Calls Tryd.prog 12 #[.string T] w fun e w' =>
    ∃ p cap, e = .returned (.tuple #[.agg #[.int .i64 0, .int .i64 0, .int .i64 0, .int .u64 a, .int .u64 b, .int .u64 c, .int .u64 d, .slice p 0 cap], .int .i64 0]) ∧ (RxA.node 0 0 0 a b c d p cap []).In w' w'.heap.size ∧ Later w w' := by
  refine (parse_good w T _ h).mono ?_
  rintro e w' ⟨k, mn, mx, s0, s1, s2, s3, p, cap, l, hX, rfl, hin, hb⟩
  simp only [Rx.set, RxA.bare, Rx.node.injEq] at hX
  obtain ⟨rfl, rfl, rfl, rfl, rfl, rfl, rfl, hl⟩ := hX
  have hn : l = [] := by
    cases l with
    | nil => rfl
    | cons x l => cases hl
  subst hn
  exact ⟨p, cap, rfl, hin, Later.of hb⟩
set_option maxRecDepth 100000 in
set_option maxHeartbeats 4000000 in
theorem lists_short (w : World) (S : ByteArray) (hS : S.size ≤ 30) (hP : PowAt w) :
    Calls Tryd.prog 6 #[.string S] w fun e w' => e = .returned (.bool true) ∧ Later w w' := by
  have HFIX := Lib.hid (fun w1 (h1 : Later w w1) => fixed05_any w1 (hP.later h1))
  clear hP
  go_enter Tryd.func6, Tryd.ntmps6
  go_upto_region 3 with (first
    | (go_at_call 10; (with_reducible refine (HFIX.out _ (Later.refl _)).mono ?_); rintro e w1 ⟨rfl, hl1⟩)
    | fail)
  have hc30 : ¬ 30 < (S.size : Int) := by omega
  have hd30 : decide (30 < (S.size : Int)) = false := by simp; omega
  go_upto_region 7 with fail
  obtain ⟨w0, hw0⟩ : ∃ w0, (w1.alloc (.cells #[.int .u64 0, .int .u64 0, .int .u64 0, .int .u64 0] 23)).alloc (.cells #[.int .u64 18446744073709551615, .int .u64 18446744073709551615, .int .u64 18446744073709551615, .int .u64 18446744073709551615] 23) = w0 := ⟨_, rfl⟩
  rw [hw0]
  have hb3 : w0.heap[w1.heap.size]? = some (.cells (Q4.cells (setTo S 0)) 23 (0, 0)) := by rw [← hw0]; exact alloc_old (alloc_block w1 _) _
  have hb4 : w0.heap[w1.heap.size + 1]? = some (.cells (Q4.cells (setTo S 0).not) 23 (0, 0)) := by rw [← hw0]; exact alloc_block' _ _ _ (by simp)
  have hl0 : Later w1 w0 := by rw [← hw0]; exact ((Later.refl w1).alloc _).alloc _
  have HB3 := Lib.hid hb3
  have HB4 := Lib.hid hb4
  have HL0 := Lib.hid hl0
  have HL1 := Lib.hid hl1
  clear hb3 hb4 hl0 hw0 hl1
  obtain ⟨b, hb⟩ : ∃ b, w1.heap.size = b := ⟨_, rfl⟩
  rw [hb] at HB3 HB4 ⊢
  have HBE := Lib.hid hb
  clear hb
  have HS30 := Lib.hid hS
  clear hc30 hd30
  go_wp2_with fail
  go_loopw [5, 6, 7] (fun va vz vi wr => ∃ i : Nat, i ≤ S.size ∧ va = .string (strL (aheadT S i)) ∧ vz = .string (strL (behindT S i)) ∧ vi = .int .i64 i ∧ wr.heap[b]? = some (.cells (Q4.cells (setTo S i)) 23 (0, 0)) ∧ wr.heap[b + 1]? = some (.cells (Q4.cells (setTo S i).not) 23 (0, 0)) ∧ Later w1 wr) (fun _ _ vi _ => S.size - (intOf vi).toNat)
  case atStart => exact ⟨0, Nat.zero_le _, rfl, rfl, rfl, HB3.out, HB4.out, HL0.out⟩
  case round =>
    obtain ⟨i, hi, rfl, rfl, rfl, h3, h4, hlr⟩ := hrel
    have HLR := Lib.hid hlr
    clear hlr
    by_cases hlt : (i : Int) < (S.size : Int)
    · have hlt' : i < S.size := by omega
      have hiS := idx_byte5 S i hlt'
      obtain ⟨c, hc⟩ : ∃ c, (S.data.toList.getD i 0).toNat = c := ⟨_, rfl⟩
      have hc256 : c < 256 := by rw [← hc]; exact UInt8.toNat_lt _
      have hAn := aheadT_next hlt'
      have hZn := behindT_next hlt'
      have hQn := setTo_next hlt'
      have hAs := aheadT_length S i hi
      have hZs := behindT_length S i hi
      have hwd := setTo_wide S i
      rw [hc] at hAn hZn hQn hiS
      obtain ⟨A, hA⟩ : ∃ A, strL (aheadT S i) = A := ⟨_, rfl⟩
      obtain ⟨Z, hZ⟩ : ∃ Z, strL (behindT S i) = Z := ⟨_, rfl⟩
      have hA120 : A.size ≤ 120 := by rw [← hA, strL_size]; omega
      have hZ120 : Z.size ≤ 120 := by rw [← hZ, strL_size]; omega
      rw [hA, hZ]
      have HA := Lib.hid hA
      have HZ := Lib.hid hZ
      have HAN := Lib.hid hAn
      have HZN := Lib.hid hZn
      obtain ⟨q, hq⟩ : ∃ q, setTo S i = q := ⟨_, rfl⟩
      rw [hq] at h3 h4 hQn hwd
      obtain ⟨qa, qb, qc, qd⟩ := q
      obtain ⟨hwa, hwb, hwc, hwd⟩ := (show (0 ≤ qa ∧ qa < 18446744073709551616) ∧ (0 ≤ qb ∧ qb < 18446744073709551616) ∧ (0 ≤ qc ∧ qc < 18446744073709551616) ∧ (0 ≤ qd ∧ qd < 18446744073709551616) from hwd)
      obtain ⟨na, hna⟩ : ∃ na, 18446744073709551615 - qa = na := ⟨_, rfl⟩
      obtain ⟨nb, hnb⟩ : ∃ nb, 18446744073709551615 - qb = nb := ⟨_, rfl⟩
      obtain ⟨nc, hnc⟩ : ∃ nc, 18446744073709551615 - qc = nc := ⟨_, rfl⟩
      obtain ⟨nd, hnd⟩ : ∃ nd, 18446744073709551615 - qd = nd := ⟨_, rfl⟩
      simp only [Q4.not, Q4.cells, hna, hnb, hnc, hnd] at h3 h4
      have HNA := Lib.hid hna
      have HNB := Lib.hid hnb
      have HNC := Lib.hid hnc
      have HND := Lib.hid hnd
      obtain ⟨d, hd⟩ : ∃ d, c / 16 = d := ⟨_, rfl⟩
      obtain ⟨m, hm⟩ : ∃ m, c % 16 = m := ⟨_, rfl⟩
      have hd16 : d < 16 := by omega
      have hm16 : m < 16 := by omega
      have hdI : (c : Int) / 16 = (d : Int) := by omega
      have hmI : (c : Int) % 16 = (m : Int) := by omega
      have hLd := cut_low d hd16
      have hLm := cut_low m hm16
      have hHd := cut_high d hd16
      have hHm := cut_high m hm16
      obtain ⟨ld, hld⟩ : ∃ ld : ByteArray, (⟨[hexd d].toArray⟩ : ByteArray) = ld := ⟨_, rfl⟩
      obtain ⟨lm, hlm⟩ : ∃ lm : ByteArray, (⟨[hexd m].toArray⟩ : ByteArray) = lm := ⟨_, rfl⟩
      obtain ⟨gd, hgd⟩ : ∃ gd : ByteArray, (⟨[highd d].toArray⟩ : ByteArray) = gd := ⟨_, rfl⟩
      obtain ⟨gm, hgm⟩ : ∃ gm : ByteArray, (⟨[highd m].toArray⟩ : ByteArray) = gm := ⟨_, rfl⟩
      rw [hld] at hLd
      rw [hlm] at hLm
      rw [hgd] at hHd
      rw [hgm] at hHm
      have zld : ld.size = 1 := by rw [← hld]; rfl
      have zlm : lm.size = 1 := by rw [← hlm]; rfl
      have zgd : gd.size = 1 := by rw [← hgd]; rfl
      have zgm : gm.size = 1 := by rw [← hgm]; rfl
      have HLD := Lib.hid hld
      have HLM := Lib.hid hlm
      have HGD := Lib.hid hgd
      have HGM := Lib.hid hgm
      clear hld hlm hgd hgm
      have s0 : wr.cell? ⟨b, 0, none⟩ = some (.int .u64 qa) := cell_of_block h3 0
      have s1 : wr.cell? ⟨b, 1, none⟩ = some (.int .u64 qb) := cell_of_block h3 1
      have s2 : wr.cell? ⟨b, 2, none⟩ = some (.int .u64 qc) := cell_of_block h3 2
      have s3 : wr.cell? ⟨b, 3, none⟩ = some (.int .u64 qd) := cell_of_block h3 3
      have u0 : wr.cell? ⟨b + 1, 0, none⟩ = some (.int .u64 na) := cell_of_block h4 0
      have u1 : wr.cell? ⟨b + 1, 1, none⟩ = some (.int .u64 nb) := cell_of_block h4 1
      have u2 : wr.cell? ⟨b + 1, 2, none⟩ = some (.int .u64 nc) := cell_of_block h4 2
      have u3 : wr.cell? ⟨b + 1, 3, none⟩ = some (.int .u64 nd) := cell_of_block h4 3
      obtain ⟨k, hk⟩ : ∃ k, c % 64 = k := ⟨_, rfl⟩
      have hk64 : k < 64 := by omega
      have hkI : (c : Int) % 64 = (k : Int) := by omega
      have hw4 : c < 64 ∨ (64 ≤ c ∧ c < 128) ∨ (128 ≤ c ∧ c < 192) ∨ 192 ≤ c := by omega
      have HQN := Lib.hid hQn
      have H3 := Lib.hid h3
      have H4 := Lib.hid h4
      have f0 : ∀ j, wr.frozen? ⟨b, j, none⟩ = false := fun j => free_of_block h3 j
      have f1 : ∀ j, wr.frozen? ⟨b + 1, j, none⟩ = false := fun j => free_of_block h4 j
      have HD := Lib.hid hd
      have HM := Lib.hid hm
      clear hQn h3 h4 hAn hZn hA hZ hAs hZs hd hm hi
      rcases hw4 with hw4 | hw4 | hw4 | hw4
      · have hKI : (c : Int) / 64 = 0 := by omega
        have HW : Hid ((⟨qa, qb, qc, qd⟩ : Q4).with c = { (⟨qa, qb, qc, qd⟩ : Q4) with a := orBit qa k }) := by
          apply Lib.hid; simp only [Q4.with]; rw [if_pos (by omega)]; rw [show c = k by omega]
        have hob := or_bit' qa k (show U64 qa from ⟨hwa.1, by have := hwa.2; omega⟩) hk64
        have hnt := not_bit qa k hwa hk64
        have hnt : bits BinOp.andNot IntKind.u64 na (IntKind.u64.wrap (2 ^ k)) = 18446744073709551615 - orBit qa k := hna ▸ hnt
        have g0 := f0 0
        have g1 := f1 0
        obtain ⟨o, ho⟩ : ∃ o, orBit qa k = o := ⟨_, rfl⟩
        obtain ⟨n, hn⟩ : ∃ n, 18446744073709551615 - o = n := ⟨_, rfl⟩
        rw [ho] at hob hnt HW
        rw [hn] at hnt
        have HO := Lib.hid hn
        clear f0 f1 hk hw4 hc ho hn hna hnb hnc hnd hwa hwb hwc hwd
        go_upto_region 11 with fail
        go_region
        go_upto_region 12 with fail
        go_region
        go_upto_region 13 with fail
        go_region
        go_upto_region 14 with fail
        go_region
        go_wp2_with fail
        go_roundw
        case rel =>
          refine ⟨i + 1, by omega, ?_, ?_, by simp, ?_, ?_, ?_⟩
          · rw [HAN.out, ← strL_append, HA.out, item_str _ _ _ _ HLD.out HGM.out]; unfold itemA; rw [HD.out, HM.out]; rfl
          · rw [HZN.out, ← strL_append, HZ.out, item_str _ _ _ _ HGD.out HLM.out]; unfold itemZ; rw [HD.out, HM.out]; rfl
          · rw [HQN.out, HW.out]
            exact (Below.heap_setCell _ _ _ _ (by show b ≠ b + 1; omega)).trans (setCell_block H3.out 0 _)
          · rw [HQN.out, HW.out]
            show _ = some (Obj.cells #[.int .u64 (18446744073709551615 - o), .int .u64 (18446744073709551615 - qb), .int .u64 (18446744073709551615 - qc), .int .u64 (18446744073709551615 - qd)] 23 (0, 0))
            rw [HO.out, HNB.out, HNC.out, HND.out]
            exact setCell_block ((Below.heap_setCell _ _ _ _ (by show b + 1 ≠ b; omega)).trans H4.out) 0 _
          · have hb := HBE.out
            exact ((((((HLR.out.setCell (by show w1.heap.size ≤ b; omega) _).setCell (by show w1.heap.size ≤ b + 1; omega) _).drew).drew).drew).drew)
        case measure => simp only [intOf]; omega
      · have hKI : (c : Int) / 64 = 1 := by omega
        have HW : Hid ((⟨qa, qb, qc, qd⟩ : Q4).with c = { (⟨qa, qb, qc, qd⟩ : Q4) with b := orBit qb k }) := by
          apply Lib.hid; simp only [Q4.with]; rw [if_neg (by omega), if_pos (by omega)]; rw [show c - 64 = k by omega]
        have hob := or_bit' qb k (show U64 qb from ⟨hwb.1, by have := hwb.2; omega⟩) hk64
        have hnt := not_bit qb k hwb hk64
        have hnt : bits BinOp.andNot IntKind.u64 nb (IntKind.u64.wrap (2 ^ k)) = 18446744073709551615 - orBit qb k := hnb ▸ hnt
        have g0 := f0 1
        have g1 := f1 1
        obtain ⟨o, ho⟩ : ∃ o, orBit qb k = o := ⟨_, rfl⟩
        obtain ⟨n, hn⟩ : ∃ n, 18446744073709551615 - o = n := ⟨_, rfl⟩
        rw [ho] at hob hnt HW
        rw [hn] at hnt
        have HO := Lib.hid hn
        clear f0 f1 hk hw4 hc ho hn hna hnb hnc hnd hwa hwb hwc hwd
        go_upto_region 11 with fail
        go_region
        go_upto_region 12 with fail
        go_region
        go_upto_region 13 with fail
        go_region
        go_upto_region 14 with fail
        go_region
        go_wp2_with fail
        go_roundw
        case rel =>
          refine ⟨i + 1, by omega, ?_, ?_, by simp, ?_, ?_, ?_⟩
          · rw [HAN.out, ← strL_append, HA.out, item_str _ _ _ _ HLD.out HGM.out]; unfold itemA; rw [HD.out, HM.out]; rfl
          · rw [HZN.out, ← strL_append, HZ.out, item_str _ _ _ _ HGD.out HLM.out]; unfold itemZ; rw [HD.out, HM.out]; rfl
          · rw [HQN.out, HW.out]
            exact (Below.heap_setCell _ _ _ _ (by show b ≠ b + 1; omega)).trans (setCell_block H3.out 1 _)
          · rw [HQN.out, HW.out]
            show _ = some (Obj.cells #[.int .u64 (18446744073709551615 - qa), .int .u64 (18446744073709551615 - o), .int .u64 (18446744073709551615 - qc), .int .u64 (18446744073709551615 - qd)] 23 (0, 0))
            rw [HNA.out, HO.out, HNC.out, HND.out]
            exact setCell_block ((Below.heap_setCell _ _ _ _ (by show b + 1 ≠ b; omega)).trans H4.out) 1 _
          · have hb := HBE.out
            exact ((((((HLR.out.setCell (by show w1.heap.size ≤ b; omega) _).setCell (by show w1.heap.size ≤ b + 1; omega) _).drew).drew).drew).drew)
        case measure => simp only [intOf]; omega
      · have hKI : (c : Int) / 64 = 2 := by omega
        have HW : Hid ((⟨qa, qb, qc, qd⟩ : Q4).with c = { (⟨qa, qb, qc, qd⟩ : Q4) with c := orBit qc k }) := by
          apply Lib.hid; simp only [Q4.with]; rw [if_neg (by omega), if_neg (by omega), if_pos (by omega)]; rw [show c - 128 = k by omega]
        have hob := or_bit' qc k (show U64 qc from ⟨hwc.1, by have := hwc.2; omega⟩) hk64
        have hnt := not_bit qc k hwc hk64
        have hnt : bits BinOp.andNot IntKind.u64 nc (IntKind.u64.wrap (2 ^ k)) = 18446744073709551615 - orBit qc k := hnc ▸ hnt
        have g0 := f0 2
        have g1 := f1 2
        obtain ⟨o, ho⟩ : ∃ o, orBit qc k = o := ⟨_, rfl⟩
        obtain ⟨n, hn⟩ : ∃ n, 18446744073709551615 - o = n := ⟨_, rfl⟩
        rw [ho] at hob hnt HW
        rw [hn] at hnt
        have HO := Lib.hid hn
        clear f0 f1 hk hw4 hc ho hn hna hnb hnc hnd hwa hwb hwc hwd
        go_upto_region 11 with fail
        go_region
        go_upto_region 12 with fail
        go_region
        go_upto_region 13 with fail
        go_region
        go_upto_region 14 with fail
        go_region
        go_wp2_with fail
        go_roundw
        case rel =>
          refine ⟨i + 1, by omega, ?_, ?_, by simp, ?_, ?_, ?_⟩
          · rw [HAN.out, ← strL_append, HA.out, item_str _ _ _ _ HLD.out HGM.out]; unfold itemA; rw [HD.out, HM.out]; rfl
          · rw [HZN.out, ← strL_append, HZ.out, item_str _ _ _ _ HGD.out HLM.out]; unfold itemZ; rw [HD.out, HM.out]; rfl
          · rw [HQN.out, HW.out]
            exact (Below.heap_setCell _ _ _ _ (by show b ≠ b + 1; omega)).trans (setCell_block H3.out 2 _)
          · rw [HQN.out, HW.out]
            show _ = some (Obj.cells #[.int .u64 (18446744073709551615 - qa), .int .u64 (18446744073709551615 - qb), .int .u64 (18446744073709551615 - o), .int .u64 (18446744073709551615 - qd)] 23 (0, 0))
            rw [HNA.out, HNB.out, HO.out, HND.out]
            exact setCell_block ((Below.heap_setCell _ _ _ _ (by show b + 1 ≠ b; omega)).trans H4.out) 2 _
          · have hb := HBE.out
            exact ((((((HLR.out.setCell (by show w1.heap.size ≤ b; omega) _).setCell (by show w1.heap.size ≤ b + 1; omega) _).drew).drew).drew).drew)
        case measure => simp only [intOf]; omega
      · have hKI : (c : Int) / 64 = 3 := by omega
        have HW : Hid ((⟨qa, qb, qc, qd⟩ : Q4).with c = { (⟨qa, qb, qc, qd⟩ : Q4) with d := orBit qd k }) := by
          apply Lib.hid; simp only [Q4.with]; rw [if_neg (by omega), if_neg (by omega), if_neg (by omega)]; rw [show c - 192 = k by omega]
        have hob := or_bit' qd k (show U64 qd from ⟨hwd.1, by have := hwd.2; omega⟩) hk64
        have hnt := not_bit qd k hwd hk64
        have hnt : bits BinOp.andNot IntKind.u64 nd (IntKind.u64.wrap (2 ^ k)) = 18446744073709551615 - orBit qd k := hnd ▸ hnt
        have g0 := f0 3
        have g1 := f1 3
        obtain ⟨o, ho⟩ : ∃ o, orBit qd k = o := ⟨_, rfl⟩
        obtain ⟨n, hn⟩ : ∃ n, 18446744073709551615 - o = n := ⟨_, rfl⟩
        rw [ho] at hob hnt HW
        rw [hn] at hnt
        have HO := Lib.hid hn
        clear f0 f1 hk hw4 hc ho hn hna hnb hnc hnd hwa hwb hwc hwd
        go_upto_region 11 with fail
        go_region
        go_upto_region 12 with fail
        go_region
        go_upto_region 13 with fail
        go_region
        go_upto_region 14 with fail
        go_region
        go_wp2_with fail
        go_roundw
        case rel =>
          refine ⟨i + 1, by omega, ?_, ?_, by simp, ?_, ?_, ?_⟩
          · rw [HAN.out, ← strL_append, HA.out, item_str _ _ _ _ HLD.out HGM.out]; unfold itemA; rw [HD.out, HM.out]; rfl
          · rw [HZN.out, ← strL_append, HZ.out, item_str _ _ _ _ HGD.out HLM.out]; unfold itemZ; rw [HD.out, HM.out]; rfl
          · rw [HQN.out, HW.out]
            exact (Below.heap_setCell _ _ _ _ (by show b ≠ b + 1; omega)).trans (setCell_block H3.out 3 _)
          · rw [HQN.out, HW.out]
            show _ = some (Obj.cells #[.int .u64 (18446744073709551615 - qa), .int .u64 (18446744073709551615 - qb), .int .u64 (18446744073709551615 - qc), .int .u64 (18446744073709551615 - o)] 23 (0, 0))
            rw [HNA.out, HNB.out, HNC.out, HO.out]
            exact setCell_block ((Below.heap_setCell _ _ _ _ (by show b + 1 ≠ b; omega)).trans H4.out) 3 _
          · have hb := HBE.out
            exact ((((((HLR.out.setCell (by show w1.heap.size ≤ b; omega) _).setCell (by show w1.heap.size ≤ b + 1; omega) _).drew).drew).drew).drew)
        case measure => simp only [intOf]; omega
    · obtain rfl : i = S.size := by omega
      obtain ⟨A, hA⟩ : ∃ A, strL (aheadT S S.size) = A := ⟨_, rfl⟩
      obtain ⟨Z, hZ⟩ : ∃ Z, strL (behindT S S.size) = Z := ⟨_, rfl⟩
      have hA120 : A.size ≤ 120 := by rw [← hA, strL_size, aheadT_length S S.size (Nat.le_refl _)]; have := HS30.out; omega
      have hZ120 : Z.size ≤ 120 := by rw [← hZ, strL_size, behindT_length S S.size (Nat.le_refl _)]; have := HS30.out; omega
      rw [hA, hZ]
      by_cases hz : S.size = 0
      · obtain rfl : S = ⟨#[]⟩ := by apply ByteArray.ext; exact Array.eq_empty_of_size_eq_zero hz
        have HE1 := Lib.hid (fun wx => parse_wrong wx (⟨#[91]⟩ ++ A ++ ⟨#[93]⟩) 50 (by rw [← hA]; exact parse_empty))
        have HE2 := Lib.hid (fun wx => parse_wrong wx (⟨#[91]⟩ ++ Z ++ ⟨#[93]⟩) 50 (by rw [← hZ]; exact parse_empty))
        have HE3 := Lib.hid (fun wx => parse_wrong wx (⟨#[91, 94]⟩ ++ A ++ ⟨#[93]⟩) 50 (by rw [← hA]; exact parse_empty'))
        clear hA hZ hz h3 h4 hi hlt
        go_wp2_with (first
          | (go_at_call 12; (with_reducible refine (HE1.out _).mono ?_); rintro e w2 ⟨rfl, hb2⟩; have hl2 := Later.of hb2; clear hb2)
          | (go_at_call 12; (with_reducible refine (HE2.out _).mono ?_); rintro e w3 ⟨rfl, hb3⟩; have hl3 := Later.of hb3; clear hb3)
          | (go_at_call 12; (with_reducible refine (HE3.out _).mono ?_); rintro e w4 ⟨rfl, hb4⟩; have hl4 := Later.of hb4; clear hb4)
          | fail)
        go_ret
        have hr1 := HLR.out
        have hr2 := HL1.out
        exact ⟨rfl, (by repeat (first | assumption | exact Later.refl _ | refine Later.alloc ?_ _ | refine Later.drew ?_ | refine Later.drewN ?_ _ | refine Later.trans ?_ (by assumption)))⟩
      · obtain ⟨q, hq⟩ : ∃ q, setTo S S.size = q := ⟨_, rfl⟩
        have hbt : (bytesN S).take S.size = bytesN S := by rw [← bytesN_length]; exact List.take_length
        have hne : bytesN S ≠ [] := by intro h; have := congrArg List.length h; rw [bytesN_length] at this; exact hz this
        have hl30 : (bytesN S).length ≤ 30 := by rw [bytesN_length]; exact HS30.out
        have hsl : setL (bytesN S) = q := by rw [← hq]; unfold setTo; rw [hbt]
        have hA2 : A = strL ((bytesN S).flatMap itemA) := by rw [← hA]; unfold aheadT; rw [hbt]
        have hZ2 : Z = strL ((bytesN S).reverse.flatMap itemZ) := by rw [← hZ]; unfold behindT; rw [hbt]
        have hp1 : parseR (⟨#[91]⟩ ++ A ++ ⟨#[93]⟩ : ByteArray).data.toList = .inl (.set q) := by
          rw [hA2, ← hsl, ← parse_items itemA (fun c hc => itemA_is hc) (bytesN_lt S) hne hl30]
          congr 1
        have hp2 : parseR (⟨#[91]⟩ ++ Z ++ ⟨#[93]⟩ : ByteArray).data.toList = .inl (.set q) := by
          rw [hZ2, ← hsl, ← setL_reverse (bytesN_lt S), ← parse_items itemZ (fun c hc => itemZ_is hc) (fun x hx => bytesN_lt S x (List.mem_reverse.1 hx)) (by simpa using hne) (by simpa using hl30)]
          congr 1
        have hp3 : parseR (⟨#[91, 94]⟩ ++ A ++ ⟨#[93]⟩ : ByteArray).data.toList = .inl (.set q.not) := by
          rw [hA2, ← hsl, ← parse_others itemA (fun c hc => itemA_is hc) (bytesN_lt S) hne hl30]
          congr 1
        rw [hq] at h3 h4
        obtain ⟨qa, qb, qc, qd⟩ := q
        obtain ⟨na, hna⟩ : ∃ na, 18446744073709551615 - qa = na := ⟨_, rfl⟩
        obtain ⟨nb, hnb⟩ : ∃ nb, 18446744073709551615 - qb = nb := ⟨_, rfl⟩
        obtain ⟨nc, hnc⟩ : ∃ nc, 18446744073709551615 - qc = nc := ⟨_, rfl⟩
        obtain ⟨nd, hnd⟩ : ∃ nd, 18446744073709551615 - qd = nd := ⟨_, rfl⟩
        simp only [Q4.not, Q4.cells, hna, hnb, hnc, hnd] at h3 h4 hp3
        have HE1 := Lib.hid (fun wx => parse_set wx _ qa qb qc qd hp1)
        have HE2 := Lib.hid (fun wx => parse_set wx _ qa qb qc qd hp2)
        have HE3 := Lib.hid (fun wx => parse_set wx _ na nb nc nd hp3)
        have H3 := Lib.hid h3
        have H4 := Lib.hid h4
        have hsq : same4 qa qb qc qd qa qb qc qd = true := by unfold same4; simp
        have hsn : same4 na nb nc nd na nb nc nd = true := by unfold same4; simp
        have hS0 : ¬ S = ⟨#[]⟩ := by rintro rfl; exact hz rfl
        have hSt : S.toList.isEmpty = false := by
          rw [ByteArray.toList_eq]
          cases hl : S.data.toList with
          | nil => exact absurd (ByteArray.ext (Array.toList_inj.1 (by rw [hl]))) hS0
          | cons _ _ => rfl
        clear hA hZ hz h3 h4 hi hlt hq hbt hne hl30 hsl hA2 hZ2 hp1 hp2 hp3 hna hnb hnc hnd
        go_wp2_with (first
          | (go_at_call 12; (with_reducible refine (HE1.out _).mono ?_); rintro e w2 ⟨aa, ca, rfl, ia, hl2⟩; have h22 : Later w2 (w2.alloc (.cells #[.int .i64 0, .int .i64 0, .int .i64 0, .int .u64 qa, .int .u64 qb, .int .u64 qc, .int .u64 qd, .slice aa 0 ca] 26)) := (Later.refl w2).alloc _; have HIA := Lib.hid (in_later8 ia h22); have HBA := Lib.hid (alloc_block w2 (.cells #[.int .i64 0, .int .i64 0, .int .i64 0, .int .u64 qa, .int .u64 qb, .int .u64 qc, .int .u64 qd, .slice aa 0 ca] 26)); clear ia)
          | (go_at_call 12; (with_reducible refine (HE2.out _).mono ?_); rintro e w3 ⟨ab, cb, rfl, ib, hl3⟩; have h33 : Later w3 (w3.alloc (.cells #[.int .i64 0, .int .i64 0, .int .i64 0, .int .u64 qa, .int .u64 qb, .int .u64 qc, .int .u64 qd, .slice ab 0 cb] 26)) := (Later.refl w3).alloc _; have HIB := Lib.hid (in_later8 ib h33); have HBB := Lib.hid (alloc_block w3 (.cells #[.int .i64 0, .int .i64 0, .int .i64 0, .int .u64 qa, .int .u64 qb, .int .u64 qc, .int .u64 qd, .slice ab 0 cb] 26)); clear ib)
          | (go_at_call 12; (with_reducible refine (HE3.out _).mono ?_); rintro e w4 ⟨ac, cc, rfl, ic, hl4⟩; have h44 : Later w4 (w4.alloc (.cells #[.int .i64 0, .int .i64 0, .int .i64 0, .int .u64 na, .int .u64 nb, .int .u64 nc, .int .u64 nd, .slice ac 0 cc] 26)) := (Later.refl w4).alloc _; have h24 : Later (w2.alloc (.cells #[.int .i64 0, .int .i64 0, .int .i64 0, .int .u64 qa, .int .u64 qb, .int .u64 qc, .int .u64 qd, .slice aa 0 ca] 26)) (w4.alloc (.cells #[.int .i64 0, .int .i64 0, .int .i64 0, .int .u64 na, .int .u64 nb, .int .u64 nc, .int .u64 nd, .slice ac 0 cc] 26)) := (hl3.trans h33).trans (hl4.trans h44); have h34 : Later (w3.alloc (.cells #[.int .i64 0, .int .i64 0, .int .i64 0, .int .u64 qa, .int .u64 qb, .int .u64 qc, .int .u64 qd, .slice ab 0 cb] 26)) (w4.alloc (.cells #[.int .i64 0, .int .i64 0, .int .i64 0, .int .u64 na, .int .u64 nb, .int .u64 nc, .int .u64 nd, .slice ac 0 cc] 26)) := (hl4.trans h44); have hr4 : Later wr (w4.alloc (.cells #[.int .i64 0, .int .i64 0, .int .i64 0, .int .u64 na, .int .u64 nb, .int .u64 nc, .int .u64 nd, .slice ac 0 cc] 26)) := (hl2.trans h22).trans h24; have KA := h24.block HBA.out; have KB := h34.block HBB.out; have KS := hr4.block H3.out; have KR := hr4.block H4.out; clear ic; have ea0 : (w4.alloc (.cells #[.int .i64 0, .int .i64 0, .int .i64 0, .int .u64 na, .int .u64 nb, .int .u64 nc, .int .u64 nd, .slice ac 0 cc] 26)).cell? ⟨w2.heap.size, 0, none⟩ = some (.int .i64 0) := cell_of_block KA 0; have ea1 : (w4.alloc (.cells #[.int .i64 0, .int .i64 0, .int .i64 0, .int .u64 na, .int .u64 nb, .int .u64 nc, .int .u64 nd, .slice ac 0 cc] 26)).cell? ⟨w2.heap.size, 1, none⟩ = some (.int .i64 0) := cell_of_block KA 1; have ea2 : (w4.alloc (.cells #[.int .i64 0, .int .i64 0, .int .i64 0, .int .u64 na, .int .u64 nb, .int .u64 nc, .int .u64 nd, .slice ac 0 cc] 26)).cell? ⟨w2.heap.size, 2, none⟩ = some (.int .i64 0) := cell_of_block KA 2; have ea3 : (w4.alloc (.cells #[.int .i64 0, .int .i64 0, .int .i64 0, .int .u64 na, .int .u64 nb, .int .u64 nc, .int .u64 nd, .slice ac 0 cc] 26)).cell? ⟨w2.heap.size, 3, none⟩ = some (.int .u64 qa) := cell_of_block KA 3; have ea4 : (w4.alloc (.cells #[.int .i64 0, .int .i64 0, .int .i64 0, .int .u64 na, .int .u64 nb, .int .u64 nc, .int .u64 nd, .slice ac 0 cc] 26)).cell? ⟨w2.heap.size, 4, none⟩ = some (.int .u64 qb) := cell_of_block KA 4; have ea5 : (w4.alloc (.cells #[.int .i64 0, .int .i64 0, .int .i64 0, .int .u64 na, .int .u64 nb, .int .u64 nc, .int .u64 nd, .slice ac 0 cc] 26)).cell? ⟨w2.heap.size, 5, none⟩ = some (.int .u64 qc) := cell_of_block KA 5; have ea6 : (w4.alloc (.cells #[.int .i64 0, .int .i64 0, .int .i64 0, .int .u64 na, .int .u64 nb, .int .u64 nc, .int .u64 nd, .slice ac 0 cc] 26)).cell? ⟨w2.heap.size, 6, none⟩ = some (.int .u64 qd) := cell_of_block KA 6; have ea7 : (w4.alloc (.cells #[.int .i64 0, .int .i64 0, .int .i64 0, .int .u64 na, .int .u64 nb, .int .u64 nc, .int .u64 nd, .slice ac 0 cc] 26)).cell? ⟨w2.heap.size, 7, none⟩ = some (.slice aa 0 ca) := cell_of_block KA 7; have eal := lt_of_block KA; have eb0 : (w4.alloc (.cells #[.int .i64 0, .int .i64 0, .int .i64 0, .int .u64 na, .int .u64 nb, .int .u64 nc, .int .u64 nd, .slice ac 0 cc] 26)).cell? ⟨w3.heap.size, 0, none⟩ = some (.int .i64 0) := cell_of_block KB 0; have eb1 : (w4.alloc (.cells #[.int .i64 0, .int .i64 0, .int .i64 0, .int .u64 na, .int .u64 nb, .int .u64 nc, .int .u64 nd, .slice ac 0 cc] 26)).cell? ⟨w3.heap.size, 1, none⟩ = some (.int .i64 0) := cell_of_block KB 1; have eb2 : (w4.alloc (.cells #[.int .i64 0, .int .i64 0, .int .i64 0, .int .u64 na, .int .u64 nb, .int .u64 nc, .int .u64 nd, .slice ac 0 cc] 26)).cell? ⟨w3.heap.size, 2, none⟩ = some (.int .i64 0) := cell_of_block KB 2; have eb3 : (w4.alloc (.cells #[.int .i64 0, .int .i64 0, .int .i64 0, .int .u64 na, .int .u64 nb, .int .u64 nc, .int .u64 nd, .slice ac 0 cc] 26)).cell? ⟨w3.heap.size, 3, none⟩ = some (.int .u64 qa) := cell_of_block KB 3; have eb4 : (w4.alloc (.cells #[.int .i64 0, .int .i64 0, .int .i64 0, .int .u64 na, .int .u64 nb, .int .u64 nc, .int .u64 nd, .slice ac 0 cc] 26)).cell? ⟨w3.heap.size, 4, none⟩ = some (.int .u64 qb) := cell_of_block KB 4; have eb5 : (w4.alloc (.cells #[.int .i64 0, .int .i64 0, .int .i64 0, .int .u64 na, .int .u64 nb, .int .u64 nc, .int .u64 nd, .slice ac 0 cc] 26)).cell? ⟨w3.heap.size, 5, none⟩ = some (.int .u64 qc) := cell_of_block KB 5; have eb6 : (w4.alloc (.cells #[.int .i64 0, .int .i64 0, .int .i64 0, .int .u64 na, .int .u64 nb, .int .u64 nc, .int .u64 nd, .slice ac 0 cc] 26)).cell? ⟨w3.heap.size, 6, none⟩ = some (.int .u64 qd) := cell_of_block KB 6; have eb7 : (w4.alloc (.cells #[.int .i64 0, .int .i64 0, .int .i64 0, .int .u64 na, .int .u64 nb, .int .u64 nc, .int .u64 nd, .slice ac 0 cc] 26)).cell? ⟨w3.heap.size, 7, none⟩ = some (.slice ab 0 cb) := cell_of_block KB 7; have ebl := lt_of_block KB; have es0 : (w4.alloc (.cells #[.int .i64 0, .int .i64 0, .int .i64 0, .int .u64 na, .int .u64 nb, .int .u64 nc, .int .u64 nd, .slice ac 0 cc] 26)).cell? ⟨b, 0, none⟩ = some (.int .u64 qa) := cell_of_block KS 0; have es1 : (w4.alloc (.cells #[.int .i64 0, .int .i64 0, .int .i64 0, .int .u64 na, .int .u64 nb, .int .u64 nc, .int .u64 nd, .slice ac 0 cc] 26)).cell? ⟨b, 1, none⟩ = some (.int .u64 qb) := cell_of_block KS 1; have es2 : (w4.alloc (.cells #[.int .i64 0, .int .i64 0, .int .i64 0, .int .u64 na, .int .u64 nb, .int .u64 nc, .int .u64 nd, .slice ac 0 cc] 26)).cell? ⟨b, 2, none⟩ = some (.int .u64 qc) := cell_of_block KS 2; have es3 : (w4.alloc (.cells #[.int .i64 0, .int .i64 0, .int .i64 0, .int .u64 na, .int .u64 nb, .int .u64 nc, .int .u64 nd, .slice ac 0 cc] 26)).cell? ⟨b, 3, none⟩ = some (.int .u64 qd) := cell_of_block KS 3; have esl := lt_of_block KS; have er0 : (w4.alloc (.cells #[.int .i64 0, .int .i64 0, .int .i64 0, .int .u64 na, .int .u64 nb, .int .u64 nc, .int .u64 nd, .slice ac 0 cc] 26)).cell? ⟨(b + 1), 0, none⟩ = some (.int .u64 na) := cell_of_block KR 0; have er1 : (w4.alloc (.cells #[.int .i64 0, .int .i64 0, .int .i64 0, .int .u64 na, .int .u64 nb, .int .u64 nc, .int .u64 nd, .slice ac 0 cc] 26)).cell? ⟨(b + 1), 1, none⟩ = some (.int .u64 nb) := cell_of_block KR 1; have er2 : (w4.alloc (.cells #[.int .i64 0, .int .i64 0, .int .i64 0, .int .u64 na, .int .u64 nb, .int .u64 nc, .int .u64 nd, .slice ac 0 cc] 26)).cell? ⟨(b + 1), 2, none⟩ = some (.int .u64 nc) := cell_of_block KR 2; have er3 : (w4.alloc (.cells #[.int .i64 0, .int .i64 0, .int .i64 0, .int .u64 na, .int .u64 nb, .int .u64 nc, .int .u64 nd, .slice ac 0 cc] 26)).cell? ⟨(b + 1), 3, none⟩ = some (.int .u64 nd) := cell_of_block KR 3; have erl := lt_of_block KR; have HKR := Lib.hid KR; have HKC := Lib.hid (alloc_block w4 (.cells #[.int .i64 0, .int .i64 0, .int .i64 0, .int .u64 na, .int .u64 nb, .int .u64 nc, .int .u64 nd, .slice ac 0 cc] 26)); clear KA KB KS KR; have HSM := Lib.hid (show Calls Tryd.prog 13 #[.agg #[.int .i64 0, .int .i64 0, .int .i64 0, .int .u64 qa, .int .u64 qb, .int .u64 qc, .int .u64 qd, .slice aa 0 ca], .agg #[.int .i64 0, .int .i64 0, .int .i64 0, .int .u64 qa, .int .u64 qb, .int .u64 qc, .int .u64 qd, .slice ab 0 cb]] (w4.alloc (.cells #[.int .i64 0, .int .i64 0, .int .i64 0, .int .u64 na, .int .u64 nb, .int .u64 nc, .int .u64 nd, .slice ac 0 cc] 26)) fun e w' => e = .returned (.bool true) ∧ Later (w4.alloc (.cells #[.int .i64 0, .int .i64 0, .int .i64 0, .int .u64 na, .int .u64 nb, .int .u64 nc, .int .u64 nd, .slice ac 0 cc] 26)) w' from same_true (RxA.node 0 0 0 qa qb qc qd aa ca []) (RxA.node 0 0 0 qa qb qc qd ab cb []) _ (in_later8 HIA.out h24) (in_later8 HIB.out h34) rfl))
          | (go_at_call 13; (with_reducible refine HSM.out.mono ?_); rintro e w5 ⟨rfl, hl5⟩; have K5 := hl5.block HKR.out; have C5 := hl5.block HKC.out; have fc0 : w5.cell? ⟨w4.heap.size, 0, none⟩ = some (.int .i64 0) := cell_of_block C5 0; have fc1 : w5.cell? ⟨w4.heap.size, 1, none⟩ = some (.int .i64 0) := cell_of_block C5 1; have fc2 : w5.cell? ⟨w4.heap.size, 2, none⟩ = some (.int .i64 0) := cell_of_block C5 2; have fc3 : w5.cell? ⟨w4.heap.size, 3, none⟩ = some (.int .u64 na) := cell_of_block C5 3; have fc4 : w5.cell? ⟨w4.heap.size, 4, none⟩ = some (.int .u64 nb) := cell_of_block C5 4; have fc5 : w5.cell? ⟨w4.heap.size, 5, none⟩ = some (.int .u64 nc) := cell_of_block C5 5; have fc6 : w5.cell? ⟨w4.heap.size, 6, none⟩ = some (.int .u64 nd) := cell_of_block C5 6; have fc7 : w5.cell? ⟨w4.heap.size, 7, none⟩ = some (.slice ac 0 cc) := cell_of_block C5 7; have fcl := lt_of_block C5; have fr0 : w5.cell? ⟨(b + 1), 0, none⟩ = some (.int .u64 na) := cell_of_block K5 0; have fr1 : w5.cell? ⟨(b + 1), 1, none⟩ = some (.int .u64 nb) := cell_of_block K5 1; have fr2 : w5.cell? ⟨(b + 1), 2, none⟩ = some (.int .u64 nc) := cell_of_block K5 2; have fr3 : w5.cell? ⟨(b + 1), 3, none⟩ = some (.int .u64 nd) := cell_of_block K5 3; have frl := lt_of_block K5; clear K5 C5)
          | fail)
        go_ret
        have hr1 := HLR.out
        have hr2 := HL1.out
        exact ⟨rfl, (by repeat (first | assumption | exact Later.refl _ | refine Later.alloc ?_ _ | refine Later.drew ?_ | refine Later.drewN ?_ _ | refine Later.trans ?_ (by assumption)))⟩
end Go.Proofs.YtjhclopdcbnmkaaDoor
