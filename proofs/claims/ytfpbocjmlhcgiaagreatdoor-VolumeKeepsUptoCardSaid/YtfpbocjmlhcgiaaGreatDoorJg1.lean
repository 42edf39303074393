/- Jg1, merged: J1 J2 J3. -/
import Derived.Test.YtfpbocjmlhcgiaaGreatDoorProg
import Derived.WalkKit
import Derived.ProofKit
import Derived.Lib.Hide
import Derived.Lib.ConvBytes
import Derived.OwnWalk
import Derived.BigGuardPart
import Derived.Deep.CutRange
import Derived.Deep.CutBlock
import Derived.WalkSpells
set_option linter.unusedSimpArgs false
set_option linter.unusedVariables false
/- Plain laws of blocks, no program in sight: numbers as bytes, and a block's bytes. -/
namespace Go.Proofs.YtfpbocjmlhcgiaaGreatDoor.PJ

/-- A number in so many bytes, the highest first. -/
def be (n : Nat) : Nat → List UInt8
  | 0 => []
  | k + 1 => UInt8.ofNat (n / 256 ^ k) :: be n k
/-- The number of bytes, the highest first. -/
def ofL (l : List UInt8) : Nat := l.foldl (fun a c => a * 256 + c.toNat) 0
theorem be_len (n : Nat) : ∀ k, (be n k).length = k
  | 0 => rfl
  | k + 1 => by rw [be, List.length_cons, be_len n k]
theorem ofL_snoc (l : List UInt8) (c : UInt8) : ofL (l ++ [c]) = ofL l * 256 + c.toNat := by simp [ofL]
theorem fold_lt : ∀ (l : List UInt8) (a b : Nat), a < b → l.foldl (fun a c => a * 256 + c.toNat) a < b * 256 ^ l.length
  | [], a, b, h => by simpa using h
  | c :: l, a, b, h => by
    have hc := UInt8.toNat_lt c
    have := fold_lt l (a * 256 + c.toNat) (b * 256) (by omega)
    rw [List.foldl_cons, List.length_cons, Nat.pow_succ]
    rw [Nat.mul_assoc, Nat.mul_comm 256] at this
    exact this
theorem ofL_lt (l : List UInt8) : ofL l < 256 ^ l.length := by
  have := fold_lt l 0 1 (by omega)
  rwa [Nat.one_mul] at this
theorem fold_be (n : Nat) : ∀ (k a : Nat), (be n k).foldl (fun a c => a * 256 + c.toNat) a = a * 256 ^ k + n % 256 ^ k
  | 0, a => by simp [be, Nat.mod_one]
  | k + 1, a => by
    have e : (UInt8.ofNat (n / 256 ^ k)).toNat = n / 256 ^ k % 256 := UInt8.toNat_ofNat'
    have h1 : n % 256 ^ (k + 1) = n % 256 ^ k + 256 ^ k * (n / 256 ^ k % 256) := by rw [Nat.pow_succ, Nat.mod_mul]
    rw [be, List.foldl_cons, fold_be n k, e, h1, Nat.pow_succ]
    generalize n / 256 ^ k % 256 = r
    generalize n % 256 ^ k = t
    generalize 256 ^ k = p
    rw [Nat.add_mul, Nat.mul_assoc, Nat.mul_comm 256 p, Nat.mul_comm r p]
    omega
theorem ofL_be (n k : Nat) : ofL (be n k) = n % 256 ^ k := by
  have := fold_be n k 0
  rw [Nat.zero_mul, Nat.zero_add] at this
  exact this
theorem ofL_be_lt {n k : Nat} (h : n < 256 ^ k) : ofL (be n k) = n := by rw [ofL_be, Nat.mod_eq_of_lt h]
/-- Data with noughts behind, in so many bytes. -/
def padT (d : List UInt8) (k : Nat) : List UInt8 := d ++ List.replicate (k - d.length) 0
theorem pad_len {d : List UInt8} {k : Nat} (h : d.length ≤ k) : (padT d k).length = k := by simp [padT]; omega
theorem pad_pad {d : List UInt8} {k : Nat} (h : d.length ≤ k) : padT (padT d k) k = padT d k := by
  have := pad_len h
  rw [padT, this, Nat.sub_self]
  simp
/-- A block's bytes, by a sum. -/
def blockT (sum : List UInt8 → Nat) (d : List UInt8) (st : Nat) : List UInt8 := padT d 116 ++ (be (sum (padT d 116)) 4 ++ be st 8)
theorem block_len (sum : List UInt8 → Nat) {d : List UInt8} (h : d.length ≤ 116) (st : Nat) : (blockT sum d st).length = 128 := by
  simp [blockT, pad_len h, be_len]
theorem block_data (sum : List UInt8 → Nat) {d : List UInt8} (h : d.length ≤ 116) (st : Nat) : (blockT sum d st).take 116 = padT d 116 := by
  rw [blockT, List.take_left' (pad_len h)]
theorem block_sum (sum : List UInt8 → Nat) {d : List UInt8} (h : d.length ≤ 116) (st : Nat) : ((blockT sum d st).drop 116).take 4 = be (sum (padT d 116)) 4 := by
  rw [blockT, List.drop_left' (pad_len h), List.take_left' (be_len _ _)]
theorem block_stamp (sum : List UInt8 → Nat) {d : List UInt8} (h : d.length ≤ 116) (st : Nat) : (blockT sum d st).drop 120 = be st 8 := by
  rw [blockT, ← List.append_assoc, List.drop_left' (by simp [pad_len h, be_len])]
/-- What a sector's bytes tell: the data and the stamp, or that the sum is wrong. -/
def parseT (sum : List UInt8 → Nat) (s : List UInt8) : Option (List UInt8 × Nat) :=
  if ofL (s.drop 120) ≤ 4611686018427387904 ∧ ofL ((s.drop 116).take 4) = sum (s.take 116) then some (s.take 116, ofL (s.drop 120)) else none
theorem parse_block (sum : List UInt8 → Nat) (hs : ∀ l, sum l < 4294967296) {d : List UInt8} (h : d.length ≤ 116) {st : Nat} (hst : st ≤ 4611686018427387904) :
    parseT sum (blockT sum d st) = some (padT d 116, st) := by
  unfold parseT
  rw [block_data sum h, block_sum sum h, block_stamp sum h, ofL_be_lt (k := 8) (Nat.lt_of_le_of_lt hst (by decide)), ofL_be_lt (k := 4) (hs (padT d 116)), if_pos ⟨hst, rfl⟩]
end Go.Proofs.YtfpbocjmlhcgiaaGreatDoor.PJ
/- The walks of code.Sum32 and of numbers as bytes. -/
namespace Go.Proofs.YtfpbocjmlhcgiaaGreatDoor
open Go.RowKit PJ

theorem bits_u32 (op : BinOp) (x y : Int) : 0 ≤ Go.bits op .u32 x y ∧ Go.bits op .u32 x y < 4294967296 := by
  unfold Go.bits
  simp only
  rw [IntKind.wrap_u32]
  omega
/-- A bit's step of the sum. -/
def crcBit (r : Int) : Int := Go.bits .xor .u32 (r / 2) (3988292384 * Go.bits .and .u32 r 1 % 4294967296)
def crcIter : Nat → Int → Int
  | 0, r => r
  | n + 1, r => crcBit (crcIter n r)
def crcTo (l : List UInt8) : Int := l.foldl (fun r c => crcIter 8 (Go.bits .xor .u32 r c.toNat)) 4294967295
def sumI (l : List UInt8) : Int := Go.bits .xor .u32 IntKind.u32.max (crcTo l)
theorem crcBit_bd (r : Int) : 0 ≤ crcBit r ∧ crcBit r < 4294967296 := bits_u32 _ _ _
theorem crcTo_snoc (l : List UInt8) (c : UInt8) : crcTo (l ++ [c]) = crcIter 8 (Go.bits .xor .u32 (crcTo l) c.toNat) := by simp [crcTo]
theorem sumI_bd (l : List UInt8) : 0 ≤ sumI l ∧ sumI l < 4294967296 := bits_u32 _ _ _
def sumN (l : List UInt8) : Nat := (sumI l).toNat
theorem sumN_lt (l : List UInt8) : sumN l < 4294967296 := by have := sumI_bd l; unfold sumN; omega
theorem sumN_eq (l : List UInt8) : ((sumN l : Nat) : Int) = sumI l := by have := sumI_bd l; unfold sumN; omega
theorem get_take (s : ByteArray) {k : Nat} (h : k < s.size) : s.data.toList.take (k + 1) = s.data.toList.take k ++ [s.data.toList.getD k 0] := by
  have h' : k < s.data.toList.length := by rw [Array.length_toList]; exact h
  rw [List.take_succ_eq_append_getElem h', List.getD_eq_getElem?_getD, List.getElem?_eq_getElem h']
  rfl
theorem take_all (s : ByteArray) : s.data.toList.take s.size = s.data.toList := List.take_of_length_le (by rw [Array.length_toList]; exact Nat.le_refl _)
theorem below_bytes (w : World) (e : TypeId) (s : ByteArray) : Below w.heap.size w (Lib.bytesWorld w e s) :=
  ⟨rfl, rfl, rfl, by rw [Lib.bytesWorld_size]; omega, fun k hk => Lib.bytesWorld_at_old _ _ _ _ hk⟩
theorem ret_int {k : IntKind} {a b : Int} (h : a = b) : Ending.returned (.int k a) = .returned (.int k b) := by rw [h]
theorem ret_str {a b : ByteArray} (h : a = b) : Ending.returned (.string a) = .returned (.string b) := by rw [h]

set_option maxRecDepth 100000 in
set_option maxHeartbeats 1000000 in
theorem sum_any (s : ByteArray) (w : World) (hs : s.size ≤ 1000000) :
    Calls Tryz.prog 166 #[.string s] w fun e w' => e = .returned (.int .u32 (sumI s.data.toList)) ∧ Below w.heap.size w w' := by
  have hconv : ∀ W : World, (convert 9 99 (.string s)).run Tryz.prog W = .ok (.slice (some ⟨W.heap.size, 0, none⟩) s.size (grownCap W s.size 0 5)) (Lib.bytesWorld W 5 s) :=
    fun W => Lib.run_convert_string_bytes W _ _ _ s Tryz.underlying9 Tryz.underlying99 Tryz.underlying5
  go_enter Tryz.func166, Tryz.ntmps166
  go_wp2_with fail
  clear hconv
  have hbel := below_bytes w 5 s
  have hcell := fun j (hj : j < s.size) => Lib.bytesWorld_cell w 5 s j hj
  generalize Lib.bytesWorld w 5 s = W at *
  generalize grownCap w s.size 0 5 = cap0
  have HB := Lib.hid hbel
  have HC := Lib.hid hcell
  clear hbel hcell
  go_loop [3, 9] (fun vr vi => ∃ (r : Int) (k : Nat), 0 ≤ r ∧ r < 4294967296 ∧ k ≤ s.size ∧ vi = .int .i64 k ∧ vr = .int .u32 r ∧ Hid (r = crcTo (s.data.toList.take k))) (fun _ vi => s.size - (intOf vi).toNat)
  case atStart => exact ⟨4294967295, 0, by omega, by omega, by omega, rfl, rfl, Lib.hid rfl⟩
  case round =>
    obtain ⟨r, k, hr0, hr1, hk, rfl, rfl, HR⟩ := hrel
    by_cases hlt : k < s.size
    · have hc := HC.out k hlt
      have HT := Lib.hid (get_take s hlt)
      obtain ⟨u, hu⟩ : ∃ u, s.data.toList.getD k 0 = u := ⟨_, rfl⟩
      rw [hu] at hc HT
      obtain ⟨c, hce⟩ : ∃ c : Int, (u.toNat : Int) = c := ⟨_, rfl⟩
      have hc0 : 0 ≤ c ∧ c ≤ 255 := by have := UInt8.toNat_lt u; omega
      rw [hce] at hc
      have HCE := Lib.hid hce
      obtain ⟨r0, hr⟩ : ∃ r0, Go.bits .xor .u32 r c = r0 := ⟨_, rfl⟩
      have hb0 : 0 ≤ r0 ∧ r0 < 4294967296 := by rw [← hr]; exact bits_u32 _ _ _
      clear hce hu
      go_wp2_with fail
      have HR0 := Lib.hid hr
      clear hr hc hr0 hr1
      go_loop [3, 17] (fun vr vi => ∃ (q : Int) (j : Nat), 0 ≤ q ∧ q < 4294967296 ∧ j ≤ 8 ∧ vi = .int .i64 j ∧ vr = .int .u32 q ∧ Hid (q = crcIter j r0)) (fun _ vi => 8 - (intOf vi).toNat)
      case atStart => exact ⟨r0, 0, hb0.1, hb0.2, by omega, rfl, rfl, Lib.hid rfl⟩
      case round =>
        obtain ⟨q, j, hq0, hq1, hj, rfl, rfl, HQ⟩ := hrel
        by_cases hjl : j < 8
        · go_wp2_with fail
          have hbd := crcBit_bd q
          exact ⟨⟨crcBit q, j + 1, hbd.1, hbd.2, by omega, by simp, rfl, Lib.hid (by rw [HQ.out]; rfl)⟩, by simp only [intOf]; omega⟩
        · go_wp2_with fail
          refine ⟨⟨q, k + 1, hq0, hq1, by omega, by simp, rfl, Lib.hid ?_⟩, by simp only [intOf]; omega⟩
          have hj8 : j = 8 := by omega
          rw [HQ.out, hj8, HT.out, crcTo_snoc, ← HR.out, HCE.out, HR0.out]
    · go_wp2_with fail
      go_ret
      refine ⟨ret_int ?_, HB.out⟩
      have hks : k = s.size := by omega
      unfold sumI
      rw [HR.out, hks, take_all]

/-- A step of a number's reading. -/
theorem of_step {n c : Int} (hn : 0 ≤ n) (hn2 : n < 72057594037927936) (hc : 0 ≤ c ∧ c ≤ 255) : Go.bits .or .u64 (n * 256) c = n * 256 + c := by
  unfold Go.bits
  simp only
  have ha : (BitVec.ofInt IntKind.u64.bits (n * 256)).toNat = n.toNat * 256 := by
    rw [BitVec.toNat_ofInt]
    show ((n * 256) % (2 ^ 64 : Nat)).toNat = _
    omega
  have hb : (BitVec.ofInt IntKind.u64.bits c).toNat = c.toNat := by
    rw [BitVec.toNat_ofInt]
    show (c % (2 ^ 64 : Nat)).toNat = _
    omega
  have hor : (n.toNat * 256 ||| c.toNat) = n.toNat * 256 + c.toNat := by
    rw [Nat.mul_comm]
    exact (Nat.two_pow_add_eq_or_of_lt (i := 8) (by show c.toNat < 256; omega) n.toNat).symm
  rw [BitVec.toNat_or, ha, hb, hor, IntKind.wrap_u64]
  omega
theorem str_byte (s : ByteArray) {k : Nat} (h : k < s.size) (W : World) : (Instr.index 9 (.string s) (.int .i64 (k : Int))).run Tryz.prog W = .ok (.int .u8 ((s.data.toList.getD k 0).toNat : Int)) W := by
  have h' : k < s.data.toList.length := by rw [Array.length_toList]; exact h
  have hi : (0 : Int) ≤ (k : Int) ∧ (k : Int) < (s.size : Int) := by omega
  rw [run_index_string (h := Tryz.underlying9), dif_pos hi, List.getD_eq_getElem?_getD, List.getElem?_eq_getElem h']
  rfl
set_option maxRecDepth 100000 in
set_option maxHeartbeats 1000000 in
theorem bof_any (s : ByteArray) (w : World) (hs : s.size ≤ 8) :
    Calls Tryz.prog 212 #[.string s] w fun e w' => e = .returned (.int .u64 (ofL s.data.toList)) ∧ w = w' := by
  go_enter Tryz.func212, Tryz.ntmps212
  go_wp2_with fail
  go_loop [3, 7] (fun vn vi => ∃ (n k : Nat), k ≤ s.size ∧ vi = .int .i64 k ∧ vn = .int .u64 n ∧ Hid (n = ofL (s.data.toList.take k))) (fun _ vi => s.size - (intOf vi).toNat)
  case atStart => exact ⟨0, 0, by omega, rfl, rfl, Lib.hid rfl⟩
  case round =>
    obtain ⟨n, k, hk, rfl, rfl, HN⟩ := hrel
    by_cases hlt : k < s.size
    · have HT := Lib.hid (get_take s hlt)
      have hnb : n < 72057594037927936 := by
        have h1 := ofL_lt (s.data.toList.take k)
        rw [← HN.out, List.length_take] at h1
        have h2 : 256 ^ min k s.data.toList.length ≤ 256 ^ 7 := Nat.pow_le_pow_right (by omega) (by omega)
        have h3 : (256 : Nat) ^ 7 = 72057594037927936 := by decide
        omega
      obtain ⟨u, hu⟩ : ∃ u, s.data.toList.getD k 0 = u := ⟨_, rfl⟩
      rw [hu] at HT
      obtain ⟨c, hce⟩ : ∃ c : Int, (u.toNat : Int) = c := ⟨_, rfl⟩
      have hc0 : 0 ≤ c ∧ c ≤ 255 := by have := UInt8.toNat_lt u; omega
      have hix : ∀ W : World, (Instr.index 9 (.string s) (.int .i64 (k : Int))).run Tryz.prog W = .ok (.int .u8 c) W := by
        intro W
        rw [← hce, ← hu]
        exact str_byte s hlt W
      have hst : Go.bits .or .u64 ((n : Int) * 256) c = (n : Int) * 256 + c := of_step (by omega) (by omega) hc0
      have hst2 : Go.bits .or .u64 (256 * (n : Int)) c = (n : Int) * 256 + c := by rw [Int.mul_comm]; exact hst
      have HCE := Lib.hid hce
      clear hu hce
      go_wp2_with fail
      refine ⟨⟨n * 256 + u.toNat, k + 1, by omega, by simp, ?_, Lib.hid ?_⟩, by simp only [intOf]; omega⟩
      · show Value.int .u64 _ = Value.int .u64 _
        congr 1
        have := HCE.out
        omega
      · rw [HT.out, ofL_snoc, ← HN.out]
    · go_wp2_with fail
      go_ret
      refine ⟨ret_int ?_, rfl⟩
      have hks : k = s.size := by omega
      rw [HN.out, hks, take_all]
set_option maxRecDepth 100000 in
set_option maxHeartbeats 1000000 in
theorem jof_any (s : ByteArray) (w : World) (hs : s.size ≤ 8) :
    Calls Tryz.prog 225 #[.string s] w fun e w' => e = .returned (.int .u64 (ofL s.data.toList)) ∧ w = w' := by
  go_enter Tryz.func225, Tryz.ntmps225
  go_wp2_with fail
  go_loop [3, 7] (fun vn vi => ∃ (n k : Nat), k ≤ s.size ∧ vi = .int .i64 k ∧ vn = .int .u64 n ∧ Hid (n = ofL (s.data.toList.take k))) (fun _ vi => s.size - (intOf vi).toNat)
  case atStart => exact ⟨0, 0, by omega, rfl, rfl, Lib.hid rfl⟩
  case round =>
    obtain ⟨n, k, hk, rfl, rfl, HN⟩ := hrel
    by_cases hlt : k < s.size
    · have HT := Lib.hid (get_take s hlt)
      have hnb : n < 72057594037927936 := by
        have h1 := ofL_lt (s.data.toList.take k)
        rw [← HN.out, List.length_take] at h1
        have h2 : 256 ^ min k s.data.toList.length ≤ 256 ^ 7 := Nat.pow_le_pow_right (by omega) (by omega)
        have h3 : (256 : Nat) ^ 7 = 72057594037927936 := by decide
        omega
      obtain ⟨u, hu⟩ : ∃ u, s.data.toList.getD k 0 = u := ⟨_, rfl⟩
      rw [hu] at HT
      obtain ⟨c, hce⟩ : ∃ c : Int, (u.toNat : Int) = c := ⟨_, rfl⟩
      have hc0 : 0 ≤ c ∧ c ≤ 255 := by have := UInt8.toNat_lt u; omega
      have hix : ∀ W : World, (Instr.index 9 (.string s) (.int .i64 (k : Int))).run Tryz.prog W = .ok (.int .u8 c) W := by
        intro W
        rw [← hce, ← hu]
        exact str_byte s hlt W
      have hst : Go.bits .or .u64 ((n : Int) * 256) c = (n : Int) * 256 + c := of_step (by omega) (by omega) hc0
      have hst2 : Go.bits .or .u64 (256 * (n : Int)) c = (n : Int) * 256 + c := by rw [Int.mul_comm]; exact hst
      have HCE := Lib.hid hce
      clear hu hce
      go_wp2_with fail
      refine ⟨⟨n * 256 + u.toNat, k + 1, by omega, by simp, ?_, Lib.hid ?_⟩, by simp only [intOf]; omega⟩
      · show Value.int .u64 _ = Value.int .u64 _
        congr 1
        have := HCE.out
        omega
      · rw [HT.out, ofL_snoc, ← HN.out]
    · go_wp2_with fail
      go_ret
      refine ⟨ret_int ?_, rfl⟩
      have hks : k = s.size := by omega
      rw [HN.out, hks, take_all]
end Go.Proofs.YtfpbocjmlhcgiaaGreatDoor
/- The walks of a block's reading: stamped, Parse. -/
namespace Go.Proofs.YtfpbocjmlhcgiaaGreatDoor
open Go.RowKit PJ

def stampOf (s : List UInt8) : Nat := ofL (s.drop 120)
theorem ex_list (s : ByteArray) (i j : Nat) : (s.extract i j).data.toList = (s.data.toList.drop i).take (j - i) := by simp
set_option maxRecDepth 100000 in
set_option maxHeartbeats 1000000 in
theorem stamped_any (s : ByteArray) (w : World) (hs : s.size = 128) :
    Calls Tryz.prog 211 #[.string s] w fun e w' => e = .returned (.tuple #[.int .i64 (if stampOf s.data.toList ≤ 4611686018427387904 then stampOf s.data.toList else 0), .bool (decide (stampOf s.data.toList ≤ 4611686018427387904))]) ∧ w = w' := by
  have h1 : 128 ≤ s.size := by omega
  have h2 : s.size ≤ 128 := by omega
  have hsz : (s.extract 120 s.size).size = 8 := by simp; omega
  have hof := fun w1 => bof_any (s.extract 120 s.size) w1 (by omega)
  have hl : ofL (s.extract 120 s.size).data.toList = stampOf s.data.toList := by
    rw [ex_list]
    unfold stampOf
    rw [List.take_of_length_le (by simp)]
  rw [hl] at hof
  have hlt : stampOf s.data.toList < 18446744073709551616 := by
    have := ofL_lt (s.data.toList.drop 120)
    have h3 : (s.data.toList.drop 120).length = 8 := by rw [List.length_drop, Array.length_toList]; show s.size - 120 = 8; omega
    rw [h3] at this
    exact this
  generalize stampOf s.data.toList = n at *
  have HOF := Lib.hid hof
  clear hof hl hs hsz
  by_cases hn : n ≤ 4611686018427387904
  · rw [if_pos hn, decide_eq_true hn]
    have g : ¬ (4611686018427387904 : Int) < (n : Int) := by omega
    have hn2 : (n : Int) ≤ 4611686018427387904 := by omega
    go_enter Tryz.func211, Tryz.ntmps211
    go_wp2_with (first
      | (go_at_call 212; (with_reducible refine (HOF.out _).mono ?_); rintro e w1 ⟨rfl, rfl⟩)
      | fail)
    go_ret2
    exact ⟨rfl, rfl⟩
  · rw [if_neg hn, decide_eq_false hn]
    have g : (4611686018427387904 : Int) < (n : Int) := by omega
    go_enter Tryz.func211, Tryz.ntmps211
    go_wp2_with (first
      | (go_at_call 212; (with_reducible refine (HOF.out _).mono ?_); rintro e w1 ⟨rfl, rfl⟩)
      | fail)
    go_ret2
    exact ⟨rfl, rfl⟩

theorem results_tmp3 {fn : Func} {s t u : Tmp} (h : fn.results = #[.tmp s, .tmp t, .tmp u]) (tmps : Array Value) (P : Program) (w : World) :
    (results fn tmps).run P w = .ok (.tuple #[tmps.getD s undef, tmps.getD t undef, tmps.getD u undef]) w := by
  simp [results, h]
/-- What Parse tells. -/
def ParseSays (s : List UInt8) (e : Ending) : Prop :=
  (∃ d n, parseT sumN s = some (d, n) ∧ e = .returned (.tuple #[.string ⟨d.toArray⟩, .int .i64 (n : Nat), .int .i64 0])) ∨ (parseT sumN s = none ∧ e = .returned (.tuple #[.string ⟨#[]⟩, .int .i64 0, .int .i64 153]))
set_option maxRecDepth 100000 in
set_option maxHeartbeats 1000000 in
theorem bparse_any (s : ByteArray) (w : World) (hs : s.size = 128) :
    Calls Tryz.prog 178 #[.string s] w fun e w' => ParseSays s.data.toList e ∧ Below w.heap.size w w' := by
  have h1 : 128 ≤ s.size := by omega
  have h2 : s.size ≤ 128 := by omega
  have h3 : (120 : Int) ≤ (s.size : Int) := by omega
  have h4 : (116 : Int) ≤ (s.size : Int) := by omega
  have hst := fun w1 => stamped_any s w1 hs
  have hlen : s.data.toList.length = 128 := by rw [Array.length_toList]; exact hs
  obtain ⟨D, hD⟩ : ∃ D, s.extract 0 116 = D := ⟨_, rfl⟩
  obtain ⟨B, hB⟩ : ∃ B, s.extract 116 120 = B := ⟨_, rfl⟩
  have hDd : D.data.toList = s.data.toList.take 116 := by rw [← hD, ex_list]; simp
  have hBd : B.data.toList = (s.data.toList.drop 116).take 4 := by rw [← hB, ex_list]
  have hDs : D.size ≤ 116 := by rw [← hD]; simp; omega
  have hBs : B.size ≤ 8 := by rw [← hB]; simp; omega
  have hof := fun w1 => bof_any B w1 hBs
  have hsm := fun w1 => sum_any D w1 (by omega)
  have hpt : parseT sumN s.data.toList = if stampOf s.data.toList ≤ 4611686018427387904 ∧ ofL B.data.toList = sumN D.data.toList then some (D.data.toList, stampOf s.data.toList) else none := by
    unfold parseT stampOf
    rw [hDd, hBd]
  rw [← sumN_eq] at hsm
  have hsl := sumN_lt D.data.toList
  have hbl : ofL B.data.toList < 4294967296 := by
    have := ofL_lt B.data.toList
    have h3 : B.data.toList.length = 4 := by rw [hBd]; simp; omega
    rw [h3] at this
    exact this
  generalize stampOf s.data.toList = n at *
  generalize hx : ofL B.data.toList = x at *
  generalize hy : sumN D.data.toList = y at *
  have HST := Lib.hid hst
  have HOF := Lib.hid hof
  have HSM := Lib.hid hsm
  have HPT := Lib.hid hpt
  have HD := Lib.hid hD
  have HB := Lib.hid hB
  clear hst hof hsm hpt hDd hBd hx hy hlen hs
  by_cases hn : n ≤ 4611686018427387904
  · have HST2 := Lib.hid (fun w1 => (show Calls Tryz.prog 211 #[.string s] w1 fun e w' => e = .returned (.tuple #[.int .i64 (n : Int), .bool true]) ∧ w1 = w' from by
      have h := HST.out w1
      rw [if_pos hn, decide_eq_true hn] at h
      exact h))
    by_cases hxy : x = y
    · have g : ((x : Int) != (y : Int)) = false := by rw [hxy]; simp
      have HF := Lib.hid (show parseT sumN s.data.toList = some (D.data.toList, n) from by rw [HPT.out, if_pos ⟨hn, hxy⟩])
      clear hxy
      go_enter Tryz.func178, Tryz.ntmps178
      go_wp2_with (first
        | (go_at_call 211; (with_reducible refine (HST2.out _).mono ?_); rintro e w1 ⟨rfl, rfl⟩)
        | (go_at_call 212; (with_reducible refine (HOF.out _).mono ?_); rintro e w1 ⟨rfl, rfl⟩)
        | (go_at_call 166; (with_reducible refine (HSM.out _).mono ?_); rintro e w2 ⟨rfl, hb2⟩)
        | fail)
      refine bodyPost_ret (results_tmp3 rfl _ _ _) rfl ?_
      exact ⟨.inl ⟨_, _, HF.out, rfl⟩, hb2⟩
    · have g : ((x : Int) != (y : Int)) = true := by rw [bne_iff_ne]; omega
      have HF := Lib.hid (show parseT sumN s.data.toList = none from by rw [HPT.out, if_neg (fun h => hxy h.2)])
      clear hxy
      go_enter Tryz.func178, Tryz.ntmps178
      go_wp2_with (first
        | (go_at_call 211; (with_reducible refine (HST2.out _).mono ?_); rintro e w1 ⟨rfl, rfl⟩)
        | (go_at_call 212; (with_reducible refine (HOF.out _).mono ?_); rintro e w1 ⟨rfl, rfl⟩)
        | (go_at_call 166; (with_reducible refine (HSM.out _).mono ?_); rintro e w2 ⟨rfl, hb2⟩)
        | fail)
      refine bodyPost_ret (results_tmp3 rfl _ _ _) rfl ?_
      exact ⟨.inr ⟨HF.out, rfl⟩, hb2⟩
  · have HST2 := Lib.hid (fun w1 => (show Calls Tryz.prog 211 #[.string s] w1 fun e w' => e = .returned (.tuple #[.int .i64 0, .bool false]) ∧ w1 = w' from by
      have h := HST.out w1
      rw [if_neg hn, decide_eq_false hn] at h
      exact h))
    have HF := Lib.hid (show parseT sumN s.data.toList = none from by rw [HPT.out, if_neg (fun h => hn h.1)])
    go_enter Tryz.func178, Tryz.ntmps178
    go_wp2_with (first
      | (go_at_call 211; (with_reducible refine (HST2.out _).mono ?_); rintro e w1 ⟨rfl, rfl⟩)
      | fail)
    refine bodyPost_ret (results_tmp3 rfl _ _ _) rfl ?_
    exact ⟨.inr ⟨HF.out, rfl⟩, Below.refl _ _⟩
end Go.Proofs.YtfpbocjmlhcgiaaGreatDoor
