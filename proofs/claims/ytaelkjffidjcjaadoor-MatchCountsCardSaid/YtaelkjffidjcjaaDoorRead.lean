/- The walks of the reader's small functions. -/
import Derived.Test.YtaelkjffidjcjaaDoorOnly
import Derived.Test.YtaelkjffidjcjaaDoorShelf
set_option linter.unusedSimpArgs false
set_option linter.unusedVariables false
namespace Go.Proofs.YtaelkjffidjcjaaDoor
open Go.RowKit PX

/-- What a pattern gives up with. -/
def wrongP : List PanicEntry := [{ v := .iface 83 (.agg #[]), recovered := false }]

theorem must_true (w : World) : Calls Tryd.prog 49 #[.bool true] w fun e w' => e = .returned (.tuple #[]) ∧ w' = w := by
  go_enter Tryd.func49, Tryd.ntmps49
  go_wp2_with fail
  go_end0
  exact ⟨rfl, rfl⟩
theorem must_false (w : World) : Calls Tryd.prog 49 #[.bool false] w fun e w' => e = .panicked wrongP ∧ w' = w := by
  go_enter Tryd.func49, Tryd.ntmps49
  go_wp2_with fail
  exact ⟨rfl, rfl, rfl⟩

/-- A reader, with what is left of its pattern. -/
def ReadAt (w : World) (rb : Nat) (l : List UInt8) : Prop := w.heap[rb]? = some (.cells #[.string ⟨l.toArray⟩] 87 (0, 0))

theorem starts_prefix (l : List UInt8) (c : UInt8) : Lib.hasPrefix l [c] = starts c l := by
  cases l with
  | nil => rfl
  | cons d r =>
    simp only [Lib.hasPrefix, starts, List.isPrefixOf, Bool.and_true]
    by_cases h : c = d
    · subst h; simp
    · rw [beq_eq_false_iff_ne.2 h, beq_eq_false_iff_ne.2 (Ne.symm h)]
theorem trim_prefix (l : List UInt8) (c : UInt8) : Lib.trimPrefix l [c] = if starts c l then l.tail else l := by
  rw [Lib.trimPrefix, starts_prefix]; simp

set_option maxRecDepth 100000 in
set_option maxHeartbeats 1000000 in
/-- take, of one byte. -/
theorem take_any (w : World) (rb : Nat) (l : List UInt8) (c : UInt8) (h : ReadAt w rb l) :
    Calls Tryd.prog 62 #[.pointer (some ⟨rb, 0, none⟩), .string ⟨#[c]⟩] w fun e w' => e = .returned (.bool (starts c l)) ∧ ReadAt w' rb (if starts c l then l.tail else l) ∧ Only (fun k => k = rb) w w' := by
  unfold ReadAt at h ⊢
  have hcut := Tryd.strings_CutPrefix ⟨l.toArray⟩ ⟨#[c]⟩ w
  simp only [] at hcut
  rw [starts_prefix, trim_prefix] at hcut
  obtain ⟨S, HS⟩ : ∃ S : ByteArray, Hid ((⟨l.toArray⟩ : ByteArray) = S) := ⟨_, Lib.hid rfl⟩
  obtain ⟨C, HCC⟩ : ∃ C : ByteArray, Hid ((⟨#[c]⟩ : ByteArray) = C) := ⟨_, Lib.hid rfl⟩
  obtain ⟨R, HR⟩ : ∃ R : ByteArray, Hid ((⟨(if starts c l then l.tail else l).toArray⟩ : ByteArray) = R) := ⟨_, Lib.hid rfl⟩
  rw [HS.out] at h hcut
  rw [HCC.out, HR.out] at hcut
  have hc0 : w.cell? ⟨rb, 0, none⟩ = some (.string S) := by rw [cell_of_block h]; rfl
  have hf0 := free_of_block h 0
  have HB := Lib.hid h; clear h
  have HCUT := Lib.hid hcut; clear hcut
  rw [HCC.out]
  cases hs : starts c l
  · rw [hs] at HCUT
    go_enter Tryd.func62, Tryd.ntmps62
    go_wp2_with (go_at_call 74; refine HCUT.out.mono ?_; rintro e w1 ⟨rfl, rfl⟩)
    go_ret
    refine ⟨rfl, ?_, Only.refl _ _⟩
    rw [HB.out, ← HS.out]
  · rw [hs] at HCUT
    go_enter Tryd.func62, Tryd.ntmps62
    go_wp2_with (go_at_call 74; refine HCUT.out.mono ?_; rintro e w1 ⟨rfl, rfl⟩)
    go_ret
    refine ⟨rfl, ?_, Only.setCell (Only.refl (fun k => k = rb) _) (p := ⟨rb, 0, none⟩) (.inl rfl) _⟩
    rw [setCell_block HB.out, ← HR.out, hs]; simp
theorem indexByte_neg (l : List UInt8) (c : UInt8) : Lib.indexByte l c < 0 ↔ c ∉ l := by
  have := Lib.contains_iff_indexByte l c
  rw [Bool.eq_iff_iff, decide_eq_true_iff, List.contains_iff_mem] at this
  rw [this]; omega
/-- What is left behind the first byte. -/
theorem ba_tail (c : UInt8) (r : List UInt8) : (⟨(c :: r).toArray⟩ : ByteArray).extract 1 (r.length + 1) = ⟨r.toArray⟩ := by
  simp [ByteArray.extract_mk]
theorem ba_ne (c : UInt8) (r : List UInt8) : ¬ (⟨(c :: r).toArray⟩ : ByteArray).toList = [] := by
  rw [Lib.toList_data]; simp

set_option maxRecDepth 100000 in
set_option maxHeartbeats 1000000 in
theorem next_end (w : World) (rb : Nat) (but : ByteArray) (h : ReadAt w rb []) :
    Calls Tryd.prog 92 #[.pointer (some ⟨rb, 0, none⟩), .string but] w fun e w' => e = .panicked wrongP ∧ w' = w := by
  unfold ReadAt at h
  have hc0 : w.cell? ⟨rb, 0, none⟩ = some (.string ⟨#[]⟩) := by rw [cell_of_block h]; rfl
  go_enter Tryd.func92, Tryd.ntmps92
  go_wp2_with (go_at_call 49; refine (must_false _).mono ?_; rintro e w1 ⟨rfl, rfl⟩)
  exact ⟨rfl, rfl, rfl⟩

/-- A reader's string that is not empty, as the walk asks it. -/
structure Full (S : ByteArray) (c : UInt8) (r : List UInt8) : Prop where
  ne : ¬ S.toList = []
  em : S.toList.isEmpty = false
  size : S.size = r.length + 1
  at0 : ∀ h : 0 < S.size, S[0]'h = c
  rest : S.extract 1 (r.length + 1) = ⟨r.toArray⟩
theorem full (c : UInt8) (r : List UInt8) {S : ByteArray} (h : (⟨(c :: r).toArray⟩ : ByteArray) = S) : Full S c r := by
  subst h
  have hne := ba_ne c r
  refine ⟨hne, ?_, rfl, fun _ => rfl, ba_tail c r⟩
  cases h : (⟨(c :: r).toArray⟩ : ByteArray).toList with
  | nil => exact absurd h hne
  | cons _ _ => rfl
theorem wrap_byte (c : UInt8) : wrap64 (c.toNat : Int) = c.toNat := by
  have := UInt8.toNat_lt c
  unfold wrap64; omega
theorem index_call (but : ByteArray) (c : UInt8) (w : World) : Calls Tryd.prog 77 #[.string but, .int .u8 c.toNat] w fun e w' => w' = w ∧ ∃ n : Int, e = .returned (.int .i64 n) ∧ (n < 0 ↔ c ∉ but.data.toList) := by
  refine (Tryd.strings_IndexByte but c.toNat w).mono ?_
  rintro e w' ⟨rfl, rfl⟩
  refine ⟨rfl, _, rfl, ?_⟩
  rw [indexByte_neg]
  simp

set_option maxRecDepth 100000 in
set_option maxHeartbeats 1000000 in
theorem next_bad (w : World) (rb : Nat) (but : ByteArray) (c : UInt8) (r : List UInt8) (h : ReadAt w rb (c :: r)) (hb : c ∈ but.data.toList) :
    Calls Tryd.prog 92 #[.pointer (some ⟨rb, 0, none⟩), .string but] w fun e w' => e = .panicked wrongP ∧ w' = w := by
  unfold ReadAt at h
  obtain ⟨S, HS⟩ : ∃ S : ByteArray, Hid ((⟨(c :: r).toArray⟩ : ByteArray) = S) := ⟨_, Lib.hid rfl⟩
  obtain ⟨hne, hem, hsz, hat, -⟩ := full c r HS.out
  rw [HS.out] at h
  have hc0 : w.cell? ⟨rb, 0, none⟩ = some (.string S) := by rw [cell_of_block h]; rfl
  have HIDX := Lib.hid (index_call but c w)
  go_enter Tryd.func92, Tryd.ntmps92
  go_wp2_with (first
    | (go_at_call 77; refine HIDX.out.mono ?_; rintro e w1 ⟨rfl, n, rfl, hn⟩; have hn0 : ¬ n < 0 := fun h0 => hn.1 h0 hb)
    | (go_at_call 49; refine (must_false _).mono ?_; rintro e w1 ⟨rfl, rfl⟩))
  exact ⟨rfl, rfl, rfl⟩

set_option maxRecDepth 100000 in
set_option maxHeartbeats 1000000 in
theorem next_ok (w : World) (rb : Nat) (but : ByteArray) (c : UInt8) (r : List UInt8) (h : ReadAt w rb (c :: r)) (hb : c ∉ but.data.toList) :
    Calls Tryd.prog 92 #[.pointer (some ⟨rb, 0, none⟩), .string but] w fun e w' => e = .returned (.int .i64 c.toNat) ∧ ReadAt w' rb r ∧ Only (fun k => k = rb) w w' := by
  unfold ReadAt at h ⊢
  obtain ⟨S, HS⟩ : ∃ S : ByteArray, Hid ((⟨(c :: r).toArray⟩ : ByteArray) = S) := ⟨_, Lib.hid rfl⟩
  obtain ⟨hne, hem, hsz, hat, hrest⟩ := full c r HS.out
  obtain ⟨R, HR⟩ : ∃ R : ByteArray, Hid ((⟨r.toArray⟩ : ByteArray) = R) := ⟨_, Lib.hid rfl⟩
  rw [HR.out] at hrest
  rw [HS.out] at h
  have hc0 : w.cell? ⟨rb, 0, none⟩ = some (.string S) := by rw [cell_of_block h]; rfl
  have hf0 := free_of_block h 0
  have HB := Lib.hid h; clear h
  have HIDX := Lib.hid (index_call but c w)
  go_enter Tryd.func92, Tryd.ntmps92
  go_wp2_with (first
    | (go_at_call 77; refine HIDX.out.mono ?_; rintro e w1 ⟨rfl, n, rfl, hn⟩; have hn0 : n < 0 := hn.2 hb)
    | (go_at_call 49; refine (must_true _).mono ?_; rintro e w1 ⟨rfl, rfl⟩))
  go_ret
  refine ⟨ret_int (wrap_byte c), ?_, Only.setCell (Only.refl (fun k => k = rb) _) (p := ⟨rb, 0, none⟩) (.inl rfl) _⟩
  rw [setCell_block HB.out, HR.out]; rfl
end Go.Proofs.YtaelkjffidjcjaaDoor
