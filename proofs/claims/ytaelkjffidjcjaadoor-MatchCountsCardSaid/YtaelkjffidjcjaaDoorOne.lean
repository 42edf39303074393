/- The walk of one. -/
import Derived.Test.YtaelkjffidjcjaaDoorHex
import Derived.Shelf.Strings.SlTrimAscii
set_option linter.unusedSimpArgs false
set_option linter.unusedVariables false
namespace Go.Proofs.YtaelkjffidjcjaaDoor
open Go.RowKit PX

/-- What a call of the reader's tells: it gives up, or hands back a value and leaves a rest. -/
def Reads {α : Type} (rb : Nat) (w : World) (o : Option (α × List UInt8)) (V : α → Value) (e : Ending) (w' : World) : Prop :=
  Only (fun k => k = rb) w w' ∧ ((o = none ∧ e = .panicked wrongP) ∨ ∃ x r, o = some (x, r) ∧ e = .returned (V x) ∧ ReadAt w' rb r)
theorem Reads.none {α : Type} {rb : Nat} {w : World} {V : α → Value} {e : Ending} {w' : World} {o : Option (α × List UInt8)} (h : Reads rb w o V e w') (ho : o = none) : e = .panicked wrongP ∧ Only (fun k => k = rb) w w' := by
  subst ho
  rcases h with ⟨h1, ⟨-, h2⟩ | ⟨_, _, h2, -⟩⟩
  · exact ⟨h2, h1⟩
  · cases h2
theorem Reads.some {α : Type} {rb : Nat} {w : World} {V : α → Value} {e : Ending} {w' : World} {o : Option (α × List UInt8)} {x : α} {r : List UInt8} (h : Reads rb w o V e w') (ho : o = some (x, r)) : e = .returned (V x) ∧ ReadAt w' rb r ∧ Only (fun k => k = rb) w w' := by
  subst ho
  rcases h with ⟨h1, ⟨h2, -⟩ | ⟨x', r', h2, h3, h4⟩⟩
  · cases h2
  · cases h2; exact ⟨h3, h4, h1⟩
theorem Only.then {rb : Nat} {a b c : World} (h : Only (fun k => k = rb) a b) (h' : Only (fun k => k = rb) b c) : Only (fun k => k = rb) a c :=
  h.trans (h'.mono fun _ _ hk => .inl hk)
theorem ReadAt.below {w w' : World} {rb : Nat} {l : List UInt8} (h : ReadAt w rb l) (hb : Below w.heap.size w w') : ReadAt w' rb l := by
  unfold ReadAt at h ⊢
  rw [hb.block rb (lt_of_block h)]; exact h

theorem must_yes {b : Bool} (hb : b = true) (w : World) : Calls Tryd.prog 49 #[.bool b] w fun e w' => e = .returned (.tuple #[]) ∧ w' = w := by subst hb; exact must_true w
theorem must_no {b : Bool} (hb : b = false) (w : World) : Calls Tryd.prog 49 #[.bool b] w fun e w' => e = .panicked wrongP ∧ w' = w := by subst hb; exact must_false w
theorem take_yes (w : World) (rb : Nat) (c : UInt8) (r : List UInt8) (h : ReadAt w rb (c :: r)) :
    Calls Tryd.prog 62 #[.pointer (some ⟨rb, 0, none⟩), .string ⟨#[c]⟩] w fun e w' => e = .returned (.bool true) ∧ ReadAt w' rb r ∧ Only (fun k => k = rb) w w' := by
  have h1 := take_any w rb (c :: r) c h
  have e : starts c (c :: r) = true := by simp [starts]
  rw [e] at h1
  exact h1
theorem take_no (w : World) (rb : Nat) (c : UInt8) (l : List UInt8) (h : ReadAt w rb l) (hs : starts c l = false) :
    Calls Tryd.prog 62 #[.pointer (some ⟨rb, 0, none⟩), .string ⟨#[c]⟩] w fun e w' => e = .returned (.bool false) ∧ ReadAt w' rb l ∧ Only (fun k => k = rb) w w' := by
  have h1 := take_any w rb l c h
  rw [hs] at h1
  exact h1

theorem read_cell {w : World} {rb : Nat} {S : ByteArray} (h : w.heap[rb]? = some (.cells #[.string S] 87 (0, 0))) : w.cell? ⟨rb, 0, none⟩ = some (.string S) := cell_of_block h 0
theorem next_reads (w : World) (rb : Nat) (but : ByteArray) (l : List UInt8) (h : ReadAt w rb l) (h92 : starts 92 l = false) :
    Calls Tryd.prog 92 #[.pointer (some ⟨rb, 0, none⟩), .string but] w fun e w' => Reads rb w (one but.data.toList l) (fun n => .int .i64 (n : Nat)) e w' := by
  cases l with
  | nil =>
    refine (next_end w rb but h).mono ?_
    rintro e w' ⟨rfl, rfl⟩
    exact ⟨Only.refl _ _, .inl ⟨rfl, rfl⟩⟩
  | cons c r =>
    simp only [starts, beq_eq_false_iff_ne, ne_eq] at h92
    by_cases hb : c ∈ but.data.toList
    · refine (next_bad w rb but c r h hb).mono ?_
      rintro e w' ⟨rfl, rfl⟩
      exact ⟨Only.refl _ _, .inl ⟨by simp [one, h92, hb], rfl⟩⟩
    · refine (next_ok w rb but c r h hb).mono ?_
      rintro e w' ⟨rfl, h1, h2⟩
      exact ⟨h2, .inr ⟨c.toNat, r, by simp [one, h92, hb], rfl, h1⟩⟩

def hexDigits : List UInt8 := [48, 49, 50, 51, 52, 53, 54, 55, 56, 57, 97, 98, 99, 100, 101, 102, 65, 66, 67, 68, 69, 70]
theorem hex_mem (c : UInt8) : hexDigits.contains c = (hexv c).isSome := by
  have key : ∀ n : Nat, n < 256 → hexDigits.contains (UInt8.ofNat n) = (hexv (UInt8.ofNat n)).isSome := by decide +kernel
  have := key c.toNat (UInt8.toNat_lt _)
  rwa [UInt8.ofNat_toNat] at this
/-- Trim, at two bytes. -/
theorem trim_two (a b : UInt8) (w : World) : Calls Tryd.prog 93 #[.string ⟨#[a, b]⟩, .string ⟨hexDigits.toArray⟩] w fun e w' => ∃ t : ByteArray, e = .returned (.string t) ∧ t.toList.isEmpty = ((hexv a).isSome && (hexv b).isSome) ∧ Below w.heap.size w w' := by
  refine (Any.strings_Trim_laid Tryd.lays160 (by kernel_rfl) ⟨#[a, b]⟩ ⟨hexDigits.toArray⟩ w (by show (2 : Nat) ≤ 9223372036854775807; omega) (by decide) (ascii_of_all (by decide))).mono ?_
  rintro e w' ⟨rfl, hb⟩
  refine ⟨_, rfl, ?_, hb⟩
  rw [Lib.toList_data, ← hex_mem, ← hex_mem]
  have key : ∀ p : UInt8 → Bool, ((([a, b].reverse.dropWhile p).reverse).dropWhile p).isEmpty = (p a && p b) := by
    intro p
    cases ha : p a <;> cases hb : p b <;> simp [List.dropWhile, ha, hb]
  exact key (hexDigits.contains ·)

/-- A reader's string of two bytes or more. -/
theorem two_cut (a b : UInt8) (r : List UInt8) : (⟨(a :: b :: r).toArray⟩ : ByteArray).extract 0 2 = ⟨#[a, b]⟩ := by
  simp [ByteArray.extract_mk]
theorem two_rest (a b : UInt8) (r : List UInt8) : (⟨(a :: b :: r).toArray⟩ : ByteArray).extract 2 (r.length + 2) = ⟨r.toArray⟩ := by
  simp [ByteArray.extract_mk]

set_option maxRecDepth 100000 in
set_option maxHeartbeats 300000 in
theorem one_plain (w : World) (rb : Nat) (but : ByteArray) (l : List UInt8) (h : ReadAt w rb l) (h92 : starts 92 l = false) :
    Calls Tryd.prog 81 #[.pointer (some ⟨rb, 0, none⟩), .string but] w fun e w' => Reads rb w (one but.data.toList l) (fun n => .int .i64 (n : Nat)) e w' := by
  have HT := Lib.hid (take_no w rb 92 l h h92)
  have HN := Lib.hid (fun w1 (h1 : ReadAt w1 rb l) => next_reads w1 rb but l h1 h92)
  clear h
  go_enter Tryd.func81, Tryd.ntmps81
  go_wp2_with (first
    | (go_at_call 62; (with_reducible refine HT.out.mono ?_); rintro e w1 ⟨rfl, h1, o1⟩)
    | (go_at_call 92; refine (HN.out _ h1).mono ?_; rintro e w2 ⟨o2, ⟨hn, rfl⟩ | ⟨n, r, hn, rfl, h2⟩⟩))
  · exact ⟨rfl, o1.then o2, .inl ⟨hn, rfl⟩⟩
  · go_ret
    exact ⟨o1.then o2, .inr ⟨n, r, hn, rfl, h2⟩⟩

def toldR : List UInt8 → Option (Nat × List UInt8)
  | [] => none
  | d :: r => if d ∈ meaningL then some (d.toNat, r) else none
def meaningS : ByteArray := ⟨#[92, 46, 91, 93, 40, 41, 124, 42, 43, 63, 123, 125, 94, 45]⟩
set_option maxRecDepth 100000 in
set_option maxHeartbeats 300000 in
/-- A byte that is told by itself. -/
theorem one_told (w : World) (rb : Nat) (but : ByteArray) (l : List UInt8) (h : ReadAt w rb (92 :: l)) (h120 : starts 120 l = false) :
    Calls Tryd.prog 81 #[.pointer (some ⟨rb, 0, none⟩), .string but] w fun e w' => Reads rb w (one but.data.toList (92 :: l)) (fun n => .int .i64 (n : Nat)) e w' := by
  have HT := Lib.hid (take_yes w rb 92 l h)
  have HT2 := Lib.hid (fun w1 (h1 : ReadAt w1 rb l) => take_no w1 rb 120 l h1 h120)
  have hone : one but.data.toList (92 :: l) = toldR l := by
    cases l with
    | nil => rfl
    | cons d r =>
      simp only [starts, beq_eq_false_iff_ne, ne_eq] at h120
      simp [one, toldR, h120]
  rw [hone]
  clear h hone
  cases l with
  | nil =>
    go_enter Tryd.func81, Tryd.ntmps81
    go_wp2_with (first
      | (go_at_call 62; (with_reducible refine HT.out.mono ?_); rintro e w1 ⟨rfl, h1, o1⟩)
      | (go_at_call 62; (with_reducible refine (HT2.out _ h1).mono ?_); rintro e w2 ⟨rfl, h2, o2⟩; unfold ReadAt at h2; have hc0 : w2.cell? ⟨rb, 0, none⟩ = some (.string ⟨#[]⟩) := by rw [cell_of_block h2]; rfl)
      | (go_at_call 49; refine (must_false _).mono ?_; rintro e w3 ⟨rfl, rfl⟩))
    exact ⟨rfl, o1.then o2, .inl ⟨rfl, rfl⟩⟩
  | cons d r =>
    obtain ⟨S, HS⟩ : ∃ S : ByteArray, Hid ((⟨(d :: r).toArray⟩ : ByteArray) = S) := ⟨_, Lib.hid rfl⟩
    obtain ⟨hne, hem, hsz, hat, -⟩ := full d r HS.out
    have HIDX := Lib.hid (fun w => index_call meaningS d w)
    unfold meaningS at HIDX
    by_cases hm : d ∈ meaningL
    · have HNX := Lib.hid (fun w1 (h1 : ReadAt w1 rb (d :: r)) => next_ok w1 rb ⟨#[]⟩ d r h1 (by simp))
      have HM := Lib.hid hm
      have hto : toldR (d :: r) = some (d.toNat, r) := if_pos hm
      clear hm
      rw [hto]
      clear hto
      go_enter Tryd.func81, Tryd.ntmps81
      go_wp2_with (first
        | (go_at_call 62; (with_reducible refine HT.out.mono ?_); rintro e w1 ⟨rfl, h1, o1⟩)
        | (go_at_call 62; (with_reducible refine (HT2.out _ h1).mono ?_); rintro e w2 ⟨rfl, h2, o2⟩; have HR2 := Lib.hid h2; unfold ReadAt at h2; rw [HS.out] at h2; have hc0 : w2.cell? ⟨rb, 0, none⟩ = some (.string S) := by rw [cell_of_block h2]; rfl)
        | (go_at_call 77; refine (HIDX.out _).mono ?_; rintro e w3 ⟨rfl, n, rfl, hn⟩; have hn0 : 0 ≤ n := by (have := hn.1; rcases Int.lt_or_le n 0 with h | h; exact absurd HM.out (this h); exact h))
        | (go_at_call 49; refine (must_true _).mono ?_; rintro e w3 ⟨rfl, rfl⟩)
        | (go_at_call 92; refine (HNX.out _ HR2.out).mono ?_; rintro e w4 ⟨rfl, h4, o4⟩))
      go_ret
      exact ⟨(o1.then o2).then o4, .inr ⟨d.toNat, r, rfl, rfl, h4⟩⟩
    · have HM := Lib.hid hm
      have hto : toldR (d :: r) = none := if_neg hm
      clear hm
      rw [hto]
      clear hto
      go_enter Tryd.func81, Tryd.ntmps81
      go_wp2_with (first
        | (go_at_call 62; (with_reducible refine HT.out.mono ?_); rintro e w1 ⟨rfl, h1, o1⟩)
        | (go_at_call 62; (with_reducible refine (HT2.out _ h1).mono ?_); rintro e w2 ⟨rfl, h2, o2⟩; unfold ReadAt at h2; rw [HS.out] at h2; have hc0 : w2.cell? ⟨rb, 0, none⟩ = some (.string S) := by rw [cell_of_block h2]; rfl)
        | (go_at_call 77; refine (HIDX.out _).mono ?_; rintro e w3 ⟨rfl, n, rfl, hn⟩; have hn0 : ¬ 0 ≤ n := by (have := hn.2 HM.out; omega))
        | (go_at_call 49; refine (must_no (b := decide (0 ≤ n)) (decide_eq_false (by omega)) _).mono ?_; rintro e w3 ⟨rfl, rfl⟩))
      exact ⟨rfl, o1.then o2, .inl ⟨rfl, rfl⟩⟩

set_option maxRecDepth 100000 in
set_option maxHeartbeats 600000 in
/-- A byte that is told by two digits. -/
theorem one_hex (w : World) (rb : Nat) (but : ByteArray) (l : List UInt8) (h : ReadAt w rb (92 :: 120 :: l)) (hl : l.length ≤ 1000) :
    Calls Tryd.prog 81 #[.pointer (some ⟨rb, 0, none⟩), .string but] w fun e w' => Reads rb w (one but.data.toList (92 :: 120 :: l)) (fun n => .int .i64 (n : Nat)) e w' := by
  have HT := Lib.hid (take_yes w rb 92 (120 :: l) h)
  have HT2 := Lib.hid (fun w1 (h1 : ReadAt w1 rb (120 :: l)) => take_yes w1 rb 120 l h1)
  clear h
  obtain ⟨S, HS⟩ : ∃ S : ByteArray, Hid ((⟨l.toArray⟩ : ByteArray) = S) := ⟨_, Lib.hid rfl⟩
  by_cases h2 : l.length < 2
  · have hone : one but.data.toList (92 :: 120 :: l) = none := by
      match l, h2 with
      | [], _ => rfl
      | [_], _ => rfl
    rw [hone]
    clear hone
    have hsz : S.size = l.length := by rw [← HS.out]; simp [ByteArray.size]
    go_enter Tryd.func81, Tryd.ntmps81
    go_wp2_with (first
      | (go_at_call 62; (with_reducible refine HT.out.mono ?_); rintro e w1 ⟨rfl, h1, o1⟩)
      | (go_at_call 62; (with_reducible refine (HT2.out _ h1).mono ?_); rintro e w2 ⟨rfl, h2', o2⟩; unfold ReadAt at h2'; rw [HS.out] at h2'; have hc0 := read_cell h2')
      | (go_at_call 49; refine (must_no rfl _).mono ?_; rintro e w3 ⟨rfl, rfl⟩))
    exact ⟨rfl, o1.then o2, .inl ⟨rfl, rfl⟩⟩
  · obtain ⟨a, b, r, rfl⟩ : ∃ a b r, l = a :: b :: r := by
      match l, h2 with
      | [], h2 => exact absurd (by simp) h2
      | [_], h2 => exact absurd (by simp) h2
      | a :: b :: r, _ => exact ⟨a, b, r, rfl⟩
    have hsz : S.size = r.length + 2 := by rw [← HS.out]; simp [ByteArray.size]
    have hcut : S.extract 0 2 = ⟨#[a, b]⟩ := by rw [← HS.out]; exact two_cut a b r
    have hrest : S.extract 2 (r.length + 2) = ⟨r.toArray⟩ := by rw [← HS.out]; exact two_rest a b r
    obtain ⟨T, HTT⟩ : ∃ T : ByteArray, Hid ((⟨#[a, b]⟩ : ByteArray) = T) := ⟨_, Lib.hid rfl⟩
    obtain ⟨R, HR⟩ : ∃ R : ByteArray, Hid ((⟨r.toArray⟩ : ByteArray) = R) := ⟨_, Lib.hid rfl⟩
    rw [HTT.out] at hcut
    rw [HR.out] at hrest
    have htr := fun w => trim_two a b w
    rw [HTT.out] at htr
    have HTR := Lib.hid htr; clear htr
    have hb2 : (2 : Int) ≤ (r.length : Int) + 2 := by omega
    clear h2
    cases hv : ((hexv a).isSome && (hexv b).isSome) with
    | false =>
      have hone : one but.data.toList (92 :: 120 :: a :: b :: r) = none := by
        cases hx : hexv a <;> cases hy : hexv b <;> simp [hx, hy] at hv <;> simp [one, hx, hy]
      rw [hone]
      rw [hv] at HTR
      clear hone hv
      go_enter Tryd.func81, Tryd.ntmps81
      go_wp2_with (first
        | (go_at_call 62; (with_reducible refine HT.out.mono ?_); rintro e w1 ⟨rfl, h1, o1⟩)
        | (go_at_call 62; (with_reducible refine (HT2.out _ h1).mono ?_); rintro e w2 ⟨rfl, h2', o2⟩; unfold ReadAt at h2'; rw [HS.out] at h2'; have hc0 := read_cell h2')
        | (go_at_call 93; refine (HTR.out _).mono ?_; rintro e w3 ⟨t, rfl, hte, hb3⟩)
        | (go_at_call 49; refine (must_no rfl _).mono ?_; rintro e w4 ⟨rfl, rfl⟩))
      exact ⟨rfl, (o1.then o2).then (Only.of_below hb3), .inl ⟨rfl, rfl⟩⟩
    | true =>
      obtain ⟨x, hx⟩ : ∃ x, hexv a = some x := Option.isSome_iff_exists.1 (by cases h : hexv a <;> simp [h] at hv ⊢)
      obtain ⟨y, hy⟩ : ∃ y, hexv b = some y := Option.isSome_iff_exists.1 (by cases h : hexv b <;> simp [h] at hv ⊢)
      have hone : one but.data.toList (92 :: 120 :: a :: b :: r) = some (16 * x + y, r) := by simp [one, hx, hy]
      have hn256 : 16 * x + y < 256 := by have := hexv_lt hx; have := hexv_lt hy; omega
      rw [hone]
      clear hone
      have hpx := fun w => hex_any a b x y hx hy w
      rw [HTT.out] at hpx
      rw [hv] at HTR
      obtain ⟨n, hn⟩ : ∃ n : Nat, n = 16 * x + y := ⟨_, rfl⟩
      rw [← hn] at hpx hn256 ⊢
      have HPX := Lib.hid hpx; clear hpx
      clear hx hy hv hn
      go_enter Tryd.func81, Tryd.ntmps81
      go_wp2_with (first
        | (go_at_call 62; (with_reducible refine HT.out.mono ?_); rintro e w1 ⟨rfl, h1, o1⟩)
        | (go_at_call 62; (with_reducible refine (HT2.out _ h1).mono ?_); rintro e w2 ⟨rfl, h2', o2⟩; unfold ReadAt at h2'; rw [HS.out] at h2'; have hc0 := read_cell h2')
        | (go_at_call 93; refine (HTR.out _).mono ?_; rintro e w3 ⟨t, rfl, hte, hb3⟩; have h3 : w3.heap[rb]? = some (.cells #[.string S] 87 (0, 0)) := (hb3.block rb (lt_of_block h2')).trans h2'; have hc3 := read_cell h3)
        | (go_at_call 49; refine (must_yes rfl _).mono ?_; rintro e w4 ⟨rfl, rfl⟩)
        | (go_at_call 94; refine (HPX.out _).mono ?_; rintro e w4 ⟨rfl, hb4⟩; have h4 : w4.heap[rb]? = some (.cells #[.string S] 87 (0, 0)) := (hb4.block rb (lt_of_block h3)).trans h3; have hc4 := read_cell h4; have hf4 := free_of_block h4 0))
      go_ret
      refine ⟨Only.setCell (((o1.then o2).then (Only.of_below hb3)).then (Only.of_below hb4)) (p := ⟨rb, 0, none⟩) (.inl rfl) _, .inr ⟨n, r, rfl, rfl, ?_⟩⟩
      unfold ReadAt
      rw [setCell_block h4, HR.out]; rfl

theorem one_any (w : World) (rb : Nat) (but : ByteArray) (l : List UInt8) (h : ReadAt w rb l) (hl : l.length ≤ 1000) :
    Calls Tryd.prog 81 #[.pointer (some ⟨rb, 0, none⟩), .string but] w fun e w' => Reads rb w (one but.data.toList l) (fun n => .int .i64 (n : Nat)) e w' := by
  cases h92 : starts 92 l with
  | false => exact one_plain w rb but l h h92
  | true =>
    have e := starts_cons h92
    rw [e] at h ⊢
    cases h120 : starts 120 l.tail with
    | false => exact one_told w rb but l.tail h h120
    | true =>
      have e2 := starts_cons h120
      rw [e2] at h ⊢
      exact one_hex w rb but l.tail.tail h (by have := tail_le l; have := tail_le l.tail; omega)
end Go.Proofs.YtaelkjffidjcjaaDoor
