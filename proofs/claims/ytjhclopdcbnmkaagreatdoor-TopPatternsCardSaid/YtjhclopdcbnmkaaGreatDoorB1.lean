/- B1, merged: Px Lx Fx. -/
set_option linter.unusedSimpArgs false
set_option linter.unusedVariables false
/- Plain Lean, no program in sight: expressions, their languages, machines, hits and patterns. -/
namespace Go.Proofs.YtjhclopdcbnmkaaGreatDoor.PX
/-! expressions, their languages (no program in sight). -/

/-- An expression: its kind, Min, Max, the four words of its set, its elements. -/
inductive Rx where
  | node (kind mn mx : Int) (s0 s1 s2 s3 : Int) (list : List Rx)

def Rx.kind : Rx → Int | .node k _ _ _ _ _ _ _ => k
def Rx.mn : Rx → Int | .node _ m _ _ _ _ _ _ => m
def Rx.mx : Rx → Int | .node _ _ m _ _ _ _ _ => m
def Rx.list : Rx → List Rx | .node _ _ _ _ _ _ _ l => l

/-- The word of a byte's number. -/
def word (s0 s1 s2 s3 : Int) (b : Nat) : Int := if b < 64 then s0 else if b < 128 then s1 else if b < 192 then s2 else s3
def hasB (s0 s1 s2 s3 : Int) (b : Nat) : Bool := (word s0 s1 s2 s3 b).toNat.testBit (b % 64)

/-- k texts of L one behind the other. -/
def Pow (L : List UInt8 → Prop) : Nat → List UInt8 → Prop
  | 0, s => s = []
  | k + 1, s => ∃ a b, s = a ++ b ∧ L a ∧ Pow L k b

mutual
/-- The language of an expression. -/
def Rx.lang : Rx → List UInt8 → Prop
  | .node kind mn mx s0 s1 s2 s3 l, s =>
    if kind = 0 then ∃ b : UInt8, s = [b] ∧ hasB s0 s1 s2 s3 b.toNat = true
    else if kind = 1 then langSeq l s
    else if kind = 2 then langAlt l s
    else ∃ k : Nat, mn ≤ k ∧ (mx = -1 ∨ (k : Int) ≤ mx) ∧ langRep l k s
def langSeq : List Rx → List UInt8 → Prop
  | [], s => s = []
  | x :: xs, s => ∃ a b, s = a ++ b ∧ x.lang a ∧ langSeq xs b
def langAlt : List Rx → List UInt8 → Prop
  | [], _ => False
  | x :: xs, s => x.lang s ∨ langAlt xs s
def langRep : List Rx → Nat → List UInt8 → Prop
  | [], _, _ => False
  | x :: _, k, s => Pow x.lang k s
end

mutual
def Rx.formB : Rx → Bool
  | .node kind mn mx s0 s1 s2 s3 l =>
    (if kind = 0 then decide (l.length = 0) && decide (¬(s0 = 0 ∧ s1 = 0 ∧ s2 = 0 ∧ s3 = 0)) && decide (mn = 0 ∧ mx = 0)
     else decide (s0 = 0 ∧ s1 = 0 ∧ s2 = 0 ∧ s3 = 0) &&
       (if kind = 1 then decide (l.length ≠ 1) && decide (mn = 0 ∧ mx = 0)
        else if kind = 2 then decide (2 ≤ l.length) && decide (mn = 0 ∧ mx = 0)
        else decide (kind = 3) && decide (l.length = 1) && decide (0 ≤ mn ∧ mn ≤ 15 ∧ mx ≤ 15 ∧ (mx = -1 ∨ mn ≤ mx)))) && formAll l
def formAll : List Rx → Bool
  | [] => true
  | x :: xs => x.formB && formAll xs
end

/-- What an expression itself must be. -/
def Shape (kind mn mx s0 s1 s2 s3 : Int) (len : Nat) : Prop :=
  (kind = 0 ∧ len = 0 ∧ ¬(s0 = 0 ∧ s1 = 0 ∧ s2 = 0 ∧ s3 = 0) ∧ mn = 0 ∧ mx = 0) ∨
  (kind = 1 ∧ (s0 = 0 ∧ s1 = 0 ∧ s2 = 0 ∧ s3 = 0) ∧ len ≠ 1 ∧ mn = 0 ∧ mx = 0) ∨
  (kind = 2 ∧ (s0 = 0 ∧ s1 = 0 ∧ s2 = 0 ∧ s3 = 0) ∧ 2 ≤ len ∧ mn = 0 ∧ mx = 0) ∨
  (kind = 3 ∧ (s0 = 0 ∧ s1 = 0 ∧ s2 = 0 ∧ s3 = 0) ∧ len = 1 ∧ 0 ≤ mn ∧ mn ≤ 15 ∧ mx ≤ 15 ∧ (mx = -1 ∨ mn ≤ mx))
theorem formB_iff (kind mn mx s0 s1 s2 s3 : Int) (l : List Rx) : (Rx.node kind mn mx s0 s1 s2 s3 l).formB = true ↔ Shape kind mn mx s0 s1 s2 s3 l.length ∧ formAll l = true := by
  simp only [Rx.formB, Bool.and_eq_true, Shape]
  constructor
  · rintro ⟨h, hl⟩
    refine ⟨?_, hl⟩
    repeat' split at h
    all_goals
      simp only [Bool.and_eq_true, decide_eq_true_eq] at h
      omega
  · rintro ⟨h, hl⟩
    refine ⟨?_, hl⟩
    repeat' split
    all_goals
      simp only [Bool.and_eq_true, decide_eq_true_eq]
      omega

/-- How often an element counts. -/
def times (kind mn mx : Int) : Int := if kind = 3 then max (max 1 mn) mx else 1
mutual
/-- Of one that may be; 257 of all above 256. -/
def Rx.sizeI : Rx → Int
  | .node kind mn mx _ _ _ _ l => sizeFrom (times kind mn mx) 1 l
def sizeFrom (t : Int) (n : Int) : List Rx → Int
  | [] => n
  | x :: xs => sizeFrom t (min 257 (n + t * x.sizeI)) xs
end
mutual
/-- The size without a bound. -/
def Rx.big : Rx → Int
  | .node kind mn mx _ _ _ _ l => 1 + times kind mn mx * bigAll l
def bigAll : List Rx → Int
  | [] => 0
  | x :: xs => x.big + bigAll xs
end

theorem times_pos (k a b : Int) : 1 ≤ times k a b := by unfold times; split <;> omega
mutual
theorem Rx.big_pos : ∀ x : Rx, 1 ≤ x.big
  | .node k a b _ _ _ _ l => by
    have h := bigAll_nonneg l
    have t := times_pos k a b
    have : 0 ≤ times k a b * bigAll l := Int.mul_nonneg (by omega) h
    simp only [Rx.big]; omega
theorem bigAll_nonneg : ∀ l : List Rx, 0 ≤ bigAll l
  | [] => by simp [bigAll]
  | x :: xs => by
    have := Rx.big_pos x
    have := bigAll_nonneg xs
    simp only [bigAll]; omega
end
mutual
theorem Rx.sizeI_eq : ∀ x : Rx, x.sizeI = min 257 x.big
  | .node k a b _ _ _ _ l => by
    simp only [Rx.sizeI, Rx.big]
    have h := sizeFrom_eq (times k a b) (times_pos k a b) l 1 (by omega) (by omega)
    exact h
theorem sizeFrom_eq (t : Int) (ht : 1 ≤ t) : ∀ (l : List Rx) (n : Int), 1 ≤ n → n ≤ 257 → sizeFrom t n l = min 257 (n + t * bigAll l)
  | [], n, h1, h2 => by simp only [sizeFrom, bigAll]; omega
  | x :: xs, n, h1, h2 => by
    have hx := Rx.sizeI_eq x
    have hp := Rx.big_pos x
    have hq := bigAll_nonneg xs
    have e1 : 1 ≤ t * x.sizeI := by
      have : 1 ≤ x.sizeI := by omega
      calc 1 = 1 * 1 := by omega
        _ ≤ t * x.sizeI := Int.mul_le_mul ht this (by omega) (by omega)
    simp only [sizeFrom, bigAll]
    rw [sizeFrom_eq t ht xs _ (by omega) (by omega), hx, Int.mul_add]
    have m1 : t * (min 257 x.big) ≤ t * x.big := Int.mul_le_mul_of_nonneg_left (by omega) (by omega)
    have m2 : 0 ≤ t * bigAll xs := Int.mul_nonneg (by omega) hq
    by_cases hc : x.big ≤ 257
    · have : min 257 x.big = x.big := by omega
      rw [this]; omega
    · have : min 257 x.big = 257 := by omega
      rw [this] at m1 ⊢
      have : 257 ≤ t * 257 := by omega
      omega
end

/-! machines of expressions, and that their languages are the expressions'. -/

structure St where
  kind : Int
  next : Int
  other : Int
  s0 : Int
  s1 : Int
  s2 : Int
  s3 : Int

def St.eatsB (st : St) (b : UInt8) : Bool := decide (st.kind = 0) && hasB st.s0 st.s1 st.s2 st.s3 b.toNat
def St.split (f o : Nat) : St := ⟨1, f, o, 0, 0, 0, 0⟩

/-- From state i the text s comes to the state 0, in n steps. -/
inductive Acc (G : List St) : Nat → Nat → List UInt8 → Prop where
  | fin : Acc G 0 0 []
  | eat {n i : Nat} {st : St} {b : UInt8} {s : List UInt8} (j : Nat) (h : G[i]? = some st) (e : st.eatsB b = true) (hj : st.next = j) (r : Acc G n j s) : Acc G (n + 1) i (b :: s)
  | left {n i : Nat} {st : St} {s : List UInt8} (j : Nat) (h : G[i]? = some st) (e : st.kind = 1) (hj : st.next = j) (r : Acc G n j s) : Acc G (n + 1) i s
  | right {n i : Nat} {st : St} {s : List UInt8} (j : Nat) (h : G[i]? = some st) (e : st.kind = 1) (hj : st.other = j) (r : Acc G n j s) : Acc G (n + 1) i s

/-- What is laid from f to next says L: of every machine that bears the states from lo to hi. -/
def Frag (g' : List St) (lo hi : Nat) (f next : Nat) (L : List UInt8 → Prop) : Prop :=
  ∀ G : List St, (∀ i, lo ≤ i → i < hi → G[i]? = g'[i]?) →
    (∀ n s, Acc G n f s → ∃ a b m, s = a ++ b ∧ L a ∧ m ≤ n ∧ Acc G m next b) ∧
    (∀ a b n, L a → Acc G n next b → ∃ m, Acc G m f (a ++ b))

/-- n times a fragment ahead. -/
def layTimes (lay : List St → Nat → List St × Nat) : Nat → List St → Nat → List St × Nat
  | 0, g, f => (g, f)
  | n + 1, g, f => let r := lay g f; layTimes lay n r.1 r.2
/-- n times a fragment that may be left out. -/
def layMay (lay : List St → Nat → List St × Nat) (next : Nat) : Nat → List St → Nat → List St × Nat
  | 0, g, f => (g, f)
  | n + 1, g, f => let r := lay g f; layMay lay next n (r.1 ++ [St.split r.2 next]) r.1.length

def layRepOf (lay : List St → Nat → List St × Nat) (mn mx : Int) (g : List St) (next : Nat) : List St × Nat :=
  if mx = -1 then
    let r := lay (g ++ [St.split 0 next]) g.length
    let g2 := r.1.set g.length (St.split r.2 next)
    if 0 < mn then layTimes lay (mn - 1).toNat g2 r.2 else (g2, g.length)
  else
    let r := layMay lay next (mx - mn).toNat g next
    layTimes lay mn.toNat r.1 r.2

mutual
def Rx.lay : Rx → List St → Nat → List St × Nat
  | .node kind mn mx s0 s1 s2 s3 l, g, next =>
    if kind = 0 then (g ++ [⟨0, next, 0, s0, s1, s2, s3⟩], g.length)
    else if kind = 1 then laySeq l g next
    else if kind = 2 then layAlt l g next
    else layRep mn mx l g next
def laySeq : List Rx → List St → Nat → List St × Nat
  | [], g, next => (g, next)
  | x :: xs, g, next => let r := laySeq xs g next; x.lay r.1 r.2
def layAlt : List Rx → List St → Nat → List St × Nat
  | [], g, next => (g, next)
  | x :: xs, g, next => let r := x.lay g next; layMore xs r.1 next r.2
def layMore : List Rx → List St → Nat → Nat → List St × Nat
  | [], g, _, f => (g, f)
  | x :: xs, g, next, f => let r := x.lay g next; layMore xs (r.1 ++ [St.split f r.2]) next r.1.length
def layRep (mn mx : Int) : List Rx → List St → Nat → List St × Nat
  | [], g, next => (g, next)
  | x :: _, g, next => layRepOf x.lay mn mx g next
end

/-- What a laying keeps: what was there stands; all that is new leads to what is there. -/
structure Grows (g : List St) (r : List St × Nat) (next : Nat) : Prop where
  len : g.length ≤ r.1.length
  old : ∀ i, i < g.length → r.1[i]? = g[i]?
  fst : r.2 = next ∨ r.2 < r.1.length

theorem Frag.mono {g g' : List St} {lo hi lo' hi' f next : Nat} {L : List UInt8 → Prop} (h : Frag g lo hi f next L) (h1 : lo' ≤ lo) (h2 : hi ≤ hi')
    (e : ∀ i, lo ≤ i → i < hi → g'[i]? = g[i]?) : Frag g' lo' hi' f next L :=
  fun G hG => h G fun i a b => by rw [hG i (by omega) (by omega), e i a b]

theorem Frag.congr {g : List St} {lo hi f next : Nat} {L L' : List UInt8 → Prop} (h : Frag g lo hi f next L) (e : ∀ s, L s ↔ L' s) : Frag g lo hi f next L' := by
  have : L = L' := funext fun s => propext (e s)
  exact this ▸ h

theorem Frag.nothing (g : List St) (lo hi f : Nat) : Frag g lo hi f f (fun s => s = []) := by
  intro G _
  refine ⟨fun n s h => ⟨[], s, n, rfl, rfl, Nat.le_refl _, h⟩, ?_⟩
  rintro a b n rfl h
  exact ⟨n, h⟩

theorem Frag.seq {g : List St} {lo hi f m next : Nat} {L M : List UInt8 → Prop} (h1 : Frag g lo hi f m L) (h2 : Frag g lo hi m next M) :
    Frag g lo hi f next (fun s => ∃ a b, s = a ++ b ∧ L a ∧ M b) := by
  intro G hG
  obtain ⟨p1, q1⟩ := h1 G hG
  obtain ⟨p2, q2⟩ := h2 G hG
  constructor
  · intro n s h
    obtain ⟨a, b, k, rfl, ha, hk, hb⟩ := p1 n s h
    obtain ⟨c, d, k', rfl, hc, hk', hd⟩ := p2 k b hb
    exact ⟨a ++ c, d, k', by simp, ⟨a, c, rfl, ha, hc⟩, by omega, hd⟩
  · rintro s b n ⟨a, c, rfl, ha, hc⟩ h
    obtain ⟨k, hk⟩ := q2 c b n hc h
    obtain ⟨k', hk'⟩ := q1 a _ k ha hk
    exact ⟨k', by simpa using hk'⟩

/-- A state that leads to two. -/
theorem Frag.either {g : List St} {lo hi i f o next : Nat} {L M : List UInt8 → Prop} (h1 : Frag g lo hi f next L) (h2 : Frag g lo hi o next M)
    (hi1 : lo ≤ i) (hi2 : i < hi) (hs : g[i]? = some (St.split f o)) (h0 : i ≠ 0) : Frag g lo hi i next (fun s => L s ∨ M s) := by
  intro G hG
  obtain ⟨p1, q1⟩ := h1 G hG
  obtain ⟨p2, q2⟩ := h2 G hG
  have hgi : G[i]? = some (St.split f o) := by rw [hG i hi1 hi2, hs]
  constructor
  · intro n s h
    cases h with
    | fin => exact absurd rfl h0
    | eat j h e => rw [hgi] at h; cases h; simp [St.eatsB, St.split] at e
    | left j h e hj r =>
      rw [hgi] at h; cases h
      have : j = f := by simp [St.split] at hj; omega
      subst this
      obtain ⟨a, b, m, rfl, ha, hm, hb⟩ := p1 _ _ r
      exact ⟨a, b, m, rfl, .inl ha, by omega, hb⟩
    | right j h e hj r =>
      rw [hgi] at h; cases h
      have : j = o := by simp [St.split] at hj; omega
      subst this
      obtain ⟨a, b, m, rfl, ha, hm, hb⟩ := p2 _ _ r
      exact ⟨a, b, m, rfl, .inr ha, by omega, hb⟩
  · rintro a b n (ha | ha) h
    · obtain ⟨m, hm⟩ := q1 a b n ha h
      exact ⟨m + 1, .left f hgi rfl rfl hm⟩
    · obtain ⟨m, hm⟩ := q2 a b n ha h
      exact ⟨m + 1, .right o hgi rfl rfl hm⟩

theorem Frag.one {g : List St} {lo hi i next : Nat} {s0 s1 s2 s3 : Int} (hi1 : lo ≤ i) (hi2 : i < hi) (hs : g[i]? = some ⟨0, next, 0, s0, s1, s2, s3⟩) (h0 : i ≠ 0) :
    Frag g lo hi i next (fun s => ∃ b : UInt8, s = [b] ∧ hasB s0 s1 s2 s3 b.toNat = true) := by
  intro G hG
  have hgi : G[i]? = some ⟨0, next, 0, s0, s1, s2, s3⟩ := by rw [hG i hi1 hi2, hs]
  constructor
  · intro n s h
    cases h with
    | fin => exact absurd rfl h0
    | @eat n _ _ b s j h e hj r =>
      rw [hgi] at h; cases h
      have : j = next := by simp at hj; omega
      subst this
      exact ⟨[b], s, n, rfl, ⟨b, rfl, by simpa [St.eatsB] using e⟩, by omega, r⟩
    | left j h e => rw [hgi] at h; cases h; simp at e
    | right j h e => rw [hgi] at h; cases h; simp at e
  · rintro a b n ⟨c, rfl, hc⟩ h
    exact ⟨n + 1, .eat next hgi (by simp [St.eatsB, hc]) rfl h⟩

theorem Pow.add {L : List UInt8 → Prop} : ∀ (k : Nat) {m : Nat} {a b : List UInt8}, Pow L k a → Pow L m b → Pow L (k + m) (a ++ b)
  | 0, m, a, b, ha, hb => by simp only [Pow] at ha; subst ha; simpa using hb
  | k + 1, m, a, b, ha, hb => by
    obtain ⟨c, d, rfl, hc, hd⟩ := ha
    rw [show k + 1 + m = (k + m) + 1 by omega]
    exact ⟨c, d ++ b, by simp, hc, Pow.add k hd hb⟩
theorem Pow.split {L : List UInt8 → Prop} : ∀ (k : Nat) {m : Nat} {s : List UInt8}, Pow L (k + m) s → ∃ a b, s = a ++ b ∧ Pow L k a ∧ Pow L m b
  | 0, m, s, h => ⟨[], s, rfl, rfl, by simpa using h⟩
  | k + 1, m, s, h => by
    rw [show k + 1 + m = (k + m) + 1 by omega] at h
    obtain ⟨c, d, rfl, hc, hd⟩ := h
    obtain ⟨a, b, rfl, ha, hb⟩ := Pow.split k hd
    exact ⟨c ++ a, b, by simp, ⟨c, a, rfl, hc, ha⟩, hb⟩

/-- The loop. -/
theorem Frag.loop {g : List St} {lo hi i body next : Nat} {L : List UInt8 → Prop} (h : Frag g lo hi body i L)
    (hi1 : lo ≤ i) (hi2 : i < hi) (hs : g[i]? = some (St.split body next)) (h0 : i ≠ 0) : Frag g lo hi i next (fun s => ∃ k, Pow L k s) := by
  intro G hG
  obtain ⟨p, q⟩ := h G hG
  have hgi : G[i]? = some (St.split body next) := by rw [hG i hi1 hi2, hs]
  constructor
  · intro n
    induction n using Nat.strongRecOn with
    | _ n ih =>
      intro s h
      cases h with
      | fin => exact absurd rfl h0
      | eat j h e => rw [hgi] at h; cases h; simp [St.eatsB, St.split] at e
      | @left n _ _ _ j h e hj r =>
        rw [hgi] at h; cases h
        have : j = body := by simp [St.split] at hj; omega
        subst this
        obtain ⟨a, b, m, rfl, ha, hm, hb⟩ := p _ _ r
        obtain ⟨c, d, m', rfl, ⟨k, hk⟩, hm', hd⟩ := ih m (by omega) b hb
        exact ⟨a ++ c, d, m', by simp, ⟨k + 1, a, c, rfl, ha, hk⟩, by omega, hd⟩
      | @right n _ _ _ j h e hj r =>
        rw [hgi] at h; cases h
        have : j = next := by simp [St.split] at hj; omega
        subst this
        exact ⟨[], s, n, rfl, ⟨0, rfl⟩, by omega, r⟩
  · rintro a b n ⟨k, hk⟩ hb
    induction k generalizing a with
    | zero =>
      simp only [Pow] at hk; subst hk
      exact ⟨n + 1, .right next hgi rfl rfl hb⟩
    | succ k ih =>
      obtain ⟨c, d, rfl, hc, hd⟩ := hk
      obtain ⟨m, hm⟩ := ih d hd
      obtain ⟨m', hm'⟩ := q c _ m hc hm
      exact ⟨m' + 1, .left body hgi rfl rfl (by simpa using hm')⟩

/-- What a laying does, and that it says L. -/
structure Lays (L : List UInt8 → Prop) (g : List St) (r : List St × Nat) (next : Nat) : Prop where
  len : g.length ≤ r.1.length
  old : ∀ i, i < g.length → r.1[i]? = g[i]?
  fst : r.2 < r.1.length
  frag : Frag r.1 g.length r.1.length r.2 next L

def LaysAll (L : List UInt8 → Prop) (lay : List St → Nat → List St × Nat) : Prop :=
  ∀ g next, 0 < g.length → next < g.length → Lays L g (lay g next) next

theorem layTimes_lays {L : List UInt8 → Prop} {lay : List St → Nat → List St × Nat} (hl : LaysAll L lay) (next : Nat) : ∀ (n : Nat) (M : List UInt8 → Prop) (g0 g : List St) (f : Nat),
    0 < g0.length → Lays M g0 (g, f) next → Lays (fun s => ∃ a b, s = a ++ b ∧ Pow L n a ∧ M b) g0 (layTimes lay n g f) next
  | 0, M, g0, g, f, _, h => by
    refine ⟨h.len, h.old, h.fst, h.frag.congr fun s => ?_⟩
    constructor
    · exact fun hs => ⟨[], s, rfl, rfl, hs⟩
    · rintro ⟨a, b, rfl, ha, hb⟩; simp only [Pow] at ha; subst ha; exact hb
  | n + 1, M, g0, g, f, h0, h => by
    have hlen := h.len
    have hfst := h.fst
    simp only at hlen hfst
    have hx := hl g f (by omega) hfst
    have h' : Lays (fun s => ∃ a b, s = a ++ b ∧ L a ∧ M b) g0 (lay g f) next := by
      refine ⟨Nat.le_trans hlen hx.len, fun i hi => (hx.old i (by omega)).trans (h.old i hi), hx.fst, ?_⟩
      exact Frag.seq (hx.frag.mono hlen (Nat.le_refl _) fun _ _ _ => rfl) (h.frag.mono (Nat.le_refl _) hx.len fun i a b => hx.old i b)
    have := layTimes_lays hl next n _ g0 (lay g f).1 (lay g f).2 h0 h'
    simp only [layTimes]
    refine ⟨this.len, this.old, this.fst, this.frag.congr fun s => ?_⟩
    constructor
    · rintro ⟨a, b, rfl, ha, c, d, rfl, hc, hd⟩
      have := Pow.add n ha (show Pow L 1 c from ⟨c, [], by simp, hc, rfl⟩)
      exact ⟨a ++ c, d, by simp, this, hd⟩
    · rintro ⟨a, b, rfl, ha, hb⟩
      obtain ⟨c, d, rfl, hc, e, e', rfl, he, he'⟩ := Pow.split n (m := 1) ha
      simp only [Pow] at he'; subst he'
      exact ⟨c, e ++ b, by simp, hc, e, b, rfl, he, hb⟩

theorem layMay_lays {L : List UInt8 → Prop} {lay : List St → Nat → List St × Nat} (hl : LaysAll L lay) (next : Nat) (g0 : List St) (h0 : 0 < g0.length) (hn : next < g0.length) : ∀ (n k : Nat) (g : List St) (f : Nat),
    Lays (fun s => ∃ j, j ≤ k ∧ Pow L j s) g0 (g, f) next → Lays (fun s => ∃ j, j ≤ n + k ∧ Pow L j s) g0 (layMay lay next n g f) next
  | 0, k, g, f, h => by simpa [layMay] using h
  | n + 1, k, g, f, h => by
    have hlen := h.len
    have hfst := h.fst
    simp only at hlen hfst
    have hx := hl g f (by omega) hfst
    have hxl := hx.len
    have e1 : ∀ i, i < (lay g f).1.length → ((lay g f).1 ++ [St.split (lay g f).2 next])[i]? = (lay g f).1[i]? := fun i hi => List.getElem?_append_left hi
    have h' : Lays (fun s => ∃ j, j ≤ k + 1 ∧ Pow L j s) g0 ((lay g f).1 ++ [St.split (lay g f).2 next], (lay g f).1.length) next := by
      refine ⟨by simp; omega, fun i hi => (e1 i (by omega)).trans ((hx.old i (by omega)).trans (h.old i hi)), by simp, ?_⟩
      have A : Frag ((lay g f).1 ++ [St.split (lay g f).2 next]) g0.length ((lay g f).1.length + 1) (lay g f).2 next (fun s => ∃ a b, s = a ++ b ∧ L a ∧ ∃ j, j ≤ k ∧ Pow L j b) :=
        Frag.seq (hx.frag.mono hlen (by omega) fun i _ b => e1 i b) (h.frag.mono (Nat.le_refl _) (by show g.length ≤ _; omega) fun i _ b => (e1 i (by have : i < g.length := b; omega)).trans (hx.old i b))
      have B := Frag.either A (Frag.nothing _ g0.length ((lay g f).1.length + 1) next) (i := (lay g f).1.length) (by omega) (by omega) (by simp) (by omega)
      refine (B.mono (Nat.le_refl _) (by simp) fun _ _ _ => rfl).congr fun s => ?_
      constructor
      · rintro (⟨a, b, rfl, ha, j, hj, hb⟩ | rfl)
        · exact ⟨j + 1, by omega, a, b, rfl, ha, hb⟩
        · exact ⟨0, by omega, rfl⟩
      · rintro ⟨j, hj, hs⟩
        cases j with
        | zero => exact .inr hs
        | succ j => obtain ⟨a, b, rfl, ha, hb⟩ := hs; exact .inl ⟨a, b, rfl, ha, j, by omega, hb⟩
    have := layMay_lays hl next g0 h0 hn n (k + 1) _ _ h'
    rw [show n + 1 + k = n + (k + 1) by omega]
    simpa [layMay] using this

theorem layRepOf_lays {L : List UInt8 → Prop} {lay : List St → Nat → List St × Nat} (hl : LaysAll L lay) {mn mx : Int} (h1 : 0 ≤ mn) (h2 : mx = -1 ∨ mn ≤ mx) :
    LaysAll (fun s => ∃ k : Nat, mn ≤ k ∧ (mx = -1 ∨ (k : Int) ≤ mx) ∧ Pow L k s) (fun g next => layRepOf lay mn mx g next) := by
  intro g next h0 hn
  simp only [layRepOf]
  split
  · rename_i hmx
    have hx := hl (g ++ [St.split 0 next]) g.length (by simp) (by simp)
    generalize lay (g ++ [St.split 0 next]) g.length = r at hx
    obtain ⟨hlen, hold, hfst, hfr⟩ := hx
    simp only [List.length_append, List.length_cons, List.length_nil, Nat.zero_add] at hlen hold hfr
    have e1 : ∀ i, i ≠ g.length → (r.1.set g.length (St.split r.2 next))[i]? = r.1[i]? := fun i hi => by rw [List.getElem?_set_ne (by omega)]
    have e2 : (r.1.set g.length (St.split r.2 next))[g.length]? = some (St.split r.2 next) := by rw [List.getElem?_set_self (by omega)]
    have eo : ∀ i, i < g.length → (r.1.set g.length (St.split r.2 next))[i]? = g[i]? := fun i hi => by
      rw [e1 i (by omega), hold i (by omega), List.getElem?_append_left hi]
    have A : Frag (r.1.set g.length (St.split r.2 next)) g.length r.1.length r.2 g.length L := hfr.mono (by omega) (Nat.le_refl _) fun i a _ => e1 i (by omega)
    have B := Frag.loop A (Nat.le_refl _) (by omega) e2 (by omega)
    split
    · rename_i hpos
      have C : Lays (fun s => ∃ a b, s = a ++ b ∧ L a ∧ ∃ k, Pow L k b) g (r.1.set g.length (St.split r.2 next), r.2) next := ⟨by simp; omega, eo, by simpa using hfst, by simpa using Frag.seq A B⟩
      have D := layTimes_lays hl next (mn - 1).toNat _ g _ _ h0 C
      refine ⟨D.len, D.old, D.fst, D.frag.congr fun s => ?_⟩
      constructor
      · rintro ⟨a, b, rfl, ha, c, d, rfl, hc, k, hk⟩
        have := Pow.add (mn - 1).toNat ha (Pow.add 1 (show Pow L 1 c from ⟨c, [], by simp, hc, rfl⟩) hk)
        exact ⟨_, by omega, .inl hmx, this⟩
      · rintro ⟨k, hk, -, hs⟩
        obtain ⟨j, rfl⟩ : ∃ j, k = (mn - 1).toNat + (1 + j) := ⟨k - mn.toNat, by omega⟩
        obtain ⟨a, b, rfl, ha, hb⟩ := Pow.split _ hs
        obtain ⟨c, d, rfl, ⟨c', c'', rfl, hc', hc''⟩, hd⟩ := Pow.split 1 hb
        simp only [Pow] at hc''; subst hc''
        exact ⟨a, _, rfl, ha, c', d, by simp, hc', j, hd⟩
    · rename_i hpos
      have h0' : mn = 0 := by omega
      subst h0'
      refine ⟨by simp; omega, eo, by simp; omega, ?_⟩
      refine (B.mono (Nat.le_refl _) (by simp) fun _ _ _ => rfl).congr fun s => ?_
      constructor
      · rintro ⟨k, hk⟩; exact ⟨k, by omega, .inl hmx, hk⟩
      · rintro ⟨k, -, -, hk⟩; exact ⟨k, hk⟩
  · rename_i hmx
    have hle : mn ≤ mx := by omega
    have A : Lays (fun s => ∃ j, j ≤ 0 ∧ Pow L j s) g (g, next) next := by
      refine ⟨Nat.le_refl _, fun _ _ => rfl, hn, (Frag.nothing g g.length g.length next).congr fun s => ?_⟩
      constructor
      · rintro rfl; exact ⟨0, by omega, rfl⟩
      · rintro ⟨j, hj, hs⟩; have : j = 0 := by omega
        subst this; exact hs
    have B := layMay_lays hl next g h0 hn (mx - mn).toNat 0 g next A
    have C := layTimes_lays hl next mn.toNat _ g _ _ h0 B
    refine ⟨C.len, C.old, C.fst, C.frag.congr fun s => ?_⟩
    constructor
    · rintro ⟨a, b, rfl, ha, j, hj, hb⟩
      exact ⟨_, by omega, .inr (by omega), Pow.add _ ha hb⟩
    · rintro ⟨k, hk, hk', hs⟩
      obtain ⟨j, rfl⟩ : ∃ j, k = mn.toNat + j := ⟨k - mn.toNat, by omega⟩
      obtain ⟨a, b, rfl, ha, hb⟩ := Pow.split _ hs
      exact ⟨a, b, rfl, ha, j, by omega, hb⟩

mutual
theorem Rx.lay_lays : ∀ x : Rx, x.formB = true → LaysAll x.lang x.lay
  | .node kind mn mx s0 s1 s2 s3 l, hf => by
    intro g next h0 hn
    simp only [Rx.formB, Bool.and_eq_true] at hf
    obtain ⟨hk, hl⟩ := hf
    simp only [Rx.lay]
    have hlang : (Rx.node kind mn mx s0 s1 s2 s3 l).lang = fun s => if kind = 0 then ∃ b : UInt8, s = [b] ∧ hasB s0 s1 s2 s3 b.toNat = true
      else if kind = 1 then langSeq l s else if kind = 2 then langAlt l s else ∃ k : Nat, mn ≤ k ∧ (mx = -1 ∨ (k : Int) ≤ mx) ∧ langRep l k s := by funext s; simp only [Rx.lang]
    rw [hlang]
    split
    · rename_i h
      refine ⟨by simp, fun i hi => List.getElem?_append_left hi, by simp, ?_⟩
      exact Frag.one (Nat.le_refl _) (by simp) (by simp) (by omega)
    · rename_i hk0
      simp only [hk0, if_false] at hk ⊢
      split
      · rename_i h
        exact laySeq_lays l hl g next h0 hn
      · rename_i hk1
        simp only [hk1, if_false] at hk ⊢
        split
        · rename_i h
          simp only [h, if_true] at hk ⊢
          cases l with
          | nil => simp at hk
          | cons x xs =>
            simp only [formAll, Bool.and_eq_true] at hl
            have hx := Rx.lay_lays x hl.1 g next h0 hn
            simp only [layAlt]
            exact (layMore_lays xs hl.2 next x.lang g _ _ h0 hn hx)
        · rename_i hk2
          simp only [hk2, if_false, Bool.and_eq_true, decide_eq_true_eq] at hk ⊢
          obtain ⟨-, ⟨hk3, hlen⟩, hb⟩ := hk
          match l, hlen with
          | [x], _ =>
            simp only [formAll, Bool.and_eq_true] at hl
            have := layRepOf_lays (Rx.lay_lays x hl.1) (mn := mn) (mx := mx) hb.1 hb.2.2.2 g next h0 hn
            simpa only [layRep, langRep] using this
theorem laySeq_lays : ∀ l : List Rx, formAll l = true → LaysAll (langSeq l) (laySeq l)
  | [], _ => by
    intro g next h0 hn
    refine ⟨Nat.le_refl _, fun _ _ => rfl, hn, ?_⟩
    exact (Frag.nothing _ _ _ _).congr fun s => by simp [langSeq]
  | x :: xs, hf => by
    intro g next h0 hn
    simp only [formAll, Bool.and_eq_true] at hf
    have h1 := laySeq_lays xs hf.2 g next h0 hn
    have h2 := Rx.lay_lays x hf.1 (laySeq xs g next).1 (laySeq xs g next).2 (by have := h1.len; omega) h1.fst
    simp only [laySeq]
    refine ⟨Nat.le_trans h1.len h2.len, fun i hi => (h2.old i (by have := h1.len; omega)).trans (h1.old i hi), h2.fst, ?_⟩
    refine (Frag.seq (h2.frag.mono h1.len (Nat.le_refl _) fun _ _ _ => rfl) (h1.frag.mono (Nat.le_refl _) h2.len fun i _ b => h2.old i b)).congr fun s => ?_
    simp [langSeq]
theorem layMore_lays : ∀ l : List Rx, formAll l = true → ∀ (next : Nat) (M : List UInt8 → Prop) (g0 g : List St) (f : Nat), 0 < g0.length → next < g0.length → Lays M g0 (g, f) next →
    Lays (fun s => M s ∨ langAlt l s) g0 (layMore l g next f) next
  | [], _, next, M, g0, g, f, _, _, h => by
    simp only [layMore]
    exact ⟨h.len, h.old, h.fst, h.frag.congr fun s => by simp [langAlt]⟩
  | x :: xs, hf, next, M, g0, g, f, h0, hn, h => by
    simp only [formAll, Bool.and_eq_true] at hf
    have hlen := h.len
    have hfst := h.fst
    simp only at hlen hfst
    have hx := Rx.lay_lays x hf.1 g next (by omega) (by omega)
    have hxl := hx.len
    have e1 : ∀ i, i < (x.lay g next).1.length → ((x.lay g next).1 ++ [St.split f (x.lay g next).2])[i]? = (x.lay g next).1[i]? := fun i hi => List.getElem?_append_left hi
    have h' : Lays (fun s => M s ∨ x.lang s) g0 ((x.lay g next).1 ++ [St.split f (x.lay g next).2], (x.lay g next).1.length) next := by
      refine ⟨by simp; omega, fun i hi => (e1 i (by omega)).trans ((hx.old i (by omega)).trans (h.old i hi)), by simp, ?_⟩
      have A : Frag ((x.lay g next).1 ++ [St.split f (x.lay g next).2]) g0.length ((x.lay g next).1.length + 1) f next M :=
        h.frag.mono (Nat.le_refl _) (by show g.length ≤ _; omega) fun i _ b => (e1 i (by have : i < g.length := b; omega)).trans (hx.old i b)
      have B : Frag ((x.lay g next).1 ++ [St.split f (x.lay g next).2]) g0.length ((x.lay g next).1.length + 1) (x.lay g next).2 next x.lang :=
        hx.frag.mono hlen (by omega) fun i _ b => e1 i b
      have C := Frag.either A B (i := (x.lay g next).1.length) (by omega) (by omega) (by simp) (by omega)
      exact C.mono (Nat.le_refl _) (by simp) fun _ _ _ => rfl
    have := layMore_lays xs hf.2 next _ g0 _ _ h0 hn h'
    simp only [layMore]
    exact ⟨this.len, this.old, this.fst, this.frag.congr fun s => by simp [langAlt, or_assoc]⟩
end

/-! a machine's states lead to states; how many there are; sets of states. -/

/-- All states lead to states. -/
def OkG (g : List St) : Prop := ∀ st ∈ g, (st.kind = 0 ∨ st.kind = 1 ∨ st.kind = 2) ∧ 0 ≤ st.next ∧ st.next < g.length ∧ 0 ≤ st.other ∧ st.other < g.length

theorem OkG.snoc {g : List St} (h : OkG g) {st : St} (hk : st.kind = 0 ∨ st.kind = 1 ∨ st.kind = 2) (h1 : 0 ≤ st.next) (h2 : st.next < g.length + 1) (h3 : 0 ≤ st.other) (h4 : st.other < g.length + 1) : OkG (g ++ [st]) := by
  intro x hx
  simp only [List.mem_append, List.mem_singleton, List.length_append, List.length_cons, List.length_nil] at *
  rcases hx with hx | rfl
  · obtain ⟨a, b, c, d, e⟩ := h x hx
    exact ⟨a, b, by omega, d, by omega⟩
  · exact ⟨hk, h1, by omega, h3, by omega⟩
theorem OkG.set {g : List St} (h : OkG g) (i : Nat) {st : St} (hk : st.kind = 0 ∨ st.kind = 1 ∨ st.kind = 2) (h1 : 0 ≤ st.next) (h2 : st.next < g.length) (h3 : 0 ≤ st.other) (h4 : st.other < g.length) : OkG (g.set i st) := by
  intro x hx
  rw [List.length_set]
  rcases List.mem_or_eq_of_mem_set hx with hx | rfl
  · exact h x hx
  · exact ⟨hk, h1, h2, h3, h4⟩

/-- A laying keeps that, and lays at most so many states. -/
structure Sound (g : List St) (r : List St × Nat) (most : Int) : Prop where
  ok : OkG r.1
  fst : r.2 < r.1.length
  len : g.length ≤ r.1.length
  most : (r.1.length : Int) ≤ g.length + most

def SoundAll (most : Int) (lay : List St → Nat → List St × Nat) : Prop := ∀ g next, OkG g → next < g.length → Sound g (lay g next) most

theorem layTimes_sound {lay : List St → Nat → List St × Nat} {c : Int} (hc : 0 ≤ c) (hl : SoundAll c lay) : ∀ (n : Nat) (g : List St) (f : Nat), OkG g → f < g.length → Sound g (layTimes lay n g f) (c * n)
  | 0, g, f, h, hf => ⟨h, hf, Nat.le_refl _, by simp [layTimes]⟩
  | n + 1, g, f, h, hf => by
    obtain ⟨o1, f1, l1, m1⟩ := hl g f h hf
    obtain ⟨o2, f2, l2, m2⟩ := layTimes_sound hc hl n _ _ o1 f1
    simp only [layTimes]
    refine ⟨o2, f2, by omega, ?_⟩
    have : c * ((n + 1 : Nat) : Int) = c * n + c := by simp [Int.mul_add]
    omega
theorem layMay_sound {lay : List St → Nat → List St × Nat} {c : Int} (hc : 0 ≤ c) (hl : SoundAll c lay) (next : Nat) : ∀ (n : Nat) (g : List St) (f : Nat), OkG g → f < g.length → next < g.length → Sound g (layMay lay next n g f) ((c + 1) * n)
  | 0, g, f, h, hf, _ => ⟨h, hf, Nat.le_refl _, by simp [layMay]⟩
  | n + 1, g, f, h, hf, hn => by
    obtain ⟨o1, f1, l1, m1⟩ := hl g f h hf
    have o2 : OkG ((lay g f).1 ++ [St.split (lay g f).2 next]) := o1.snoc (by simp [St.split]) (by simp [St.split]) (by simp [St.split]; omega) (by simp [St.split]) (by simp [St.split]; omega)
    obtain ⟨o3, f3, l3, m3⟩ := layMay_sound hc hl next n _ (lay g f).1.length o2 (by simp) (by simp; omega)
    simp only [List.length_append, List.length_cons, List.length_nil] at l3 m3
    simp only [layMay]
    refine ⟨o3, f3, by omega, ?_⟩
    have : (c + 1) * ((n + 1 : Nat) : Int) = (c + 1) * n + (c + 1) := by simp [Int.mul_add]
    omega
theorem layRepOf_sound {lay : List St → Nat → List St × Nat} {c mn mx : Int} (hc : 0 ≤ c) (hl : SoundAll c lay) (h1 : 0 ≤ mn) (h2 : mx = -1 ∨ mn ≤ mx) :
    SoundAll ((c + 1) * max (max 1 mn) mx) (fun g next => layRepOf lay mn mx g next) := by
  intro g next h hn
  simp only [layRepOf]
  split
  · rename_i hmx
    have o0 : OkG (g ++ [St.split 0 next]) := h.snoc (by simp [St.split]) (by simp [St.split]) (by simp only [St.split]; omega) (by simp [St.split]) (by simp [St.split]; omega)
    obtain ⟨o1, f1, l1, m1⟩ := hl (g ++ [St.split 0 next]) g.length o0 (by simp)
    generalize lay (g ++ [St.split 0 next]) g.length = r at o1 f1 l1 m1
    simp only [List.length_append, List.length_cons, List.length_nil] at l1 m1
    have o2 : OkG (r.1.set g.length (St.split r.2 next)) := o1.set _ (by simp [St.split]) (by simp [St.split]) (by simp [St.split]; omega) (by simp [St.split]) (by simp [St.split]; omega)
    have e : max (max 1 mn) mx = max 1 mn := by omega
    rw [e]
    split
    · rename_i hp
      obtain ⟨o3, f3, l3, m3⟩ := layTimes_sound hc hl (mn - 1).toNat _ r.2 o2 (by simpa using f1)
      simp only [List.length_set] at l3 m3
      refine ⟨o3, f3, by omega, ?_⟩
      have e1 : max 1 mn = ((mn - 1).toNat : Int) + 1 := by omega
      rw [e1, Int.mul_add, Int.add_mul]
      have : 0 ≤ 1 * ((mn - 1).toNat : Int) := by omega
      omega
    · rename_i hp
      refine ⟨o2, by simp; omega, by simp; omega, ?_⟩
      have e1 : max 1 mn = 1 := by omega
      simp only [List.length_set]
      rw [e1]; omega
  · rename_i hmx
    obtain ⟨o1, f1, l1, m1⟩ := layMay_sound hc hl next (mx - mn).toNat g next h hn hn
    obtain ⟨o2, f2, l2, m2⟩ := layTimes_sound hc hl mn.toNat _ _ o1 f1
    refine ⟨o2, f2, by omega, ?_⟩
    have e1 : (c + 1) * (((mx - mn).toNat : Int)) + c * (mn.toNat : Int) ≤ (c + 1) * mx := by
      have : mx = ((mx - mn).toNat : Int) + mn.toNat := by omega
      rw [this, Int.mul_add, Int.add_mul c 1 (mn.toNat : Int)]
      have : (((mx - mn).toNat : Int) + mn.toNat - mn).toNat = (mx - mn).toNat := by omega
      rw [this]; omega
    have e2 : (c + 1) * mx ≤ (c + 1) * max (max 1 mn) mx := Int.mul_le_mul_of_nonneg_left (by omega) (by omega)
    omega

mutual
theorem Rx.lay_sound : ∀ x : Rx, x.formB = true → SoundAll (2 * x.big - 1) x.lay
  | .node kind mn mx s0 s1 s2 s3 l, hf => by
    intro g next h hn
    simp only [Rx.formB, Bool.and_eq_true] at hf
    obtain ⟨hk, hl⟩ := hf
    have hq := bigAll_nonneg l
    simp only [Rx.lay, Rx.big]
    split
    · rename_i h0
      have t : times kind mn mx = 1 := by unfold times; rw [if_neg (by omega)]
      refine ⟨h.snoc (.inl rfl) (Int.natCast_nonneg _) (by show (next : Int) < _; omega) (by simp) (by show (0 : Int) < _; omega), by simp, by simp, ?_⟩
      rw [t]; simp; omega
    · rename_i hk0
      simp only [hk0, if_false] at hk
      split
      · rename_i h1
        have t : times kind mn mx = 1 := by unfold times; rw [if_neg (by omega)]
        obtain ⟨o, f, le, m⟩ := laySeq_sound l hl g next h hn
        exact ⟨o, f, le, by rw [t]; omega⟩
      · rename_i hk1
        simp only [hk1, if_false] at hk
        split
        · rename_i h2
          have t : times kind mn mx = 1 := by unfold times; rw [if_neg (by omega)]
          cases l with
          | nil => simp [h2] at hk
          | cons x xs =>
            simp only [formAll, Bool.and_eq_true] at hl
            obtain ⟨o, f, le, m⟩ := Rx.lay_sound x hl.1 g next h hn
            obtain ⟨o', f', le', m'⟩ := layMore_sound xs hl.2 _ next _ o (by omega) f
            simp only [layAlt, bigAll]
            exact ⟨o', f', by omega, by rw [t]; omega⟩
        · rename_i hk2
          simp only [hk2, if_false, Bool.and_eq_true, decide_eq_true_eq] at hk
          obtain ⟨-, ⟨hk3, hlen⟩, hb⟩ := hk
          match l, hlen with
          | [x], _ =>
            simp only [formAll, Bool.and_eq_true] at hl
            have hp := Rx.big_pos x
            obtain ⟨o, f, le, m⟩ := layRepOf_sound (mn := mn) (mx := mx) (c := 2 * x.big - 1) (by omega) (Rx.lay_sound x hl.1) hb.1 hb.2.2.2 g next h hn
            have t : times kind mn mx = max (max 1 mn) mx := by unfold times; rw [if_pos hk3]
            simp only [layRep, bigAll]
            refine ⟨o, f, le, ?_⟩
            rw [t, Int.add_zero]
            have : (2 * x.big - 1 + 1) * max (max 1 mn) mx = 2 * (max (max 1 mn) mx * x.big) := by
              rw [show 2 * x.big - 1 + 1 = 2 * x.big by omega, Int.mul_assoc, Int.mul_comm x.big]
            simp only at m
            omega
theorem laySeq_sound : ∀ l : List Rx, formAll l = true → SoundAll (2 * bigAll l) (laySeq l)
  | [], _ => fun g next h hn => ⟨h, hn, Nat.le_refl _, by simp [laySeq, bigAll]⟩
  | x :: xs, hf => by
    intro g next h hn
    simp only [formAll, Bool.and_eq_true] at hf
    obtain ⟨o, f, le, m⟩ := laySeq_sound xs hf.2 g next h hn
    obtain ⟨o', f', le', m'⟩ := Rx.lay_sound x hf.1 _ _ o f
    simp only [laySeq, bigAll]
    exact ⟨o', f', by omega, by omega⟩
theorem layMore_sound : ∀ l : List Rx, formAll l = true → ∀ (g : List St) (next f : Nat), OkG g → next < g.length → f < g.length → Sound g (layMore l g next f) (2 * bigAll l)
  | [], _, g, next, f, h, _, hf => ⟨h, hf, Nat.le_refl _, by simp [layMore, bigAll]⟩
  | x :: xs, hf, g, next, f, h, hn, hff => by
    simp only [formAll, Bool.and_eq_true] at hf
    obtain ⟨o, f1, le, m⟩ := Rx.lay_sound x hf.1 g next h hn
    have o2 : OkG ((x.lay g next).1 ++ [St.split f (x.lay g next).2]) := o.snoc (by simp [St.split]) (by simp [St.split]) (by simp [St.split]; omega) (by simp [St.split]) (by simp [St.split]; omega)
    obtain ⟨o', f', le', m'⟩ := layMore_sound xs hf.2 _ next (x.lay g next).1.length o2 (by simp; omega) (by simp)
    simp only [List.length_append, List.length_cons, List.length_nil] at le' m'
    simp only [layMore, bigAll]
    exact ⟨o', f', by omega, by omega⟩
end

/-- Empty steps. -/
inductive Eps (G : List St) : Nat → Nat → Prop where
  | refl (i : Nat) : Eps G i i
  | next {i j : Nat} {st : St} (h : G[i]? = some st) (e : st.kind = 1) (r : Eps G st.next.toNat j) : Eps G i j
  | other {i j : Nat} {st : St} (h : G[i]? = some st) (e : st.kind = 1) (r : Eps G st.other.toNat j) : Eps G i j

theorem Eps.trans {G : List St} {i j k : Nat} (h : Eps G i j) (h' : Eps G j k) : Eps G i k := by
  induction h with
  | refl => exact h'
  | next a b _ ih => exact .next a b (ih h')
  | other a b _ ih => exact .other a b (ih h')

/-- A set to which empty steps add nothing. -/
def Shut (G : List St) (S : Nat → Prop) : Prop := ∀ i st, S i → G[i]? = some st → st.kind = 1 → S st.next.toNat ∧ S st.other.toNat
/-- The set behind a byte. -/
def after (G : List St) (S : Nat → Prop) (b : UInt8) : Nat → Prop := fun j => ∃ i st, S i ∧ G[i]? = some st ∧ st.eatsB b = true ∧ Eps G st.next.toNat j
def run (G : List St) (S : Nat → Prop) : List UInt8 → Nat → Prop
  | [] => S
  | b :: s => run G (after G S b) s
theorem Shut.eps {G : List St} {S : Nat → Prop} (h : Shut G S) {i j : Nat} (e : Eps G i j) (hi : S i) : S j := by
  induction e with
  | refl => exact hi
  | next a b _ ih => exact ih (h _ _ hi a b).1
  | other a b _ ih => exact ih (h _ _ hi a b).2
theorem shut_eps (G : List St) (f : Nat) : Shut G (Eps G f) :=
  fun _ _ hi hg hk => ⟨hi.trans (.next hg hk (.refl _)), hi.trans (.other hg hk (.refl _))⟩
theorem shut_after (G : List St) (S : Nat → Prop) (b : UInt8) : Shut G (after G S b) := by
  rintro i st ⟨j, st', hj, hg, he, e⟩ h hk
  exact ⟨⟨j, st', hj, hg, he, e.trans (.next h hk (.refl _))⟩, ⟨j, st', hj, hg, he, e.trans (.other h hk (.refl _))⟩⟩

/-- From a set a text is accepted just if what is run from it holds the end. -/
theorem run_acc {G : List St} (hG : OkG G) (hend : ∀ st, G[0]? = some st → st.kind = 2) : ∀ (s : List UInt8) (S : Nat → Prop), Shut G S → (run G S s 0 ↔ ∃ i n, S i ∧ Acc G n i s)
  | [], S, hS => by
    constructor
    · exact fun h => ⟨0, 0, h, .fin⟩
    · rintro ⟨i, n, hi, h⟩
      have key : ∀ n i s, Acc G n i s → s = [] → S i → S 0 := by
        intro n i s h
        induction h with
        | fin => exact fun _ h => h
        | eat => intro h; cases h
        | left j h e hj r ih => exact fun he hs => ih he (by have := (hS _ _ hs h e).1; rw [hj] at this; exact this)
        | right j h e hj r ih => exact fun he hs => ih he (by have := (hS _ _ hs h e).2; rw [hj] at this; exact this)
      exact key n i [] h rfl hi
  | b :: s, S, hS => by
    simp only [run]
    rw [run_acc hG hend s _ (shut_after G S b)]
    constructor
    · rintro ⟨i, n, ⟨j, st, hj, hg, he, e⟩, h⟩
      have key : ∀ {i j : Nat}, Eps G i j → ∀ n, Acc G n j s → ∃ m, Acc G m i s := by
        intro i j e
        induction e with
        | refl => exact fun n h => ⟨n, h⟩
        | @next i j st a b' r ih =>
          intro n h
          obtain ⟨m, hm⟩ := ih n h
          exact ⟨m + 1, .left _ a b' (by have := hG st (List.mem_of_getElem? a); omega) hm⟩
        | @other i j st a b' r ih =>
          intro n h
          obtain ⟨m, hm⟩ := ih n h
          exact ⟨m + 1, .right _ a b' (by have := hG st (List.mem_of_getElem? a); omega) hm⟩
      obtain ⟨m, hm⟩ := key e n h
      exact ⟨j, m + 1, hj, .eat _ hg he (by have := hG st (List.mem_of_getElem? hg); omega) hm⟩
    · rintro ⟨i, n, hi, h⟩
      have key : ∀ n i t, Acc G n i t → t = b :: s → S i → ∃ i n, after G S b i ∧ Acc G n i s := by
        intro n i t h
        induction h with
        | fin => intro h; cases h
        | eat j h e hj r _ =>
          intro ht hs
          cases ht
          exact ⟨j, _, ⟨_, _, hs, h, e, by rw [hj]; exact .refl _⟩, r⟩
        | left j h e hj r ih => exact fun he hs => ih he (by have := (hS _ _ hs h e).1; rw [hj] at this; exact this)
        | right j h e hj r ih => exact fun he hs => ih he (by have := (hS _ _ hs h e).2; rw [hj] at this; exact this)
      exact key n i _ h rfl hi

/-- A machine: its states, and its first one. -/
def Rx.machine (x : Rx) : List St × Nat := x.lay [⟨2, 0, 0, 0, 0, 0, 0⟩] 0

theorem Rx.machine_ok (x : Rx) (h : x.formB = true) : OkG x.machine.1 ∧ x.machine.2 < x.machine.1.length ∧ 1 ≤ x.machine.1.length ∧ (x.machine.1.length : Int) ≤ 2 * x.big := by
  have h0 : OkG [⟨2, 0, 0, 0, 0, 0, 0⟩] := by intro st hst; simp only [List.mem_singleton] at hst; subst hst; simp
  obtain ⟨o, f, l, m⟩ := Rx.lay_sound x h [⟨2, 0, 0, 0, 0, 0, 0⟩] 0 h0 (by simp)
  simp only [List.length_cons, List.length_nil] at l m
  exact ⟨o, f, by simpa [machine] using l, by simp only [machine]; omega⟩

theorem Rx.machine_zero (x : Rx) (h : x.formB = true) : x.machine.1[0]? = some ⟨2, 0, 0, 0, 0, 0, 0⟩ := by
  have := (Rx.lay_lays x h [⟨2, 0, 0, 0, 0, 0, 0⟩] 0 (by simp) (by simp)).old 0 (by simp)
  simpa [machine] using this

/-- THE MACHINE's LAW: from the first state's set a text is accepted just if it is in the language. -/
theorem Rx.machine_lang (x : Rx) (h : x.formB = true) (s : List UInt8) : run x.machine.1 (Eps x.machine.1 x.machine.2) s 0 ↔ x.lang s := by
  have hz := x.machine_zero h
  rw [run_acc (x.machine_ok h).1 (by rw [hz]; rintro st ⟨⟩; rfl) s _ (shut_eps _ _)]
  obtain ⟨p, q⟩ := (Rx.lay_lays x h [⟨2, 0, 0, 0, 0, 0, 0⟩] 0 (by simp) (by simp)).frag x.machine.1 (fun _ _ _ => rfl)
  constructor
  · rintro ⟨i, n, hi, ha⟩
    have key : ∀ {i j : Nat}, Eps x.machine.1 i j → ∀ n, Acc x.machine.1 n j s → ∃ m, Acc x.machine.1 m i s := by
      intro i j e
      induction e with
      | refl => exact fun n h => ⟨n, h⟩
      | @next i j st a b' r ih =>
        intro n h'
        obtain ⟨m, hm⟩ := ih n h'
        exact ⟨m + 1, .left _ a b' (by have := (x.machine_ok h).1 st (List.mem_of_getElem? a); omega) hm⟩
      | @other i j st a b' r ih =>
        intro n h'
        obtain ⟨m, hm⟩ := ih n h'
        exact ⟨m + 1, .right _ a b' (by have := (x.machine_ok h).1 st (List.mem_of_getElem? a); omega) hm⟩
    obtain ⟨m, hm⟩ := key hi n ha
    obtain ⟨a, b, k, rfl, hl, -, hb⟩ := p m s hm
    have : b = [] := by
      cases hb with
      | fin => rfl
      | eat j h1 e => rw [hz] at h1; cases h1; simp [St.eatsB] at e
      | left j h1 e => rw [hz] at h1; cases h1; simp at e
      | right j h1 e => rw [hz] at h1; cases h1; simp at e
    subst this
    simpa using hl
  · intro hl
    obtain ⟨m, hm⟩ := q s [] 0 hl .fin
    exact ⟨_, m, .refl _, by simpa [Rx.machine] using hm⟩

/-! where texts end; hits. -/

/-- The bytes of s from i up to k. -/
def sub (s : List UInt8) (i k : Nat) : List UInt8 := (s.take k).drop i

theorem sub_len (s : List UInt8) (i k : Nat) (hk : k ≤ s.length) : (sub s i k).length = k - i := by
  simp only [sub, List.length_drop, List.length_take]; omega
theorem sub_self (s : List UInt8) (i : Nat) : sub s i i = [] := by
  simp only [sub]; rw [List.drop_eq_nil_iff]; simp; omega
theorem sub_append (s : List UInt8) {i j k : Nat} (h1 : i ≤ j) (h2 : j ≤ k) : sub s i j ++ sub s j k = sub s i k := by
  apply List.ext_getElem?
  intro n
  simp only [sub, List.getElem?_append, List.getElem?_drop, List.getElem?_take, List.length_drop, List.length_take]
  by_cases hn : n < min j s.length - i
  · rw [if_pos hn, if_pos (by omega), if_pos (by omega)]
  · rw [if_neg hn]
    by_cases hjs : j ≤ s.length
    · rw [show j + (n - (min j s.length - i)) = i + n by omega]
    · have e1 : s[j + (n - (min j s.length - i))]? = none := by rw [List.getElem?_eq_none_iff]; omega
      have e2 : s[i + n]? = none := by rw [List.getElem?_eq_none_iff]; omega
      rw [e1, e2]; simp
theorem sub_split (s : List UInt8) {i k : Nat} {a b : List UInt8} (hik : i ≤ k) (hk : k ≤ s.length) (h : sub s i k = a ++ b) : ∃ j, i ≤ j ∧ j ≤ k ∧ a = sub s i j ∧ b = sub s j k := by
  have hl : (sub s i k).length = k - i := sub_len s i k hk
  rw [h, List.length_append] at hl
  refine ⟨i + a.length, by omega, by omega, ?_, ?_⟩
  · have h2 := sub_append s (show i ≤ i + a.length by omega) (show i + a.length ≤ k by omega)
    rw [h] at h2
    have h3 : (sub s i (i + a.length)).length = a.length := by rw [sub_len _ _ _ (by omega)]; omega
    exact ((List.append_inj h2 h3).1).symm
  · have h2 := sub_append s (show i ≤ i + a.length by omega) (show i + a.length ≤ k by omega)
    rw [h] at h2
    have h3 : (sub s i (i + a.length)).length = a.length := by rw [sub_len _ _ _ (by omega)]; omega
    exact ((List.append_inj h2 h3).2).symm
theorem sub_one (s : List UInt8) (i : Nat) (h : i < s.length) : sub s i (i + 1) = [s[i]] := by
  apply List.ext_getElem?
  intro n
  simp only [sub, List.getElem?_drop, List.getElem?_take, List.getElem?_cons]
  by_cases hn : n = 0
  · subst hn; simp; 
  · rw [if_neg (by omega)]; cases n with
    | zero => exact absurd rfl hn
    | succ n => simp
theorem sub_all (s : List UInt8) : sub s 0 s.length = s := by simp [sub]
theorem sub_nil_iff (s : List UInt8) {i k : Nat} (hik : i ≤ k) (hk : k ≤ s.length) : sub s i k = [] ↔ i = k := by
  constructor
  · intro h; have := sub_len s i k hk; rw [h] at this; simp at this; omega
  · rintro rfl; exact sub_self s i

/-- A table of where texts of L that begin at a place end. -/
def IsEnds (L : List UInt8 → Prop) (s : List UInt8) (at_ : Nat) (bs : List Bool) : Prop :=
  bs.length = s.length + 1 ∧ ∀ k, k ≤ s.length → (bs[k]? = some true ↔ at_ ≤ k ∧ L (sub s at_ k))

theorem isEnds_unique {L : List UInt8 → Prop} {s : List UInt8} {i : Nat} {a b : List Bool} (h : IsEnds L s i a) (h' : IsEnds L s i b) : a = b := by
  apply List.ext_getElem?
  intro k
  by_cases hk : k ≤ s.length
  · have e := (h.2 k hk).trans (h'.2 k hk).symm
    have la : k < a.length := by have := h.1; omega
    have lb : k < b.length := by have := h'.1; omega
    rw [List.getElem?_eq_getElem la, List.getElem?_eq_getElem lb] at e ⊢
    cases ha : a[k] <;> cases hb : b[k] <;> simp [ha, hb] at e ⊢
  · rw [List.getElem?_eq_none_iff.2 (by have := h.1; omega), List.getElem?_eq_none_iff.2 (by have := h'.1; omega)]

/-- After the row of all of l from at_. -/
theorem isEnds_nil (s : List UInt8) (i : Nat) (_hi : i ≤ s.length) (bs : List Bool) (hl : bs.length = s.length + 1) (h : ∀ k, k ≤ s.length → (bs[k]? = some true ↔ k = i)) : IsEnds (fun t => t = []) s i bs := by
  refine ⟨hl, fun k hk => ?_⟩
  rw [h k hk]
  constructor
  · rintro rfl; exact ⟨Nat.le_refl _, sub_self _ _⟩
  · rintro ⟨h1, h2⟩; exact ((sub_nil_iff s h1 hk).1 h2).symm

/-- through: from the places of bs on by L. -/
theorem isEnds_through {M L : List UInt8 → Prop} {s : List UInt8} {i : Nat} {bs cs : List Bool} (h : IsEnds M s i bs) (hl : cs.length = s.length + 1)
    (hc : ∀ k, k ≤ s.length → (cs[k]? = some true ↔ ∃ j, j ≤ k ∧ bs[j]? = some true ∧ L (sub s j k))) : IsEnds (fun t => ∃ a b, t = a ++ b ∧ M a ∧ L b) s i cs := by
  refine ⟨hl, fun k hk => ?_⟩
  rw [hc k hk]
  constructor
  · rintro ⟨j, hj, hb, hL⟩
    obtain ⟨h1, h2⟩ := (h.2 j (by omega)).1 hb
    exact ⟨by omega, _, _, (sub_append s h1 hj).symm, h2, hL⟩
  · rintro ⟨h1, a, b, e, ha, hb⟩
    obtain ⟨j, hij, hjk, rfl, rfl⟩ := sub_split s h1 hk e
    exact ⟨j, hjk, (h.2 j (by omega)).2 ⟨hij, ha⟩, hb⟩

/-- The rounds of an element that may come more and more often: what is found stands still as soon as a round adds nothing. -/
theorem rounds_still {L : List UInt8 → Prop} {s : List UInt8} {i mn r : Nat}
    (h : ∀ k, i ≤ k → k ≤ s.length → Pow L (mn + r) (sub s i k) → ∃ j, j < r ∧ Pow L (mn + j) (sub s i k)) :
    ∀ j k, i ≤ k → k ≤ s.length → Pow L (mn + j) (sub s i k) → ∃ j', j' < r ∧ Pow L (mn + j') (sub s i k) := by
  intro j
  induction j using Nat.strongRecOn with
  | _ j ih =>
    intro k h1 h2 hp
    by_cases hj : j < r
    · exact ⟨j, hj, hp⟩
    · by_cases hjr : j = r
      · subst hjr; exact h k h1 h2 hp
      · obtain ⟨a, b, e, ha, hb⟩ := Pow.split (mn + (j - 1)) (m := 1) (by rw [show mn + (j - 1) + 1 = mn + j by omega]; exact hp)
        obtain ⟨m, him, hmk, rfl, rfl⟩ := sub_split s h1 h2 e
        obtain ⟨j', hj', hp'⟩ := ih (j - 1) (by omega) m him (by omega) ha
        have hq := Pow.add _ hp' hb
        rw [sub_append s him hmk] at hq
        by_cases hl : j' + 1 < r
        · exact ⟨j' + 1, hl, by rw [← Nat.add_assoc]; exact hq⟩
        · have : j' + 1 = r := by omega
          exact h k h1 h2 (by rw [← this, ← Nat.add_assoc]; exact hq)

/-- A hit. -/
def IsHit (L : List UInt8 → Prop) (s : List UInt8) (from_ a b : Nat) : Prop :=
  from_ ≤ a ∧ a < b ∧ b ≤ s.length ∧ L (sub s a b) ∧ (∀ k, b < k → k ≤ s.length → ¬ L (sub s a k)) ∧ ∀ c, from_ ≤ c → c < a → ∀ k, c < k → k ≤ s.length → ¬ L (sub s c k)
def NoHit (L : List UInt8 → Prop) (s : List UInt8) (from_ : Nat) : Prop := ∀ a b, from_ ≤ a → a < b → b ≤ s.length → ¬ L (sub s a b)

theorem isHit_unique {L : List UInt8 → Prop} {s : List UInt8} {f a b a' b' : Nat} (h : IsHit L s f a b) (h' : IsHit L s f a' b') : a = a' ∧ b = b' := by
  obtain ⟨h1, h2, h3, h4, h5, h6⟩ := h
  obtain ⟨g1, g2, g3, g4, g5, g6⟩ := h'
  have e : a = a' := by
    rcases Nat.lt_trichotomy a a' with h | h | h
    · exact absurd h4 (g6 a h1 h b h2 h3)
    · exact h
    · exact absurd g4 (h6 a' g1 h b' g2 g3)
  subst e
  refine ⟨rfl, ?_⟩
  rcases Nat.lt_trichotomy b b' with h | h | h
  · exact absurd g4 (h5 b' h g3)
  · exact h
  · exact absurd h4 (g5 b h h3)
theorem isHit_noHit {L : List UInt8 → Prop} {s : List UInt8} {f a b : Nat} (h : IsHit L s f a b) (h' : NoHit L s f) : False :=
  h' a b h.1 h.2.1 h.2.2.1 h.2.2.2.1

/-- All hits from a place on. -/
inductive HitsFrom (L : List UInt8 → Prop) (s : List UInt8) : Nat → List (Nat × Nat) → Prop where
  | nil {f : Nat} (h : NoHit L s f) : HitsFrom L s f []
  | cons {f a b : Nat} {l : List (Nat × Nat)} (h : IsHit L s f a b) (r : HitsFrom L s b l) : HitsFrom L s f ((a, b) :: l)

theorem hitsFrom_unique {L : List UInt8 → Prop} {s : List UInt8} {f : Nat} {l l' : List (Nat × Nat)} (h : HitsFrom L s f l) (h' : HitsFrom L s f l') : l = l' := by
  induction h generalizing l' with
  | nil h =>
    cases h' with
    | nil => rfl
    | cons g r => exact (isHit_noHit g h).elim
  | cons h r ih =>
    cases h' with
    | nil g => exact (isHit_noHit h g).elim
    | cons g r' =>
      obtain ⟨rfl, rfl⟩ := isHit_unique h g
      rw [ih r']
theorem hitsFrom_snoc {L : List UInt8 → Prop} {s : List UInt8} {f : Nat} : ∀ {l : List (Nat × Nat)} {e : Nat}, (∀ l', HitsFrom L s e l' → HitsFrom L s f (l ++ l')) → ∀ {a b : Nat}, IsHit L s e a b →
    ∀ l', HitsFrom L s b l' → HitsFrom L s f ((l ++ [(a, b)]) ++ l') := by
  intro l e h a b hh l' hl
  rw [List.append_assoc]
  exact h _ (.cons hh hl)

/-! patterns as they are read. -/

def meaningL : List UInt8 := [92, 46, 91, 93, 40, 41, 124, 42, 43, 63, 123, 125, 94, 45]
/-- What no byte of a class may be, and what no atom may be, if it is not told. -/
def butClass : List UInt8 := [92, 93, 94, 45]
def butAtom : List UInt8 := [92, 46, 91, 93, 40, 41, 124, 42, 43, 63, 123, 125]

def hexv (c : UInt8) : Option Nat :=
  if 48 ≤ c.toNat ∧ c.toNat ≤ 57 then some (c.toNat - 48)
  else if 97 ≤ c.toNat ∧ c.toNat ≤ 102 then some (c.toNat - 97 + 10)
  else if 65 ≤ c.toNat ∧ c.toNat ≤ 70 then some (c.toNat - 65 + 10)
  else none

/-- A byte that is none of some, or is told. -/
def one (but : List UInt8) : List UInt8 → Option (Nat × List UInt8)
  | [] => none
  | c :: r =>
    if c = 92 then
      match r with
      | [] => none
      | d :: r' =>
        if d = 120 then
          match r' with
          | a :: b :: r'' =>
            match hexv a, hexv b with
            | some x, some y => some (16 * x + y, r'')
            | _, _ => none
          | _ => none
        else if d ∈ meaningL then some (d.toNat, r') else none
    else if c ∈ but then none else some (c.toNat, r)

/-- Four words. -/
structure Q4 where
  a : Int
  b : Int
  c : Int
  d : Int

/-- A bit more in a word. -/
def orBit (w : Int) (k : Nat) : Int := ((w.toNat ||| 2 ^ k : Nat) : Int)
def Q4.with (q : Q4) (n : Nat) : Q4 :=
  if n < 64 then { q with a := orBit q.a n }
  else if n < 128 then { q with b := orBit q.b (n - 64) }
  else if n < 192 then { q with c := orBit q.c (n - 128) }
  else { q with d := orBit q.d (n - 192) }
def Q4.withAll (q : Q4) (n : Nat) : Nat → Q4
  | 0 => q
  | k + 1 => (q.with n).withAll (n + 1) k
def Q4.none : Q4 := ⟨0, 0, 0, 0⟩
def Q4.all : Q4 := ⟨18446744073709551615, 18446744073709551615, 18446744073709551615, 18446744073709551615⟩
def Q4.not (q : Q4) : Q4 := ⟨18446744073709551615 - q.a, 18446744073709551615 - q.b, 18446744073709551615 - q.c, 18446744073709551615 - q.d⟩
def Q4.isNone (q : Q4) : Bool := decide (q.a = 0 ∧ q.b = 0 ∧ q.c = 0 ∧ q.d = 0)

def starts (c : UInt8) : List UInt8 → Bool
  | [] => false
  | d :: _ => d == c

/-- One more of a class: a byte, or a row of them. -/
def classOne (q : Q4) (s : List UInt8) : Option (Q4 × List UInt8) :=
  match one butClass s with
  | none => none
  | some (a, r) =>
    if starts 45 r then
      match one butClass r.tail with
      | none => none
      | some (b, r') => if a ≤ b then some (q.withAll a (b + 1 - a), r') else none
    else some (q.withAll a 1, r)

def classLoop : Nat → Q4 → List UInt8 → Option (Q4 × List UInt8)
  | 0, _, _ => none
  | f + 1, q, s =>
    match classOne q s with
    | none => none
    | some (q', r) => if starts 93 r then some (q', r.tail) else classLoop f q' r

/-- What stands behind a [. -/
def classR (f : Nat) (s : List UInt8) : Option (Q4 × List UInt8) :=
  match classLoop f Q4.none (if starts 94 s then s.tail else s) with
  | none => none
  | some (q, r) =>
    let q' := if starts 94 s then q.not else q
    if q'.isNone then none else some (q', r)

def digitB (c : UInt8) : Bool := decide (48 ≤ c.toNat ∧ c.toNat ≤ 57)

/-- A number of times. -/
def number (s : List UInt8) : Option (Nat × List UInt8) :=
  match s with
  | a :: b :: r =>
    if digitB a then
      if digitB b then
        (if starts 48 s then none
         else match r with
          | c :: _ => if digitB c then none else if 10 * (a.toNat - 48) + (b.toNat - 48) ≤ 15 then some (10 * (a.toNat - 48) + (b.toNat - 48), r) else none
          | [] => if 10 * (a.toNat - 48) + (b.toNat - 48) ≤ 15 then some (10 * (a.toNat - 48) + (b.toNat - 48), r) else none)
      else some (a.toNat - 48, b :: r)
    else none
  | [a] => if digitB a then some (a.toNat - 48, []) else none
  | [] => none

/-- What stands behind a {. -/
def counts (s : List UInt8) : Option (Int × Int × List UInt8) :=
  match number s with
  | none => none
  | some (m, r) =>
    if starts 44 r then
      (if starts 125 r.tail then some (m, -1, r.tail.tail)
       else match number r.tail with
        | none => none
        | some (n, r') => if m ≤ n ∧ starts 125 r' = true then some (m, n, r'.tail) else none)
    else if starts 125 r then some (m, m, r.tail) else none

def Rx.set (q : Q4) : Rx := .node 0 0 0 q.a q.b q.c q.d []
def Rx.rep (mn mx : Int) (x : Rx) : Rx := .node 3 mn mx 0 0 0 0 [x]
def Rx.joined (kind : Int) (l : List Rx) : Rx :=
  match l with
  | [x] => x
  | l => .node kind 0 0 0 0 0 0 l

/-- The sign behind an atom. -/
def sign (x : Rx) (r : List UInt8) : Option (Rx × List UInt8) :=
  if starts 42 r then some (.rep 0 (-1) x, r.tail)
  else if starts 43 r then some (.rep 1 (-1) x, r.tail)
  else if starts 63 r then some (.rep 0 1 x, r.tail)
  else if starts 123 r then
    match counts r.tail with
    | none => none
    | some (m, n, r') => some (.rep m n x, r')
  else some (x, r)

mutual
/-- An alternative, of which the rows l and, of the row that is read, the pieces row are known. -/
def altR : Nat → List Rx → List Rx → List UInt8 → Option (Rx × List UInt8)
  | 0, _, _, _ => none
  | f + 1, l, row, s =>
    if s.isEmpty || starts 124 s || starts 41 s then
      (if starts 124 s then altR f (l ++ [Rx.joined 1 row]) [] s.tail
       else some (Rx.joined 2 (l ++ [Rx.joined 1 row]), s))
    else
      match pieceR f s with
      | none => none
      | some (x, r) => altR f l (row ++ [x]) r
def pieceR : Nat → List UInt8 → Option (Rx × List UInt8)
  | 0, _ => none
  | f + 1, s =>
    match atomR f s with
    | none => none
    | some (x, r) => sign x r
def atomR : Nat → List UInt8 → Option (Rx × List UInt8)
  | 0, _ => none
  | f + 1, s =>
    if starts 46 s then some (.set Q4.all, s.tail)
    else if starts 91 s then
      match classR s.length s.tail with
      | none => none
      | some (q, r) => some (.set q, r)
    else if starts 40 s then
      match altR f [] [] s.tail with
      | none => none
      | some (x, r) => if starts 41 r then some (x, r.tail) else none
    else
      match one butAtom s with
      | none => none
      | some (b, r) => some (.set (Q4.none.with b), r)
end

/-- What Parse tells of a pattern: an expression, or the error's number. -/
def parseR (s : List UInt8) : Rx ⊕ Int :=
  if 128 < s.length then .inr 51
  else
    match altR (3 * s.length + 3) [] [] s with
    | none => .inr 50
    | some (x, r) => if r.isEmpty then (if 256 < x.sizeI then .inr 51 else .inl x) else .inr 50

end Go.Proofs.YtjhclopdcbnmkaaGreatDoor.PX

/- Plain laws on languages of joined expressions. -/
namespace Go.Proofs.YtjhclopdcbnmkaaGreatDoor.PX

theorem seq2_lang (a b : Rx) (s : List UInt8) : (Rx.node 1 0 0 0 0 0 0 [a, b]).lang s ↔ ∃ i, i ≤ s.length ∧ a.lang (s.take i) ∧ b.lang (s.drop i) := by
  rw [Rx.lang]
  simp only [langSeq, show ¬ ((1 : Int) = 0) by decide, if_false, if_true]
  constructor
  · rintro ⟨u, v, rfl, hu, u', v', rfl, hv, rfl⟩
    refine ⟨u.length, by simp, ?_, ?_⟩
    · simpa using hu
    · simpa using hv
  · rintro ⟨i, hi, ha, hb⟩
    exact ⟨s.take i, s.drop i, (List.take_append_drop i s).symm, ha, s.drop i, [], by simp, hb, rfl⟩
theorem alt2_lang (a b : Rx) (s : List UInt8) : (Rx.node 2 0 0 0 0 0 0 [a, b]).lang s ↔ a.lang s ∨ b.lang s := by
  rw [Rx.lang]
  simp only [langAlt, show ¬ ((2 : Int) = 0) by decide, show ¬ ((2 : Int) = 1) by decide, if_false, if_true, or_false]
theorem rep_lang (a : Rx) (mn mx : Int) (s : List UInt8) : (Rx.node 3 mn mx 0 0 0 0 [a]).lang s ↔ ∃ k : Nat, mn ≤ k ∧ (mx = -1 ∨ (k : Int) ≤ mx) ∧ Pow a.lang k s := by
  rw [Rx.lang]
  simp only [langRep, show ¬ ((3 : Int) = 0) by decide, show ¬ ((3 : Int) = 1) by decide, show ¬ ((3 : Int) = 2) by decide, if_false]
theorem many_lang (a : Rx) (s : List UInt8) : (Rx.node 3 0 (-1) 0 0 0 0 [a]).lang s ↔ s = [] ∨ ∃ i, 0 < i ∧ i ≤ s.length ∧ a.lang (s.take i) ∧ (Rx.node 3 0 (-1) 0 0 0 0 [a]).lang (s.drop i) := by
  constructor
  · rw [rep_lang]
    rintro ⟨k, -, -, h⟩
    induction k generalizing s with
    | zero => exact .inl h
    | succ k ih =>
      obtain ⟨u, v, rfl, hu, hv⟩ := h
      cases u with
      | nil => exact ih v hv
      | cons c u =>
        refine .inr ⟨(c :: u).length, by simp, by simp, ?_, ?_⟩
        · simpa using hu
        · rw [rep_lang]
          exact ⟨k, by omega, .inl rfl, by simpa using hv⟩
  · rintro (rfl | ⟨i, h0, hi, ha, hb⟩)
    · rw [rep_lang]; exact ⟨0, by omega, .inl rfl, rfl⟩
    · rw [rep_lang] at hb ⊢
      obtain ⟨k, -, -, hk⟩ := hb
      exact ⟨k + 1, by omega, .inl rfl, s.take i, s.drop i, (List.take_append_drop i s).symm, ha, hk⟩

/-- A number of times is a row of as many. -/
theorem langSeq_replicate (a : Rx) : ∀ (k : Nat) (s : List UInt8), langSeq (List.replicate k a) s ↔ Pow a.lang k s
  | 0, s => by simp [langSeq, Pow]
  | k + 1, s => by
    rw [List.replicate_succ]
    simp only [langSeq, Pow, langSeq_replicate a k]
theorem row_lang (l : List Rx) (s : List UInt8) : (Rx.node 1 0 0 0 0 0 0 l).lang s ↔ langSeq l s := by
  rw [Rx.lang]
  simp only [show ¬ ((1 : Int) = 0) by decide, if_false, if_true]

/-- What two loops over the places of a cut find. -/
theorem sub_take (s : List UInt8) (i : Nat) : sub s 0 i = s.take i := by simp [sub]
theorem sub_drop (s : List UInt8) (i : Nat) : sub s i s.length = s.drop i := by simp [sub]

/-- Hits, one by one. -/
theorem hitsFrom_get {L : List UInt8 → Prop} {s : List UInt8} : ∀ {l : List (Nat × Nat)} {f i : Nat}, HitsFrom L s f l → i ≤ l.length → HitsFrom L s (if i = 0 then f else (l.getD (i - 1) (0, 0)).2) (l.drop i)
  | l, f, 0, h, _ => by simpa using h
  | [], f, i + 1, h, hi => by simp at hi
  | p :: l, f, i + 1, h, hi => by
    cases h with
    | cons hh hr =>
      have := hitsFrom_get (i := i) hr (by simpa using hi)
      cases i with
      | zero => simpa using this
      | succ i => simpa using this

/-- so many times, and a row. -/
theorem rep_form {e : Rx} {mn mx : Int} : (Rx.node 3 mn mx 0 0 0 0 [e]).formB = true ↔ (0 ≤ mn ∧ mn ≤ 15 ∧ mx ≤ 15 ∧ (mx = -1 ∨ mn ≤ mx)) ∧ e.formB = true := by
  rw [formB_iff]
  simp only [Shape, List.length_singleton, formAll, Bool.and_true]
  constructor
  · rintro ⟨h, h2⟩; exact ⟨by omega, h2⟩
  · rintro ⟨⟨h1, h3, h4, h5⟩, h2⟩; exact ⟨.inr (.inr (.inr ⟨trivial, ⟨trivial, trivial, trivial, trivial⟩, trivial, h1, h3, h4, h5⟩)), h2⟩
theorem rep_big (e : Rx) (mn mx : Int) : (Rx.node 3 mn mx 0 0 0 0 [e]).big = 1 + max (max 1 mn) mx * e.big := by
  simp only [Rx.big, bigAll, times, if_true, Int.add_zero]
theorem bigAll_replicate (e : Rx) : ∀ k : Nat, bigAll (List.replicate k e) = k * e.big
  | 0 => by simp [bigAll]
  | k + 1 => by rw [List.replicate_succ]; simp only [bigAll, bigAll_replicate e k]; rw [show ((k + 1 : Nat) : Int) = (k : Int) + 1 by omega, Int.add_mul]; omega
theorem row_big (e : Rx) (k : Nat) : (Rx.node 1 0 0 0 0 0 0 (List.replicate k e)).big = 1 + k * e.big := by
  simp only [Rx.big, times, show ¬ ((1 : Int) = 3) by decide, if_false, bigAll_replicate, Int.one_mul]
theorem formAll_replicate (e : Rx) (h : e.formB = true) : ∀ k : Nat, formAll (List.replicate k e) = true
  | 0 => rfl
  | k + 1 => by rw [List.replicate_succ]; simp [formAll, h, formAll_replicate e h k]
theorem row_form {e : Rx} (h : e.formB = true) {k : Nat} (hk : 2 ≤ k) : (Rx.node 1 0 0 0 0 0 0 (List.replicate k e)).formB = true := by
  rw [formB_iff]
  refine ⟨?_, formAll_replicate e h k⟩
  rw [List.length_replicate]
  exact .inr (.inl ⟨rfl, ⟨rfl, rfl, rfl, rfl⟩, by omega, rfl, rfl⟩)
end Go.Proofs.YtjhclopdcbnmkaaGreatDoor.PX

/- Plain facts on the expression of a(b|c)*, for the calls whose answers are fixed. -/
namespace Go.Proofs.YtjhclopdcbnmkaaGreatDoor.PX

def xf : Rx := .node 1 0 0 0 0 0 0 [.set (Q4.none.with 97), .rep 0 (-1) (.node 2 0 0 0 0 0 0 [.set (Q4.none.with 98), .set (Q4.none.with 99)])]
theorem parse_xf : parseR [97, 40, 98, 124, 99, 41, 42] = .inl xf := by rfl
theorem parse_open : parseR [40] = .inr 50 := by rfl

/-- The texts of a(b|c)*. -/
def textF : List UInt8 → Bool
  | 97 :: t => t.all fun c => c == 98 || c == 99
  | _ => false

theorem has_one (n : Nat) (hn : n = 97 ∨ n = 98 ∨ n = 99) (b : UInt8) : hasB (Q4.none.with n).a (Q4.none.with n).b (Q4.none.with n).c (Q4.none.with n).d b.toNat = true ↔ b.toNat = n := by
  have key : ∀ k, k < 256 → ∀ n, n = 97 ∨ n = 98 ∨ n = 99 → (hasB (Q4.none.with n).a (Q4.none.with n).b (Q4.none.with n).c (Q4.none.with n).d k = decide (k = n)) := by
    intro k hk n hn
    have h97 : ∀ k, k < 256 → (hasB (Q4.none.with 97).a (Q4.none.with 97).b (Q4.none.with 97).c (Q4.none.with 97).d k = decide (k = 97)) := by decide +kernel
    have h98 : ∀ k, k < 256 → (hasB (Q4.none.with 98).a (Q4.none.with 98).b (Q4.none.with 98).c (Q4.none.with 98).d k = decide (k = 98)) := by decide +kernel
    have h99 : ∀ k, k < 256 → (hasB (Q4.none.with 99).a (Q4.none.with 99).b (Q4.none.with 99).c (Q4.none.with 99).d k = decide (k = 99)) := by decide +kernel
    rcases hn with rfl | rfl | rfl
    · exact h97 k hk
    · exact h98 k hk
    · exact h99 k hk
  rw [key b.toNat (UInt8.toNat_lt _) n hn]
  simp
theorem pow_bc (L : List UInt8 → Prop) (hL : ∀ t, L t ↔ t = [98] ∨ t = [99]) : ∀ (k : Nat) (s : List UInt8), Pow L k s ↔ s.length = k ∧ (s.all fun c => c == 98 || c == 99) = true
  | 0, s => by
    simp only [Pow]
    constructor
    · rintro rfl; exact ⟨rfl, rfl⟩
    · rintro ⟨h, -⟩; exact List.eq_nil_of_length_eq_zero h
  | k + 1, s => by
    simp only [Pow, hL]
    constructor
    · rintro ⟨a, b, rfl, ha, hb⟩
      obtain ⟨h1, h2⟩ := (pow_bc L hL k b).1 hb
      rcases ha with rfl | rfl
      · exact ⟨by simp [h1], by simpa using h2⟩
      · exact ⟨by simp [h1], by simpa using h2⟩
    · rintro ⟨h1, h2⟩
      cases s with
      | nil => simp at h1
      | cons c t =>
        simp only [List.all_cons, Bool.and_eq_true, Bool.or_eq_true, beq_iff_eq] at h2
        refine ⟨[c], t, rfl, ?_, (pow_bc L hL k t).2 ⟨by simpa using h1, h2.2⟩⟩
        rcases h2.1 with rfl | rfl
        · exact .inl rfl
        · exact .inr rfl
theorem toNat_eq {b : UInt8} {n : Nat} (h : b.toNat = n) : b = UInt8.ofNat n := by rw [← h]; simp
theorem set_lang (n : Nat) (hn : n = 97 ∨ n = 98 ∨ n = 99) (s : List UInt8) : (Rx.set (Q4.none.with n)).lang s ↔ s = [UInt8.ofNat n] := by
  simp only [Rx.set, Rx.lang, if_true]
  constructor
  · rintro ⟨b, rfl, h⟩
    rw [has_one n hn] at h
    rw [toNat_eq h]
  · rintro rfl
    refine ⟨_, rfl, ?_⟩
    rw [has_one n hn]
    rcases hn with rfl | rfl | rfl <;> rfl
theorem xf_lang (s : List UInt8) : xf.lang s ↔ textF s = true := by
  have h1 : ∀ t, (Rx.node 2 0 0 0 0 0 0 [.set (Q4.none.with 98), .set (Q4.none.with 99)]).lang t ↔ t = [98] ∨ t = [99] := by
    intro t
    rw [Rx.lang]
    simp only [langAlt, set_lang 98 (by omega), set_lang 99 (by omega)]
    simp
  have h2 : ∀ t, (Rx.rep 0 (-1) (.node 2 0 0 0 0 0 0 [.set (Q4.none.with 98), .set (Q4.none.with 99)])).lang t ↔ (t.all fun c => c == 98 || c == 99) = true := by
    intro t
    rw [Rx.rep, Rx.lang]
    simp only [langRep, pow_bc _ h1]
    constructor
    · simp
    · intro h
      simp only [show ¬ ((3 : Int) = 0) by decide, show ¬ ((3 : Int) = 1) by decide, show ¬ ((3 : Int) = 2) by decide, if_false]
      exact ⟨t.length, by omega, .inl trivial, rfl, h⟩
  rw [xf, Rx.lang]
  simp only [langSeq, set_lang 97 (by omega), h2, show ¬ ((1 : Int) = 0) by decide, if_false, if_true]
  constructor
  · rintro ⟨a, b, rfl, rfl, a', b', rfl, h, rfl⟩
    simpa [textF] using h
  · intro h
    cases s with
    | nil => cases h
    | cons c t =>
      by_cases hc : c = 97
      · subst hc
        exact ⟨[97], t, rfl, rfl, t, [], by simp, by simpa [textF] using h, rfl⟩
      · exact absurd h (by simp [textF, hc])

theorem xf_is : xf.lang [97, 98, 99, 98] := (xf_lang _).2 rfl
theorem xf_no : ¬ xf.lang [97, 98, 32, 97] := fun h => absurd ((xf_lang _).1 h) (by decide)
theorem xf_nothing : ¬ xf.lang [] := fun h => absurd ((xf_lang _).1 h) (by decide)
theorem xf_hit : IsHit xf.lang [120, 97, 98] 0 1 3 := by
  refine ⟨by omega, by omega, by decide, (xf_lang _).2 rfl, fun k h1 h2 => by simp at h2; omega, fun c _ h1 k h2 h3 h4 => ?_⟩
  obtain rfl : c = 0 := by omega
  simp only [List.length_cons, List.length_nil] at h3
  have := (xf_lang _).1 h4
  have hk : k = 1 ∨ k = 2 ∨ k = 3 := by omega
  rcases hk with rfl | rfl | rfl <;> exact absurd this (by decide)
theorem xf_hits : HitsFrom xf.lang [97, 98, 32, 97] 0 [(0, 2), (3, 4)] := by
  refine .cons ⟨by omega, by omega, by decide, (xf_lang _).2 rfl, fun k h1 h2 h4 => ?_, fun c _ h1 => by omega⟩ (.cons ⟨by omega, by omega, by decide, (xf_lang _).2 rfl, fun k h1 h2 => by simp at h2; omega, fun c h0 h1 k h2 h3 h4 => ?_⟩ (.nil ?_))
  · simp only [List.length_cons, List.length_nil] at h2
    have := (xf_lang _).1 h4
    have hk : k = 3 ∨ k = 4 := by omega
    rcases hk with rfl | rfl <;> exact absurd this (by decide)
  · obtain rfl : c = 2 := by omega
    simp only [List.length_cons, List.length_nil] at h3
    have := (xf_lang _).1 h4
    have hk : k = 3 ∨ k = 4 := by omega
    rcases hk with rfl | rfl <;> exact absurd this (by decide)
  · intro a b h1 h2 h3
    simp only [List.length_cons, List.length_nil] at h3
    omega
end Go.Proofs.YtjhclopdcbnmkaaGreatDoor.PX
