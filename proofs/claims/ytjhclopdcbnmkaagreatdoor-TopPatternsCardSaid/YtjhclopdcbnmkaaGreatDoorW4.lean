/- TopPatterns answers true. (Printed by wip/gen_w4.py.) -/
import Derived.Test.YtjhclopdcbnmkaaGreatDoorW3
import Derived.Test.YtjhclopdcbnmkaaGreatDoorRHit
import Derived.Deep.CutBlock
import Derived.Deep.CutRange
import Derived.Deep.RegionHeld3
import Derived.Lib.ConvBytes
import Derived.Deep.AppendLies

set_option linter.unusedSimpArgs false
set_option linter.unusedVariables false
namespace Go.Proofs.YtjhclopdcbnmkaaGreatDoor
open Go.RowKit PX

theorem me_cells {w : World} {b o : Nat} {fr tu ac : Int} {xk xmn xmx xs0 xs1 xs2 xs3 : Int} {xa : Option Addr} {xcap : Nat} {xl : List RxA} {yk ymn ymx ys0 ys1 ys2 ys3 : Int} {ya : Option Addr} {ycap : Nat} {yl : List RxA} (h : ∀ j, j < 19 → w.cell? ⟨b, o + j, none⟩ = (⟨fr, tu, ac, (RxA.node xk xmn xmx xs0 xs1 xs2 xs3 xa xcap xl), (RxA.node yk ymn ymx ys0 ys1 ys2 ys3 ya ycap yl)⟩ : MeV).cells[j]?) :
    w.cell? ⟨b, o, none⟩ = some (.int .i64 fr) ∧ w.cell? ⟨b, o + 1, none⟩ = some (.int .i64 tu) ∧ w.cell? ⟨b, o + 2, none⟩ = some (.int .i64 xk) ∧ w.cell? ⟨b, o + 3, none⟩ = some (.int .i64 xmn) ∧ w.cell? ⟨b, o + 4, none⟩ = some (.int .i64 xmx) ∧ w.cell? ⟨b, o + 5, none⟩ = some (.int .u64 xs0) ∧ w.cell? ⟨b, o + 6, none⟩ = some (.int .u64 xs1) ∧ w.cell? ⟨b, o + 7, none⟩ = some (.int .u64 xs2) ∧ w.cell? ⟨b, o + 8, none⟩ = some (.int .u64 xs3) ∧ w.cell? ⟨b, o + 9, none⟩ = some (.slice xa xl.length xcap) ∧ w.cell? ⟨b, o + 10, none⟩ = some (.int .i64 ac) ∧ w.cell? ⟨b, o + 11, none⟩ = some (.int .i64 yk) ∧ w.cell? ⟨b, o + 12, none⟩ = some (.int .i64 ymn) ∧ w.cell? ⟨b, o + 13, none⟩ = some (.int .i64 ymx) ∧ w.cell? ⟨b, o + 14, none⟩ = some (.int .u64 ys0) ∧ w.cell? ⟨b, o + 15, none⟩ = some (.int .u64 ys1) ∧ w.cell? ⟨b, o + 16, none⟩ = some (.int .u64 ys2) ∧ w.cell? ⟨b, o + 17, none⟩ = some (.int .u64 ys3) ∧ w.cell? ⟨b, o + 18, none⟩ = some (.slice ya yl.length ycap) :=
  ⟨h 0 (by decide), h 1 (by decide), h 2 (by decide), h 3 (by decide), h 4 (by decide), h 5 (by decide), h 6 (by decide), h 7 (by decide), h 8 (by decide), h 9 (by decide), h 10 (by decide), h 11 (by decide), h 12 (by decide), h 13 (by decide), h 14 (by decide), h 15 (by decide), h 16 (by decide), h 17 (by decide), h 18 (by decide)⟩
/-- Where the rules and what is meant stand. -/
def TopInv (w w1 : World) (B : Nat) (R : List RuV) (M : List MeV) (ar am : Option Addr) (cr cm : Nat) (wr : World) : Prop :=
  wr.ownsRow B 56 5 (.slice ar R.length cr) R.length (ruC R) ∧ wr.ownsRow B 53 19 (.slice am M.length cm) M.length (meC M) ∧
  R.map RuV.bare = (M.map fun m => m.bare.rul) ∧ (∀ x ∈ M, x.bare.good ∧ x.In w) ∧ R.length ≤ 32 ∧ Below B w1 wr
theorem TopInv.later {w w1 wr w' : World} {B : Nat} {R : List RuV} {M : List MeV} {ar am : Option Addr} {cr cm : Nat} (h : TopInv w w1 B R M ar am cr cm wr) (hl : Later wr w') (hB : B ≤ wr.heap.size := by omega) : TopInv w w1 B R M ar am cr cm w' := by
  obtain ⟨h1, h2, h3, h4, h5, h6⟩ := h
  exact ⟨own_later h1 hl, own_later h2 hl, h3, h4, h5, h6.trans (hl.out.mono hB)⟩
theorem fold_set {α : Type} (cs : List α) : ∀ (pre old : List α), old.length = cs.length → List.foldl (fun (l : List α) (x : α × Nat) => l.set x.snd x.fst) (pre ++ old) (cs.zipIdx pre.length) = pre ++ cs := by
  induction cs with
  | nil => intro pre old h; rw [List.eq_nil_of_length_eq_zero h]; simp
  | cons c cs ih =>
    intro pre old h
    match old, h with
    | o :: old, h =>
      rw [List.zipIdx_cons, List.foldl_cons]
      have e : (pre ++ o :: old).set pre.length c = (pre ++ [c]) ++ old := by simp
      show List.foldl _ ((pre ++ o :: old).set pre.length c) _ = _
      rw [e]
      have h2 := ih (pre ++ [c]) old (by simpa using h)
      rw [List.length_append] at h2
      simpa using h2
theorem fold_arr {α : Type} (cs old : Array α) (h : old.size = cs.size) : Array.foldl (fun (l : Array α) (x : α × Nat) => l.setIfInBounds x.snd x.fst) old cs.zipIdx 0 cs.size = cs := by
  have e : ∀ (l : List (α × Nat)) (a : Array α), (List.foldl (fun (l : Array α) (x : α × Nat) => l.setIfInBounds x.snd x.fst) a l).toList = List.foldl (fun (l : List α) (x : α × Nat) => l.set x.snd x.fst) a.toList l := by
    intro l
    induction l with
    | nil => intro a; rfl
    | cons x l ih => intro a; rw [List.foldl_cons, List.foldl_cons, ih]; simp
  apply Array.toList_inj.1
  have hz : cs.size = cs.zipIdx.size := by simp
  rw [hz, ← Array.foldl_toList, e]
  have := fold_set cs.toList [] old.toList (by simpa using h)
  simpa using this
theorem check_of_printW {x : Rx} (h : printE x = 0) : checkR x = 0 := by
  by_cases hc : checkR x = 0
  · exact hc
  · rw [printE_bad hc] at h; exact absurd h hc
theorem inv_push {w w1 w7 w8 : World} {B : Nat} {R : List RuV} {M : List MeV} {r : RuV} {m : MeV} {g7 cap7 g8 cap8 : Nat} {vM : Value} {X : Obj}
    (hO7 : w7.ownsRow B 56 5 (.slice (some ⟨g7, 0, none⟩) (R.length + 1) cap7) (R.length + 1) (ruC R ++ r.cells)) (hM7 : w7.ownsRow B 53 19 vM M.length (meC M))
    (hown8 : w8.ownsRow B 53 19 (.slice (some ⟨g8, 0, none⟩) (M.length + 1) cap8) (M.length + 1) (meC M ++ m.cells)) (hgrow8 : (w7.alloc X).grownBy w8 vM.ownBlock) (hbel7 : Below B w1 w7) (hB : B ≤ w7.heap.size)
    (hRM : R.map RuV.bare = M.map fun m => m.bare.rul) (hg : ∀ x ∈ M, x.bare.good ∧ x.In w) (hr : r.bare = m.bare.rul) (hm : m.bare.good ∧ m.In w) (h32 : R.length < 32) :
    TopInv w w1 B (R ++ [r]) (M ++ [m]) (some ⟨g7, 0, none⟩) (some ⟨g8, 0, none⟩) cap7 cap8 w8 := by
  refine ⟨?_, ?_, ?_, fun x hx => ?_, ?_, ?_⟩
  · rw [ruC_snoc, List.length_append]
    exact (hO7.alloc X).kept hgrow8 (own_apart (hM7.alloc X) (hO7.alloc X) (by decide))
  · rw [meC_snoc, List.length_append]
    exact hown8
  · rw [List.map_append, List.map_append, hRM, List.map_cons, List.map_nil, List.map_cons, List.map_nil, hr]
  · rcases List.mem_append.1 hx with h | h
    · exact hg x h
    · rw [List.mem_singleton.1 h]; exact hm
  · rw [List.length_append, List.length_cons, List.length_nil]; omega
  · exact Below.grown (hbel7.alloc hB X) hgrow8 (by rw [World.size_alloc]; omega) (fun q hq => ((hM7.alloc X).lt q hq).1)
theorem good_of {fr tu ac : Int} {X Y : RxA} {w : World} (hX : X.In w w.heap.size) (hY : Y.In w w.heap.size) (hx : printE X.bare = 0) (hy : ac % 3 = 2 → printE Y.bare = 0) :
    (⟨fr % 8, (fr % 8 + 1 + tu % 7) % 8, ac % 3, X, Y⟩ : MeV).bare.good ∧ (⟨fr % 8, (fr % 8 + 1 + tu % 7) % 8, ac % 3, X, Y⟩ : MeV).In w := by
  have h1 := ok_wideW (in_ok64 hX)
  have h2 := ok_wideW (in_ok64 hY)
  refine ⟨⟨by show 0 ≤ fr % 8 ∧ fr % 8 < 8; omega, by show 0 ≤ (fr % 8 + 1 + tu % 7) % 8 ∧ (fr % 8 + 1 + tu % 7) % 8 < 8; omega, by show fr % 8 ≠ (fr % 8 + 1 + tu % 7) % 8; omega, by show 0 ≤ ac % 3 ∧ ac % 3 ≤ 2; omega, hx, h1, fun h => ⟨hy h, h2⟩⟩, hX, hY⟩
set_option maxRecDepth 100000 in
set_option maxHeartbeats 8000000 in
theorem top_any (w : World) (a : Option Addr) (cap : Nat) (l : List MeV) (xf xt : Int) (S : ByteArray) (hin : MeIn w a cap l) (hxf : I64 xf) (hxt : I64 xt) (hT : TabAt 0 Lib.deBruijn64tab w) (hP : PowAt w) :
    Calls Tryz.prog 6 #[.slice a l.length cap, .agg #[.int .i64 xf, .int .i64 xt, .string S]] w fun e w' => e = .returned (.bool true) ∧ Later w w' := by
  have HFX := Lib.hid (fun w1 (h1 : Later w w1) => tfixed_any w1 (TabAt.below hT h1) (hP.later h1))
  have HPO := Lib.hid (fun w1 (h1 : Later w w1) => hP.later h1)
  have HTA := Lib.hid (fun w1 (h1 : Later w w1) => TabAt.below hT h1)
  have HRE := Lib.hid rest_any
  obtain ⟨m, hm⟩ : ∃ m, l.length = m := ⟨_, rfl⟩
  obtain ⟨hl1, hl2, hl3⟩ := hin
  have HIN := Lib.hid hl3
  rw [hm] at hl1 ⊢
  have HM := Lib.hid hm
  have HXF := Lib.hid hxf
  have HXT := Lib.hid hxt
  obtain ⟨w0, hw0⟩ : ∃ w0, w.alloc (.cells #[.int .i64 xf, .int .i64 xt, .string S] 51) = w0 := ⟨_, rfl⟩
  have hl0 : Later w w0 := by rw [← hw0]; exact (Later.refl w).alloc _
  have hb0 : w0.heap[w.heap.size]? = some (.cells #[.int .i64 xf, .int .i64 xt, .string S] 51 (0, 0)) := by rw [← hw0]; exact alloc_block w _
  have HSX := Lib.hid (fun w' (h' : Later w0 w') => show w'.cell? ⟨w.heap.size, 0, none⟩ = some (.int .i64 xf) ∧ w'.cell? ⟨w.heap.size, 1, none⟩ = some (.int .i64 xt) ∧ w'.cell? ⟨w.heap.size, 2, none⟩ = some (.string S) from
    ⟨cell_of_block (h'.block hb0) 0, cell_of_block (h'.block hb0) 1, cell_of_block (h'.block hb0) 2⟩)
  have HSZ := Lib.hid (fun w' (h' : Later w0 w') => lt_of_block (h'.block hb0))
  have HL0 := Lib.hid hl0
  have HW0 := Lib.hid hw0
  obtain ⟨iR, hiR, hr0, hr1, hr2⟩ := info_parts info_rule
  obtain ⟨iM, hiM, hm0, hm1, hm2⟩ := info_parts info_meant
  clear hl3 hm hxf hxt hw0 hb0 hT hP
  go_enter Tryz.func6, Tryz.ntmps6
  go_upto_region 1 with fail
  rw [HW0.out]
  go_upto_region 3 with (first
    | (go_at_call 22; (with_reducible refine (HFX.out _ hl0).mono ?_); rintro e w1 ⟨rfl, hlw1⟩)
    | fail)
  have hl01 : Later w w1 := hl0.trans hlw1
  have HL1 := Lib.hid hl01
  have HLW := Lib.hid hlw1
  clear hl01 hl0 hlw1
  go_upto_block 0 with fail
  go_cut [5, 6] from 7 to 95 (fun vr vm wx => ∃ (R : List RuV) (M : List MeV) (ar am : Option Addr) (cr cm : Nat), vr = .slice ar R.length cr ∧ vm = .slice am M.length cm ∧ TopInv w w1 w1.heap.size R M ar am cr cm wx)
  case first =>
    have hstart : TopInv w w1 w1.heap.size [] [] (some ⟨w1.heap.size, 0, none⟩) (some ⟨w1.heap.size + 1, 0, none⟩) 0 0 ((w1.alloc (.cells #[] 56)).alloc (.cells #[] 53)) :=
      ⟨own_none (alloc_old (alloc_block w1 _) _) (Nat.le_refl _), own_none (alloc_at (by simp)) (by omega), rfl, (fun x hx => absurd hx (by simp)), (by show 0 ≤ 32; decide), (((Below.refl _ _).alloc (Nat.le_refl _) _).alloc (by simp) _)⟩
    have HST := Lib.hid hstart
    clear hstart
    go_wp2_with fail
    go_loopw [5, 6, 7] (fun vr vm vi wr => ∃ (k : Nat) (R : List RuV) (M : List MeV) (ar am : Option Addr) (cr cm : Nat), k ≤ m ∧ vi = .int .i64 k ∧ vr = .slice ar R.length cr ∧ vm = .slice am M.length cm ∧ TopInv w w1 w1.heap.size R M ar am cr cm wr) (fun _ _ vi _ => m - (intOf vi).toNat)
    case atStart => exact ⟨0, [], [], _, _, 0, 0, by omega, rfl, rfl, rfl, HST.out⟩
    case round =>
      obtain ⟨k, R, M, ar, am, cr, cm, hk, rfl, rfl, rfl, hinv⟩ := hrel
      obtain ⟨hoR, hoM, hRM, hgood, hR32, hbel⟩ := hinv
      have hlr : Later w1 wr := hbel
      have hMR := map_len hRM
      obtain ⟨nr, hnr⟩ : ∃ nr, R.length = nr := ⟨_, rfl⟩
      have HOR := Lib.hid (show wr.ownsRow w1.heap.size 56 5 (.slice ar nr cr) nr (ruC R) from by rw [← hnr]; exact hoR)
      have HOM := Lib.hid hoM
      have HRM := Lib.hid hRM
      have HGD := Lib.hid hgood
      have HNR := Lib.hid hnr
      have HMR := Lib.hid hMR
      have hcr := own_slice hoR
      rw [hnr] at hR32 ⊢
      have hwlt : w1.heap.size ≤ wr.heap.size := Below.size hlr
      have HLR := Lib.hid hlr
      clear hoR hoM hRM hgood hnr hMR hcr hlr
      by_cases hlt : k < m
      · have hkm : (k : Int) < (m : Int) := by omega
        by_cases hn32 : nr < 32
        · have hn32i : (nr : Int) < 32 := by omega
          have hkl : k < l.length := by have := HM.out; omega
          obtain ⟨b, o, rfl, hblt, hall⟩ := HIN.out.resolve_left (by rintro rfl; simp at hkl)
          obtain ⟨hcs, hmin, i1, i2, i3⟩ := hall k hkl
          clear hall
          have HLL := Lib.hid (HL1.out.trans HLR.out)
          have hcs' : ∀ j, j < 19 → wr.cell? ⟨b, o + k * 19 + j, none⟩ = l[k].cells[j]? := fun j hj => (HLL.out.out.cell (p := ⟨b, o + k * 19 + j, none⟩) hblt).trans (hcs j hj)
          obtain ⟨⟨fr, tu, ac, X, Y⟩, hel⟩ : ∃ el, l[k] = el := ⟨_, rfl⟩
          rw [hel] at hcs' hmin i1 i2 i3
          clear hcs hel hkl
          obtain ⟨xk, xmn, xmx, xs0, xs1, xs2, xs3, xa, xcap, xl⟩ := X
          obtain ⟨yk, ymn, ymx, ys0, ys1, ys2, ys3, ya, ycap, yl⟩ := Y
          obtain ⟨c0, c1, c2, c3, c4, c5, c6, c7, c8, c9, c10, c11, c12, c13, c14, c15, c16, c17, c18⟩ := me_cells hcs'
          have HMI := Lib.hid hmin
          have HI1 := Lib.hid i1
          have HI2 := Lib.hid i2
          have HI3 := Lib.hid i3
          simp only at HMI HI1 HI2 HI3
          have hbw : b < wr.heap.size := by have := Below.size HLL.out; omega
          clear hmin i1 i2 i3 hcs' hblt
          obtain ⟨nf, hnf⟩ : ∃ nf, fr % 8 = nf := ⟨_, rfl⟩
          obtain ⟨nt, hnt⟩ : ∃ nt, (nf + 1 + tu % 7) % 8 = nt := ⟨_, rfl⟩
          obtain ⟨na, hna⟩ : ∃ na, ac % 3 = na := ⟨_, rfl⟩
          obtain ⟨q7, hq7⟩ : ∃ q, tu % 7 = q := ⟨_, rfl⟩
          have bf : 0 ≤ nf ∧ nf < 8 := by omega
          have bq : 0 ≤ q7 ∧ q7 < 7 := by omega
          have ba : 0 ≤ na ∧ na ≤ 2 := by omega
          have HR8 := Lib.hid (fun w1 => show Calls Tryz.prog 23 #[.int .i64 fr, .int .i64 8] w1 fun e w' => e = .returned (.int .i64 nf) ∧ w1 = w' from by rw [← hnf]; exact HRE.out w1 fr 8 HI1.out (.inl rfl))
          have HR7 := Lib.hid (fun w1 => show Calls Tryz.prog 23 #[.int .i64 tu, .int .i64 7] w1 fun e w' => e = .returned (.int .i64 q7) ∧ w1 = w' from by rw [← hq7]; exact HRE.out w1 tu 7 HI2.out (.inr (.inl rfl)))
          have HR3 := Lib.hid (fun w1 => show Calls Tryz.prog 23 #[.int .i64 ac, .int .i64 3] w1 fun e w' => e = .returned (.int .i64 na) ∧ w1 = w' from by rw [← hna]; exact HRE.out w1 ac 3 HI3.out (.inr (.inr rfl)))
          have HNT := Lib.hid (show (nf + 1 + q7) % 8 = nt from by rw [← hq7]; exact hnt)
          have HNF := Lib.hid hnf
          have HNA := Lib.hid hna
          have HQ7 := Lib.hid hq7
          clear hnf hnt hna hq7
          obtain ⟨CS, hCS⟩ : ∃ CS : Array Value, (#[.int .i64 fr, .int .i64 tu, .int .i64 xk, .int .i64 xmn, .int .i64 xmx, .int .u64 xs0, .int .u64 xs1, .int .u64 xs2, .int .u64 xs3, .slice xa xl.length xcap, .int .i64 ac, .int .i64 yk, .int .i64 ymn, .int .i64 ymx, .int .u64 ys0, .int .u64 ys1, .int .u64 ys2, .int .u64 ys3, .slice ya yl.length ycap] : Array Value) = CS := ⟨_, rfl⟩
          have HC0 := Lib.hid (show ∀ j v, CS[j]? = some v → wr.cell? ⟨b, o + k * 19 + j, none⟩ = some v from by
            rw [← hCS]
            intro j v hj
            have hlt : j < 19 := (Array.getElem?_eq_some_iff.1 hj).1
            rw [← hj]
            rcases (by omega : j = 0 ∨ j = 1 ∨ j = 2 ∨ j = 3 ∨ j = 4 ∨ j = 5 ∨ j = 6 ∨ j = 7 ∨ j = 8 ∨ j = 9 ∨ j = 10 ∨ j = 11 ∨ j = 12 ∨ j = 13 ∨ j = 14 ∨ j = 15 ∨ j = 16 ∨ j = 17 ∨ j = 18) with rfl | rfl | rfl | rfl | rfl | rfl | rfl | rfl | rfl | rfl | rfl | rfl | rfl | rfl | rfl | rfl | rfl | rfl | rfl
            all_goals first | exact c0 | assumption)
          have HZ := Lib.hid (alloc_block wr (.cells #[.int .i64 0, .int .i64 0, .int .i64 0, .int .i64 0, .int .i64 0, .int .u64 0, .int .u64 0, .int .u64 0, .int .u64 0, .slice none 0 0, .int .i64 0, .int .i64 0, .int .i64 0, .int .i64 0, .int .u64 0, .int .u64 0, .int .u64 0, .int .u64 0, .slice none 0 0] 53))
          have HI19 := Lib.hid (show (Tryz.prog.info? 53).map (fun i => i.size) = some CS.size from by rw [← hCS]; exact info19)
          have H19 := Lib.hid (show (19 : Nat) = CS.size from by rw [← hCS]; rfl)
          have H1C := Lib.hid (show CS.all (fun x => x.oneCell') = true from by rw [← hCS]; simp [Value.oneCell'])
          have HCSE := Lib.hid hCS
          clear c0 c1 c2 c3 c4 c5 c6 c7 c8 c9 c10 c11 c12 c13 c14 c15 c16 c17 c18 hCS
          go_upto_region 9 with (first
            | refine wpList_load_at rfl 53 (.tmp 40) rfl b (o + k * 19) rfl CS _ HC0.out Tryz.underlying53 rfl HI19.out ?_
            | refine wpList_store_row rfl 53 (.tmp 8) (.tmp 41) rfl wr.heap.size CS rfl rfl 53 _ HZ.out HI19.out H19.out H1C.out ?_
            | fail)
          have hW1 : ∀ W1, W1 = (wr.alloc (.cells #[.int .i64 0, .int .i64 0, .int .i64 0, .int .i64 0, .int .i64 0, .int .u64 0, .int .u64 0, .int .u64 0, .int .u64 0, .slice none 0 0, .int .i64 0, .int .i64 0, .int .i64 0, .int .i64 0, .int .u64 0, .int .u64 0, .int .u64 0, .int .u64 0, .slice none 0 0] 53)).setRow wr.heap.size CS → W1.heap[wr.heap.size]? = some (.cells CS 53 (0, 0)) ∧ Below wr.heap.size wr W1 := by
            rintro W1 rfl
            refine ⟨setRow_heap _ _ _ _ _ _ HZ.out, ?_⟩
            have h1 := (Below.refl wr.heap.size wr).alloc (Nat.le_refl _) (.cells #[.int .i64 0, .int .i64 0, .int .i64 0, .int .i64 0, .int .i64 0, .int .u64 0, .int .u64 0, .int .u64 0, .int .u64 0, .slice none 0 0, .int .i64 0, .int .i64 0, .int .i64 0, .int .i64 0, .int .u64 0, .int .u64 0, .int .u64 0, .int .u64 0, .slice none 0 0] 53)
            exact ⟨h1.os, h1.tape, h1.output, by simp, fun k hk => (setRow_other _ _ _ _ (by omega)).trans (h1.block k hk)⟩
          generalize hg1 : World.setRow (World.alloc wr _) _ _ = W1
          obtain ⟨hr1', hb1'⟩ := hW1 W1 hg1.symm
          obtain ⟨ub, hub⟩ : ∃ ub, wr.heap.size = ub := ⟨_, rfl⟩
          rw [hub] at hr1' hb1' hwlt hbw ⊢
          rw [← HCSE.out] at hr1'
          have HUB := Lib.hid hub
          have HR1 := Lib.hid hr1'
          have HB1 := Lib.hid hb1'
          have y0 := cell_of_block hr1' 0
          have y1 := cell_of_block hr1' 1
          have yf := free_of_block hr1' 0
          have ylt := lt_of_block hr1'
          simp only [List.getElem?_toArray, List.getElem?_cons_zero, List.getElem?_cons_succ] at y0 y1
          clear hW1 hg1 hr1' hb1' HZ HC0
          go_upto_region 10 with (first
            | (go_at_call 23; (with_reducible refine (HR8.out _).mono ?_); rintro e w2 ⟨rfl, rfl⟩)
            | fail)
          obtain ⟨w2, hw2⟩ : ∃ w2, W1.setCell ⟨ub, 0, none⟩ (.int .i64 nf) = w2 := ⟨_, rfl⟩
          rw [hw2]
          have hr2 : w2.heap[ub]? = some (.cells #[.int .i64 nf, .int .i64 tu, .int .i64 xk, .int .i64 xmn, .int .i64 xmx, .int .u64 xs0, .int .u64 xs1, .int .u64 xs2, .int .u64 xs3, .slice xa xl.length xcap, .int .i64 ac, .int .i64 yk, .int .i64 ymn, .int .i64 ymx, .int .u64 ys0, .int .u64 ys1, .int .u64 ys2, .int .u64 ys3, .slice ya yl.length ycap] 53 (0, 0)) := by rw [← hw2, setCell_block HR1.out 0 _]; rfl
          have hb2 : Below ub wr w2 := by rw [← hw2]; exact HB1.out.setCell (Nat.le_refl _) _
          have HS2 := Lib.hid (fun w' (h' : Later w2 w') => show w'.cell? ⟨ub, 0, none⟩ = some (.int .i64 nf) ∧ w'.cell? ⟨ub, 1, none⟩ = some (.int .i64 tu) ∧ w'.frozen? ⟨ub, 1, none⟩ = false from ⟨cell_of_block (h'.block hr2) 0, cell_of_block (h'.block hr2) 1, free_of_block (h'.block hr2) 1⟩)
          have HR2 := Lib.hid hr2
          have HB2 := Lib.hid hb2
          have zlt := lt_of_block hr2
          obtain ⟨z0, z1, zf⟩ := HS2.out w2 (Later.refl _)
          have hwa : IntKind.i64.wrap (nf + 1) = nf + 1 := by rw [IntKind.wrap_i64]; omega
          have hwb : IntKind.i64.wrap (nf + 1 + q7) = nf + 1 + q7 := by rw [IntKind.wrap_i64]; omega
          have htm : (nf + 1 + q7).tmod 8 = nt := by rw [Int.tmod_eq_emod_of_nonneg (by omega)]; exact HNT.out
          have hwc : IntKind.i64.wrap nt = nt := by have := HNT.out; rw [IntKind.wrap_i64]; omega
          clear hw2 hr2 hb2 y0 y1 yf ylt
          go_cut [] from 46 to 54 (fun wx => wx.heap[ub]? = some (.cells #[.int .i64 nf, .int .i64 nt, .int .i64 xk, .int .i64 xmn, .int .i64 xmx, .int .u64 xs0, .int .u64 xs1, .int .u64 xs2, .int .u64 xs3, .slice xa xl.length xcap, .int .i64 ac, .int .i64 yk, .int .i64 ymn, .int .i64 ymx, .int .u64 ys0, .int .u64 ys1, .int .u64 ys2, .int .u64 ys3, .slice ya yl.length ycap] 53 (0, 0)) ∧ Below ub wr wx)
          case first =>
            go_region_with (go_at_call 23; (with_reducible refine (HR7.out _).mono ?_); rintro e w3 ⟨rfl, rfl⟩)
            all_goals
              go_wp2_with fail
              go_meet
              case rel => exact ⟨(setCell_block (w := w2) HR2.out 1 (.int .i64 nt)).trans rfl, (HB2.out.setCell (Nat.le_refl _) _).drew⟩
          case rest =>
            obtain ⟨hr3, hb3⟩ := hcut
            have HR3b := Lib.hid hr3
            have HB3 := Lib.hid hb3
            have u10 : wc.cell? ⟨ub, 10, none⟩ = some (.int .i64 ac) := cell_of_block hr3 10
            have uf := free_of_block hr3 10
            have ult := lt_of_block hr3
            clear hr3 hb3 z0 z1 zf zlt hwa hwb htm hwc HS2
            go_upto_region 12 with (first
              | (go_at_call 23; (with_reducible refine (HR3.out _).mono ?_); rintro e w3 ⟨rfl, rfl⟩)
              | fail)
            obtain ⟨w4, hw4⟩ : ∃ w4, wc.setCell ⟨ub, 10, none⟩ (.int .i64 na) = w4 := ⟨_, rfl⟩
            rw [hw4]
            have hr4 : w4.heap[ub]? = some (.cells #[.int .i64 nf, .int .i64 nt, .int .i64 xk, .int .i64 xmn, .int .i64 xmx, .int .u64 xs0, .int .u64 xs1, .int .u64 xs2, .int .u64 xs3, .slice xa xl.length xcap, .int .i64 na, .int .i64 yk, .int .i64 ymn, .int .i64 ymx, .int .u64 ys0, .int .u64 ys1, .int .u64 ys2, .int .u64 ys3, .slice ya yl.length ycap] 53 (0, 0)) := by rw [← hw4]; exact (setCell_block (w := wc) HR3b.out 10 (.int .i64 na)).trans rfl
            have hb4 : Below ub wr w4 := by rw [← hw4]; exact HB3.out.setCell (by show ub ≤ ub; omega) _
            have hl4 : Later wr w4 := by unfold Later; rw [HUB.out]; exact hb4
            have HR4 := Lib.hid hr4
            have HS4 := Lib.hid (fun w' (h' : Later w4 w') => show w'.cell? ⟨ub, 0, none⟩ = some (.int .i64 nf) ∧ w'.cell? ⟨ub, 1, none⟩ = some (.int .i64 nt) ∧ w'.cell? ⟨ub, 2, none⟩ = some (.int .i64 xk) ∧ w'.cell? ⟨ub, 3, none⟩ = some (.int .i64 xmn) ∧ w'.cell? ⟨ub, 4, none⟩ = some (.int .i64 xmx) ∧ w'.cell? ⟨ub, 5, none⟩ = some (.int .u64 xs0) ∧ w'.cell? ⟨ub, 6, none⟩ = some (.int .u64 xs1) ∧ w'.cell? ⟨ub, 7, none⟩ = some (.int .u64 xs2) ∧ w'.cell? ⟨ub, 8, none⟩ = some (.int .u64 xs3) ∧ w'.cell? ⟨ub, 9, none⟩ = some (.slice xa xl.length xcap) ∧ w'.cell? ⟨ub, 10, none⟩ = some (.int .i64 na) ∧ w'.cell? ⟨ub, 11, none⟩ = some (.int .i64 yk) ∧ w'.cell? ⟨ub, 12, none⟩ = some (.int .i64 ymn) ∧ w'.cell? ⟨ub, 13, none⟩ = some (.int .i64 ymx) ∧ w'.cell? ⟨ub, 14, none⟩ = some (.int .u64 ys0) ∧ w'.cell? ⟨ub, 15, none⟩ = some (.int .u64 ys1) ∧ w'.cell? ⟨ub, 16, none⟩ = some (.int .u64 ys2) ∧ w'.cell? ⟨ub, 17, none⟩ = some (.int .u64 ys3) ∧ w'.cell? ⟨ub, 18, none⟩ = some (.slice ya yl.length ycap) ∧ ub < w'.heap.size from
              ⟨cell_of_block (h'.block hr4) 0, cell_of_block (h'.block hr4) 1, cell_of_block (h'.block hr4) 2, cell_of_block (h'.block hr4) 3, cell_of_block (h'.block hr4) 4, cell_of_block (h'.block hr4) 5, cell_of_block (h'.block hr4) 6, cell_of_block (h'.block hr4) 7, cell_of_block (h'.block hr4) 8, cell_of_block (h'.block hr4) 9, cell_of_block (h'.block hr4) 10, cell_of_block (h'.block hr4) 11, cell_of_block (h'.block hr4) 12, cell_of_block (h'.block hr4) 13, cell_of_block (h'.block hr4) 14, cell_of_block (h'.block hr4) 15, cell_of_block (h'.block hr4) 16, cell_of_block (h'.block hr4) 17, cell_of_block (h'.block hr4) 18, lt_of_block (h'.block hr4)⟩)
            obtain ⟨PE, hPE⟩ : ∃ PE, printE (RxA.node xk xmn xmx xs0 xs1 xs2 xs3 xa xcap xl).bare = PE := ⟨_, rfl⟩
            obtain ⟨QE, hQE⟩ : ∃ QE, printE (RxA.node yk ymn ymx ys0 ys1 ys2 ys3 ya ycap yl).bare = QE := ⟨_, rfl⟩
            obtain ⟨PS, hPS⟩ : ∃ PS : ByteArray, (⟨(printS (RxA.node xk xmn xmx xs0 xs1 xs2 xs3 xa xcap xl).bare).toArray⟩ : ByteArray) = PS := ⟨_, rfl⟩
            obtain ⟨QS, hQS⟩ : ∃ QS : ByteArray, (⟨(printS (RxA.node yk ymn ymx ys0 ys1 ys2 ys3 ya ycap yl).bare).toArray⟩ : ByteArray) = QS := ⟨_, rfl⟩
            have HPX := Lib.hid (fun w1 (h1 : Later w w1) => show Calls Tryz.prog 7 #[.agg #[.int .i64 xk, .int .i64 xmn, .int .i64 xmx, .int .u64 xs0, .int .u64 xs1, .int .u64 xs2, .int .u64 xs3, .slice xa xl.length xcap]] w1 fun e w' => e = .returned (.tuple #[.string PS, .int .i64 PE]) ∧ Later w1 w' from by
              have h := print_any w1 (RxA.node xk xmn xmx xs0 xs1 xs2 xs3 xa xcap xl) (in_later8 HMI.out.1 h1) (HPO.out w1 h1)
              rw [hPE, hPS] at h
              exact h)
            have HPY := Lib.hid (fun w1 (h1 : Later w w1) => show Calls Tryz.prog 7 #[.agg #[.int .i64 yk, .int .i64 ymn, .int .i64 ymx, .int .u64 ys0, .int .u64 ys1, .int .u64 ys2, .int .u64 ys3, .slice ya yl.length ycap]] w1 fun e w' => e = .returned (.tuple #[.string QS, .int .i64 QE]) ∧ Later w1 w' from by
              have h := print_any w1 (RxA.node yk ymn ymx ys0 ys1 ys2 ys3 ya ycap yl) (in_later8 HMI.out.2 h1) (HPO.out w1 h1)
              rw [hQE, hQS] at h
              exact h)
            have HINV := Lib.hid (show TopInv w w1 w1.heap.size R M ar am cr cm wr from ⟨by rw [HNR.out]; exact HOR.out, HOM.out, HRM.out, HGD.out, by rw [HNR.out]; omega, HLR.out⟩)
            have HPE := Lib.hid hPE
            have HQE := Lib.hid hQE
            have hPd : PS.data.toList = printS (RxA.node xk xmn xmx xs0 xs1 xs2 xs3 xa xcap xl).bare := by rw [← hPS]
            have hQd : QS.data.toList = printS (RxA.node yk ymn ymx ys0 ys1 ys2 ys3 ya ycap yl).bare := by rw [← hQS]
            have HPD := Lib.hid hPd
            have HQD := Lib.hid hQd
            have h04 : Later w w4 := HLL.out.trans hl4
            have hcase : (¬ na = 2 ∧ PE ≠ 0) ∨ (¬ na = 2 ∧ PE = 0) ∨ (na = 2 ∧ PE ≠ 0) ∨ (na = 2 ∧ PE = 0 ∧ QE ≠ 0) ∨ (na = 2 ∧ PE = 0 ∧ QE = 0) := by omega
            clear hw4 hr4 hb4 u10 uf ult hPE hQE hPS hQS hPd hQd HR2 HB2 HR3b HB3 HR1 HB1 HI19 H19 H1C HR8 HR7 HR3
            obtain ⟨v0, v1, v2, v3, v4, v5, v6, v7, v8, v9, v10, v11, v12, v13, v14, v15, v16, v17, v18, vlt⟩ := HS4.out w4 (Later.refl _)
            rcases hcase with ⟨h2, hp⟩ | ⟨h2, rfl⟩ | ⟨rfl, hp⟩ | ⟨rfl, rfl, hq⟩ | ⟨rfl, rfl, rfl⟩
            · have g1 : (na == 2) = false := by rw [beq_eq_false_iff_ne]; exact h2
              have g2 : (PE != 0) = true := by rw [bne_iff_ne]; exact hp
              clear h2 hp
              go_wp2_with (first
                | (go_at_call 7; (with_reducible refine (HPX.out _ h04).mono ?_); rintro e w5 ⟨rfl, hl5⟩; clear v0 v1 v2 v3 v4 v5 v6 v7 v8 v9 v10 v11 v12 v13 v14 v15 v16 v17 v18 vlt; obtain ⟨v0, v1, v2, v3, v4, v5, v6, v7, v8, v9, v10, v11, v12, v13, v14, v15, v16, v17, v18, vlt⟩ := HS4.out w5 hl5)
                | (go_at_call 7; (with_reducible refine (HPY.out _ (h04.trans hl5)).mono ?_); rintro e w6 ⟨rfl, hl6⟩; clear v0 v1 v2 v3 v4 v5 v6 v7 v8 v9 v10 v11 v12 v13 v14 v15 v16 v17 v18 vlt; obtain ⟨v0, v1, v2, v3, v4, v5, v6, v7, v8, v9, v10, v11, v12, v13, v14, v15, v16, v17, v18, vlt⟩ := HS4.out w6 (hl5.trans hl6))
                | fail)
              exact ⟨⟨k + 1, R, M, ar, am, cr, cm, by omega, by simp, by rw [HNR.out], rfl, HINV.out.later (by repeat (first | assumption | exact Later.refl _ | refine Later.alloc ?_ _ | refine Later.drew ?_ | refine Later.drewN ?_ _ | refine Later.trans ?_ (by assumption)))⟩, by simp only [intOf]; omega⟩
            · have g1 : (na == 2) = false := by rw [beq_eq_false_iff_ne]; exact h2
              have HN2 := Lib.hid h2
              clear h2
              go_upto_region 17 with (first
                | (go_at_call 7; (with_reducible refine (HPX.out _ h04).mono ?_); rintro e w5 ⟨rfl, hl5⟩; clear v0 v1 v2 v3 v4 v5 v6 v7 v8 v9 v10 v11 v12 v13 v14 v15 v16 v17 v18 vlt; obtain ⟨v0, v1, v2, v3, v4, v5, v6, v7, v8, v9, v10, v11, v12, v13, v14, v15, v16, v17, v18, vlt⟩ := HS4.out w5 hl5)
                | fail)
              have hlp : Later wr w5 := hl4.trans (hl5)
              have HB5 := Lib.hid ((hl5).block HR4.out)
              obtain ⟨WS, hWS⟩ : ∃ WS : ByteArray, (⟨#[]⟩ : ByteArray) = WS := ⟨_, rfl⟩
              obtain ⟨vR, hvR⟩ : ∃ v, Value.slice ar nr cr = v := ⟨_, rfl⟩
              obtain ⟨vM, hvM⟩ : ∃ v, Value.slice am M.length cm = v := ⟨_, rfl⟩
              have HO5 := Lib.hid (show w5.ownsRow w1.heap.size 56 5 vR nr (ruC R) from by rw [← hvR]; exact own_later HOR.out hlp)
              have HM5 := Lib.hid (show w5.ownsRow w1.heap.size 53 19 vM M.length (meC M) from by rw [← hvM]; exact own_later HOM.out hlp)
              have hszp : w1.heap.size ≤ w5.heap.size := Below.size (HLR.out.trans hlp)
              have HLP := Lib.hid (HLR.out.trans hlp)
              rw [hvR, hvM, hWS]
              have HWS := Lib.hid hWS
              clear hvR hvM hlp hl4 hl5  hWS
              go_upto_region 18 with (first
                | (refine wpList_append_lies _ rfl (.tmp 80) (.tmp 90) 38 rfl w1.heap.size 56 iR _ 5 56 Tryz.underlying38 hiR hr0 hr1 hr2 rfl (by decide) vR nr (ruC R) rfl (HO5.out.alloc _) ⟨w5.heap.size, 0, none⟩ 1 1 [.int .i64 nf, .int .i64 nt, .int .i64 na, .string PS, .string WS] rfl rfl (cells_new w5 [.int .i64 nf, .int .i64 nt, .int .i64 na, .string PS, .string WS] 56) (by intro u hu; simp only [List.mem_cons, List.not_mem_nil, or_false] at hu; rcases hu with rfl | rfl | rfl | rfl | rfl <;> rfl) (by decide) (by unfold maxLen; omega) (by omega) (by simp; omega) _ rfl ?_
                   intro g7 cap7 w7 hown7 hgrow7 hgat7 hglt7)
                | fail)
              have hA5 := (HLP.out.alloc (.cells #[.int .i64 nf, .int .i64 nt, .int .i64 na, .string PS, .string WS] 56))
              have hbel7 : Below w1.heap.size w1 w7 := Below.grown hA5 hgrow7 (by rw [World.size_alloc]; omega) (fun q hq => ((HO5.out.alloc (.cells #[.int .i64 nf, .int .i64 nt, .int .i64 na, .string PS, .string WS] 56)).lt q hq).1)
              have HM7 := Lib.hid ((HM5.out.alloc (.cells #[.int .i64 nf, .int .i64 nt, .int .i64 na, .string PS, .string WS] 56)).kept hgrow7 (own_apart (HO5.out.alloc (.cells #[.int .i64 nf, .int .i64 nt, .int .i64 na, .string PS, .string WS] 56)) (HM5.out.alloc (.cells #[.int .i64 nf, .int .i64 nt, .int .i64 na, .string PS, .string WS] 56)) (by decide)))
              have hub5 : ub < w5.heap.size := lt_of_block HB5.out
              have hb7 : w7.heap[ub]? = some (.cells #[.int .i64 nf, .int .i64 nt, .int .i64 xk, .int .i64 xmn, .int .i64 xmx, .int .u64 xs0, .int .u64 xs1, .int .u64 xs2, .int .u64 xs3, .slice xa xl.length xcap, .int .i64 na, .int .i64 yk, .int .i64 ymn, .int .i64 ymx, .int .u64 ys0, .int .u64 ys1, .int .u64 ys2, .int .u64 ys3, .slice ya yl.length ycap] 53 (0, 0)) := (hgrow7.block ub (by rw [World.size_alloc]; omega) (blk_apart (HO5.out.alloc (.cells #[.int .i64 nf, .int .i64 nt, .int .i64 na, .string PS, .string WS] 56)) (alloc_old HB5.out (.cells #[.int .i64 nf, .int .i64 nt, .int .i64 na, .string PS, .string WS] 56)) (by decide))).trans (alloc_old HB5.out (.cells #[.int .i64 nf, .int .i64 nt, .int .i64 na, .string PS, .string WS] 56))
              have hz7 : w1.heap.size ≤ w7.heap.size := Below.size hbel7
              have hub7 : ub < w7.heap.size := lt_of_block hb7
              obtain ⟨CV, hCV⟩ : ∃ CV : Array Value, (#[.int .i64 nf, .int .i64 nt, .int .i64 xk, .int .i64 xmn, .int .i64 xmx, .int .u64 xs0, .int .u64 xs1, .int .u64 xs2, .int .u64 xs3, .slice xa xl.length xcap, .int .i64 na, .int .i64 yk, .int .i64 ymn, .int .i64 ymx, .int .u64 ys0, .int .u64 ys1, .int .u64 ys2, .int .u64 ys3, .slice ya yl.length ycap] : Array Value) = CV := ⟨_, rfl⟩
              rw [hCV] at hb7
              have HB7 := Lib.hid hb7
              have HCV := Lib.hid hCV
              have HI19 := Lib.hid (show (Tryz.prog.info? 53).map (fun i => i.size) = some CV.size from by rw [← hCV]; exact info19)
              have hfold := fold_arr CV #[.int .i64 0, .int .i64 0, .int .i64 0, .int .i64 0, .int .i64 0, .int .u64 0, .int .u64 0, .int .u64 0, .int .u64 0, .slice none 0 0, .int .i64 0, .int .i64 0, .int .i64 0, .int .i64 0, .int .u64 0, .int .u64 0, .int .u64 0, .int .u64 0, .slice none 0 0] (by rw [← hCV]; rfl)
              have hcs19 : CV.size = 19 := by rw [← hCV]; rfl
              rw [hcs19] at hfold
              have HCL := Lib.hid (show CV.toList.length = 1 * 19 from by rw [← hCV]; rfl)
              have HC1 := Lib.hid (show ∀ u ∈ CV.toList, u.oneCell' = true from by rw [← hCV]; intro u hu; simp only [List.mem_cons, List.not_mem_nil, or_false] at hu; rcases hu with rfl | rfl | rfl | rfl | rfl | rfl | rfl | rfl | rfl | rfl | rfl | rfl | rfl | rfl | rfl | rfl | rfl | rfl | rfl <;> rfl)
              have hM32 : M.length < 32 := by have := HMR.out; have := HNR.out; omega
              have HO7 := Lib.hid hown7
              have HBL := Lib.hid hbel7
              clear hA5 hbel7 hb7 hCV hown7 hgrow7 hgat7 hub5 HB5 HO5 HM5 v0 v1 v2 v3 v4 v5 v6 v7 v8 v9 v10 v11 v12 v13 v14 v15 v16 v17 v18 vlt
              go_wp2_with (first
                | refine wpList_load_row rfl 53 (.tmp 8) rfl ub rfl 53 CV (0, 0) _ HB7.out Tryz.underlying53 rfl HI19.out ?_
                | (refine wpList_append_lies _ rfl (.tmp 92) (.tmp 94) 49 rfl w1.heap.size 53 iM _ 19 184 Tryz.underlying49 hiM hm0 hm1 hm2 rfl (by decide) vM M.length (meC M) rfl (HM7.out.alloc _) ⟨w7.heap.size, 0, none⟩ 1 1 CV.toList rfl HCL.out (cells_new w7 CV.toList 53) HC1.out (by decide) (by unfold maxLen; omega) (by omega) (by simp; omega) _ rfl ?_
                   intro g8 cap8 w8 hown8 hgrow8 hgat8 hglt8)
                | fail)
              refine ⟨⟨k + 1, R ++ [⟨nf, nt, na, PS, WS⟩], M ++ [⟨nf, nt, na, (RxA.node xk xmn xmx xs0 xs1 xs2 xs3 xa xcap xl), (RxA.node yk ymn ymx ys0 ys1 ys2 ys3 ya ycap yl)⟩], _, _, _, _, by omega, by simp, ?_, ?_, inv_push (by rw [HNR.out]; exact HO7.out) HM7.out (by rw [← HCV.out] at hown8; exact hown8) hgrow8 HBL.out hz7 HRM.out HGD.out (rul_val (m := ⟨nf, nt, na, (RxA.node xk xmn xmx xs0 xs1 xs2 xs3 xa xcap xl), (RxA.node yk ymn ymx ys0 ys1 ys2 ys3 ya ycap yl)⟩) (P := PS) (Q := WS) HPD.out (by rw [← HWS.out]; exact (if_neg HN2.out).symm)) ?_ (by rw [HNR.out]; exact hn32)⟩, by simp only [intOf]; omega⟩
              · rw [List.length_append, HNR.out]; rfl
              · rw [List.length_append]; rfl
              · have h := good_of (fr := fr) (tu := tu) (ac := ac) (X := (RxA.node xk xmn xmx xs0 xs1 xs2 xs3 xa xcap xl)) (Y := (RxA.node yk ymn ymx ys0 ys1 ys2 ys3 ya ycap yl)) HMI.out.1 HMI.out.2 HPE.out (fun h => absurd (HNA.out.symm.trans h) HN2.out)
                rw [HNF.out, HQ7.out, HNT.out, HNA.out] at h
                exact h
            · have g2 : (PE != 0) = true := by rw [bne_iff_ne]; exact hp
              clear hp
              go_wp2_with (first
                | (go_at_call 7; (with_reducible refine (HPX.out _ h04).mono ?_); rintro e w5 ⟨rfl, hl5⟩; clear v0 v1 v2 v3 v4 v5 v6 v7 v8 v9 v10 v11 v12 v13 v14 v15 v16 v17 v18 vlt; obtain ⟨v0, v1, v2, v3, v4, v5, v6, v7, v8, v9, v10, v11, v12, v13, v14, v15, v16, v17, v18, vlt⟩ := HS4.out w5 hl5)
                | (go_at_call 7; (with_reducible refine (HPY.out _ (h04.trans hl5)).mono ?_); rintro e w6 ⟨rfl, hl6⟩; clear v0 v1 v2 v3 v4 v5 v6 v7 v8 v9 v10 v11 v12 v13 v14 v15 v16 v17 v18 vlt; obtain ⟨v0, v1, v2, v3, v4, v5, v6, v7, v8, v9, v10, v11, v12, v13, v14, v15, v16, v17, v18, vlt⟩ := HS4.out w6 (hl5.trans hl6))
                | fail)
              exact ⟨⟨k + 1, R, M, ar, am, cr, cm, by omega, by simp, by rw [HNR.out], rfl, HINV.out.later (by repeat (first | assumption | exact Later.refl _ | refine Later.alloc ?_ _ | refine Later.drew ?_ | refine Later.drewN ?_ _ | refine Later.trans ?_ (by assumption)))⟩, by simp only [intOf]; omega⟩
            · have g2 : (QE != 0) = true := by rw [bne_iff_ne]; exact hq
              clear hq
              go_wp2_with (first
                | (go_at_call 7; (with_reducible refine (HPX.out _ h04).mono ?_); rintro e w5 ⟨rfl, hl5⟩; clear v0 v1 v2 v3 v4 v5 v6 v7 v8 v9 v10 v11 v12 v13 v14 v15 v16 v17 v18 vlt; obtain ⟨v0, v1, v2, v3, v4, v5, v6, v7, v8, v9, v10, v11, v12, v13, v14, v15, v16, v17, v18, vlt⟩ := HS4.out w5 hl5)
                | (go_at_call 7; (with_reducible refine (HPY.out _ (h04.trans hl5)).mono ?_); rintro e w6 ⟨rfl, hl6⟩; clear v0 v1 v2 v3 v4 v5 v6 v7 v8 v9 v10 v11 v12 v13 v14 v15 v16 v17 v18 vlt; obtain ⟨v0, v1, v2, v3, v4, v5, v6, v7, v8, v9, v10, v11, v12, v13, v14, v15, v16, v17, v18, vlt⟩ := HS4.out w6 (hl5.trans hl6))
                | fail)
              exact ⟨⟨k + 1, R, M, ar, am, cr, cm, by omega, by simp, by rw [HNR.out], rfl, HINV.out.later (by repeat (first | assumption | exact Later.refl _ | refine Later.alloc ?_ _ | refine Later.drew ?_ | refine Later.drewN ?_ _ | refine Later.trans ?_ (by assumption)))⟩, by simp only [intOf]; omega⟩
            · skip
              go_upto_region 17 with (first
                | (go_at_call 7; (with_reducible refine (HPX.out _ h04).mono ?_); rintro e w5 ⟨rfl, hl5⟩; clear v0 v1 v2 v3 v4 v5 v6 v7 v8 v9 v10 v11 v12 v13 v14 v15 v16 v17 v18 vlt; obtain ⟨v0, v1, v2, v3, v4, v5, v6, v7, v8, v9, v10, v11, v12, v13, v14, v15, v16, v17, v18, vlt⟩ := HS4.out w5 hl5)
                | (go_at_call 7; (with_reducible refine (HPY.out _ (h04.trans hl5)).mono ?_); rintro e w6 ⟨rfl, hl6⟩; clear v0 v1 v2 v3 v4 v5 v6 v7 v8 v9 v10 v11 v12 v13 v14 v15 v16 v17 v18 vlt; obtain ⟨v0, v1, v2, v3, v4, v5, v6, v7, v8, v9, v10, v11, v12, v13, v14, v15, v16, v17, v18, vlt⟩ := HS4.out w6 (hl5.trans hl6))
                | fail)
              have hlp : Later wr w6 := hl4.trans (hl5.trans hl6)
              have HB5 := Lib.hid ((hl5.trans hl6).block HR4.out)
              obtain ⟨WS, hWS⟩ : ∃ WS : ByteArray, QS = WS := ⟨_, rfl⟩
              obtain ⟨vR, hvR⟩ : ∃ v, Value.slice ar nr cr = v := ⟨_, rfl⟩
              obtain ⟨vM, hvM⟩ : ∃ v, Value.slice am M.length cm = v := ⟨_, rfl⟩
              have HO5 := Lib.hid (show w6.ownsRow w1.heap.size 56 5 vR nr (ruC R) from by rw [← hvR]; exact own_later HOR.out hlp)
              have HM5 := Lib.hid (show w6.ownsRow w1.heap.size 53 19 vM M.length (meC M) from by rw [← hvM]; exact own_later HOM.out hlp)
              have hszp : w1.heap.size ≤ w6.heap.size := Below.size (HLR.out.trans hlp)
              have HLP := Lib.hid (HLR.out.trans hlp)
              rw [hvR, hvM, hWS]
              have HWS := Lib.hid hWS
              clear hvR hvM hlp hl4 hl5 hl6 hWS
              go_upto_region 18 with (first
                | (refine wpList_append_lies _ rfl (.tmp 80) (.tmp 90) 38 rfl w1.heap.size 56 iR _ 5 56 Tryz.underlying38 hiR hr0 hr1 hr2 rfl (by decide) vR nr (ruC R) rfl (HO5.out.alloc _) ⟨w6.heap.size, 0, none⟩ 1 1 [.int .i64 nf, .int .i64 nt, .int .i64 2, .string PS, .string WS] rfl rfl (cells_new w6 [.int .i64 nf, .int .i64 nt, .int .i64 2, .string PS, .string WS] 56) (by intro u hu; simp only [List.mem_cons, List.not_mem_nil, or_false] at hu; rcases hu with rfl | rfl | rfl | rfl | rfl <;> rfl) (by decide) (by unfold maxLen; omega) (by omega) (by simp; omega) _ rfl ?_
                   intro g7 cap7 w7 hown7 hgrow7 hgat7 hglt7)
                | fail)
              have hA5 := (HLP.out.alloc (.cells #[.int .i64 nf, .int .i64 nt, .int .i64 2, .string PS, .string WS] 56))
              have hbel7 : Below w1.heap.size w1 w7 := Below.grown hA5 hgrow7 (by rw [World.size_alloc]; omega) (fun q hq => ((HO5.out.alloc (.cells #[.int .i64 nf, .int .i64 nt, .int .i64 2, .string PS, .string WS] 56)).lt q hq).1)
              have HM7 := Lib.hid ((HM5.out.alloc (.cells #[.int .i64 nf, .int .i64 nt, .int .i64 2, .string PS, .string WS] 56)).kept hgrow7 (own_apart (HO5.out.alloc (.cells #[.int .i64 nf, .int .i64 nt, .int .i64 2, .string PS, .string WS] 56)) (HM5.out.alloc (.cells #[.int .i64 nf, .int .i64 nt, .int .i64 2, .string PS, .string WS] 56)) (by decide)))
              have hub5 : ub < w6.heap.size := lt_of_block HB5.out
              have hb7 : w7.heap[ub]? = some (.cells #[.int .i64 nf, .int .i64 nt, .int .i64 xk, .int .i64 xmn, .int .i64 xmx, .int .u64 xs0, .int .u64 xs1, .int .u64 xs2, .int .u64 xs3, .slice xa xl.length xcap, .int .i64 2, .int .i64 yk, .int .i64 ymn, .int .i64 ymx, .int .u64 ys0, .int .u64 ys1, .int .u64 ys2, .int .u64 ys3, .slice ya yl.length ycap] 53 (0, 0)) := (hgrow7.block ub (by rw [World.size_alloc]; omega) (blk_apart (HO5.out.alloc (.cells #[.int .i64 nf, .int .i64 nt, .int .i64 2, .string PS, .string WS] 56)) (alloc_old HB5.out (.cells #[.int .i64 nf, .int .i64 nt, .int .i64 2, .string PS, .string WS] 56)) (by decide))).trans (alloc_old HB5.out (.cells #[.int .i64 nf, .int .i64 nt, .int .i64 2, .string PS, .string WS] 56))
              have hz7 : w1.heap.size ≤ w7.heap.size := Below.size hbel7
              have hub7 : ub < w7.heap.size := lt_of_block hb7
              obtain ⟨CV, hCV⟩ : ∃ CV : Array Value, (#[.int .i64 nf, .int .i64 nt, .int .i64 xk, .int .i64 xmn, .int .i64 xmx, .int .u64 xs0, .int .u64 xs1, .int .u64 xs2, .int .u64 xs3, .slice xa xl.length xcap, .int .i64 2, .int .i64 yk, .int .i64 ymn, .int .i64 ymx, .int .u64 ys0, .int .u64 ys1, .int .u64 ys2, .int .u64 ys3, .slice ya yl.length ycap] : Array Value) = CV := ⟨_, rfl⟩
              rw [hCV] at hb7
              have HB7 := Lib.hid hb7
              have HCV := Lib.hid hCV
              have HI19 := Lib.hid (show (Tryz.prog.info? 53).map (fun i => i.size) = some CV.size from by rw [← hCV]; exact info19)
              have hfold := fold_arr CV #[.int .i64 0, .int .i64 0, .int .i64 0, .int .i64 0, .int .i64 0, .int .u64 0, .int .u64 0, .int .u64 0, .int .u64 0, .slice none 0 0, .int .i64 0, .int .i64 0, .int .i64 0, .int .i64 0, .int .u64 0, .int .u64 0, .int .u64 0, .int .u64 0, .slice none 0 0] (by rw [← hCV]; rfl)
              have hcs19 : CV.size = 19 := by rw [← hCV]; rfl
              rw [hcs19] at hfold
              have HCL := Lib.hid (show CV.toList.length = 1 * 19 from by rw [← hCV]; rfl)
              have HC1 := Lib.hid (show ∀ u ∈ CV.toList, u.oneCell' = true from by rw [← hCV]; intro u hu; simp only [List.mem_cons, List.not_mem_nil, or_false] at hu; rcases hu with rfl | rfl | rfl | rfl | rfl | rfl | rfl | rfl | rfl | rfl | rfl | rfl | rfl | rfl | rfl | rfl | rfl | rfl | rfl <;> rfl)
              have hM32 : M.length < 32 := by have := HMR.out; have := HNR.out; omega
              have HO7 := Lib.hid hown7
              have HBL := Lib.hid hbel7
              clear hA5 hbel7 hb7 hCV hown7 hgrow7 hgat7 hub5 HB5 HO5 HM5 v0 v1 v2 v3 v4 v5 v6 v7 v8 v9 v10 v11 v12 v13 v14 v15 v16 v17 v18 vlt
              go_wp2_with (first
                | refine wpList_load_row rfl 53 (.tmp 8) rfl ub rfl 53 CV (0, 0) _ HB7.out Tryz.underlying53 rfl HI19.out ?_
                | (refine wpList_append_lies _ rfl (.tmp 92) (.tmp 94) 49 rfl w1.heap.size 53 iM _ 19 184 Tryz.underlying49 hiM hm0 hm1 hm2 rfl (by decide) vM M.length (meC M) rfl (HM7.out.alloc _) ⟨w7.heap.size, 0, none⟩ 1 1 CV.toList rfl HCL.out (cells_new w7 CV.toList 53) HC1.out (by decide) (by unfold maxLen; omega) (by omega) (by simp; omega) _ rfl ?_
                   intro g8 cap8 w8 hown8 hgrow8 hgat8 hglt8)
                | fail)
              refine ⟨⟨k + 1, R ++ [⟨nf, nt, 2, PS, WS⟩], M ++ [⟨nf, nt, 2, (RxA.node xk xmn xmx xs0 xs1 xs2 xs3 xa xcap xl), (RxA.node yk ymn ymx ys0 ys1 ys2 ys3 ya ycap yl)⟩], _, _, _, _, by omega, by simp, ?_, ?_, inv_push (by rw [HNR.out]; exact HO7.out) HM7.out (by rw [← HCV.out] at hown8; exact hown8) hgrow8 HBL.out hz7 HRM.out HGD.out (rul_val (m := ⟨nf, nt, 2, (RxA.node xk xmn xmx xs0 xs1 xs2 xs3 xa xcap xl), (RxA.node yk ymn ymx ys0 ys1 ys2 ys3 ya ycap yl)⟩) (P := PS) (Q := WS) HPD.out (by rw [← HWS.out]; exact HQD.out.trans (if_pos rfl).symm)) ?_ (by rw [HNR.out]; exact hn32)⟩, by simp only [intOf]; omega⟩
              · rw [List.length_append, HNR.out]; rfl
              · rw [List.length_append]; rfl
              · have h := good_of (fr := fr) (tu := tu) (ac := ac) (X := (RxA.node xk xmn xmx xs0 xs1 xs2 xs3 xa xcap xl)) (Y := (RxA.node yk ymn ymx ys0 ys1 ys2 ys3 ya ycap yl)) HMI.out.1 HMI.out.2 HPE.out (fun _ => HQE.out)
                rw [HNF.out, HQ7.out, HNT.out, HNA.out] at h
                exact h
        · have hn32i : ¬ (nr : Int) < 32 := by omega
          go_wp2_with fail
          go_meet
          case rel => exact ⟨R, M, ar, am, cr, cm, by rw [HNR.out], rfl, ⟨by rw [HNR.out]; exact HOR.out, HOM.out, HRM.out, HGD.out, by rw [HNR.out]; omega, HLR.out⟩⟩
      · have hkm : ¬ (k : Int) < (m : Int) := by omega
        go_wp2_with fail
        go_meet
        case rel => exact ⟨R, M, ar, am, cr, cm, by rw [HNR.out], rfl, ⟨by rw [HNR.out]; exact HOR.out, HOM.out, HRM.out, HGD.out, by rw [HNR.out]; omega, HLR.out⟩⟩
  case rest =>
    obtain ⟨R, M, ar, am, cr, cm, rfl, rfl, hinv⟩ := hcut
    obtain ⟨hoR, hoM, hRM, hgood, hR32, hbel⟩ := hinv
    have hlc : Later w1 wc := hbel
    have hMR := map_len hRM
    have hin5 := rules_own hoR
    have HMO := Lib.hid (fun (i : Nat) (hi : i < M.length) => meant_own hoM hi)
    have hck : checkG (R.map RuV.bare) 8 = 0 := by
      have hRB : R.map RuV.bare = (M.map MeV.bare).map Mea.rul := by rw [hRM, List.map_map]; rfl
      rw [hRB]
      exact check_good (fun x hx => by obtain ⟨y, hy, rfl⟩ := List.mem_map.1 hx; exact (hgood y hy).1) (by rw [List.length_map, ← hMR]; exact hR32)
    obtain ⟨nf, hnf⟩ : ∃ nf, xf % 8 = nf := ⟨_, rfl⟩
    obtain ⟨q7, hq7⟩ : ∃ q, xt % 7 = q := ⟨_, rfl⟩
    obtain ⟨nt, hnt⟩ : ∃ nt, (nf + 1 + q7) % 8 = nt := ⟨_, rfl⟩
    have bf : 0 ≤ nf ∧ nf < 8 := by omega
    have bq : 0 ≤ q7 ∧ q7 < 7 := by omega
    have HR8 := Lib.hid (fun w1 => show Calls Tryz.prog 23 #[.int .i64 xf, .int .i64 8] w1 fun e w' => e = .returned (.int .i64 nf) ∧ w1 = w' from by rw [← hnf]; exact HRE.out w1 xf 8 HXF.out (.inl rfl))
    have HR7 := Lib.hid (fun w1 => show Calls Tryz.prog 23 #[.int .i64 xt, .int .i64 7] w1 fun e w' => e = .returned (.int .i64 q7) ∧ w1 = w' from by rw [← hq7]; exact HRE.out w1 xt 7 HXT.out (.inr (.inl rfl)))
    have HNT := Lib.hid hnt
    obtain ⟨⟨f0, ac, O, er⟩, hD⟩ : ∃ D, decideG (R.map RuV.bare) nf nt S.data.toList = D := ⟨_, rfl⟩
    obtain ⟨OUT, hO⟩ : ∃ OUT : ByteArray, (⟨O.toArray⟩ : ByteArray) = OUT := ⟨_, rfl⟩
    have h0c : Later w0 wc := HLW.out.trans hlc
    have hwc : Later w wc := HL1.out.trans hlc
    have HDE := Lib.hid (fun w' (h' : Later wc w') => show Calls Tryz.prog 17 #[.slice ar R.length cr, .int .i64 nf, .int .i64 nt, .string S] w' fun e w'' => e = .returned (.tuple #[.agg #[.int .i64 f0, .int .i64 ac, .string OUT], .int .i64 er]) ∧ Later w' w'' from by
      have h2 := decide_any w' ar cr R nf nt S (hin5.later h') (HTA.out w' (hwc.trans h'))
      rw [hD] at h2
      rw [← hO]
      exact h2)
    have HCK := Lib.hid (fun w' (h' : Later wc w') => show Calls Tryz.prog 19 #[.slice ar R.length cr, .int .i64 8] w' fun e w'' => e = .returned (.int .i64 0) ∧ Later w' w'' from by
      have h2 := check_any w' ar cr R 8 (hin5.later h')
      rw [hck] at h2
      exact h2)
    obtain ⟨nr, hnr⟩ : ∃ nr, R.length = nr := ⟨_, rfl⟩
    obtain ⟨nM, hnM⟩ : ∃ n, M.length = n := ⟨_, rfl⟩
    rw [hnr] at HDE HCK ⊢
    rw [hnM]
    have HNM := Lib.hid hnM
    have HMR := Lib.hid (hMR.symm.trans hnr)
    have HNR := Lib.hid hnr
    have HRM := Lib.hid hRM
    have HGD := Lib.hid hgood
    have HD := Lib.hid hD
    have HO := Lib.hid hO
    have HCG := Lib.hid hck
    have hnM32 : nM ≤ 32 := by omega
    have HWC := Lib.hid hwc
    clear hnf hq7 hnt hoR hoM hRM hgood hbel hMR hin5 hnr hnM hD hO hck hwc hR32 hlc HXF HXT HRE HIN HFX
    obtain ⟨p0, p1, p2⟩ := HSX.out wc h0c
    have plt := HSZ.out wc h0c
    go_upto_region 21 with (first
      | (go_at_call 23; (with_reducible refine (HR8.out _).mono ?_); rintro e w3 ⟨rfl, rfl⟩)
      | (go_at_call 23; (with_reducible refine (HR7.out _).mono ?_); rintro e w3 ⟨rfl, rfl⟩)
      | fail)
    rw [HNT.out]
    go_upto_region 22 with (first
      | (go_at_call 17; (with_reducible refine (HDE.out _ (Later.refl _)).mono ?_); rintro e w3 ⟨rfl, hl3⟩)
      | fail)
    obtain ⟨wd, hwd⟩ : ∃ wd, w3.alloc (.cells #[.int .i64 f0, .int .i64 ac, .string OUT] 42) = wd := ⟨_, rfl⟩
    rw [hwd]
    have hld : Later w3 wd := by rw [← hwd]; exact (Later.refl w3).alloc _
    have hbd : wd.heap[w3.heap.size]? = some (.cells #[.int .i64 f0, .int .i64 ac, .string OUT] 42 (0, 0)) := by rw [← hwd]; exact alloc_block w3 _
    obtain ⟨db, hdb⟩ : ∃ db, w3.heap.size = db := ⟨_, rfl⟩
    rw [hdb] at hbd ⊢
    have hcd : Later wc wd := hl3.trans hld
    have HSD := Lib.hid (fun w' (h' : Later wd w') => show w'.cell? ⟨w.heap.size, 0, none⟩ = some (.int .i64 xf) ∧ w'.cell? ⟨w.heap.size, 1, none⟩ = some (.int .i64 xt) ∧ w'.cell? ⟨w.heap.size, 2, none⟩ = some (.string S) ∧ w'.cell? ⟨db, 0, none⟩ = some (.int .i64 f0) ∧ w'.cell? ⟨db, 1, none⟩ = some (.int .i64 ac) ∧ w'.cell? ⟨db, 2, none⟩ = some (.string OUT) ∧ db < w'.heap.size ∧ w.heap.size < w'.heap.size from
      have h0 := HSX.out w' (h0c.trans (hcd.trans h'))
      ⟨h0.1, h0.2.1, h0.2.2, cell_of_block (h'.block hbd) 0, cell_of_block (h'.block hbd) 1, cell_of_block (h'.block hbd) 2, lt_of_block (h'.block hbd), HSZ.out w' (h0c.trans (hcd.trans h'))⟩)
    have HCD := Lib.hid hcd
    have HBD := Lib.hid hbd
    have HDB := Lib.hid hdb
    clear hwd hbd hdb p0 p1 p2 plt hl3 hld hcd h0c HDE HSX HSZ HR8 HR7
    have hlen : S.data.toList.length = S.size := ba_len S
    obtain ⟨p0, p1, p2, e0, e1, e2, elt, wlt⟩ := HSD.out wd (Later.refl _)
    by_cases hs : S.size ≤ 200
    · have hg : ¬ (200 : Int) < S.size := by omega
      obtain rfl : er = 0 := by
        have h := HD.out
        unfold decideG at h
        rw [if_neg (by rw [HCG.out]; decide), if_neg (by omega)] at h
        split at h
        · exact (Prod.mk.inj (Prod.mk.inj (Prod.mk.inj h).2).2).2.symm
        · exact (Prod.mk.inj (Prod.mk.inj (Prod.mk.inj h).2).2).2.symm
      go_upto_block 2 with (first
        | (go_at_call 19; (with_reducible refine (HCK.out _ HCD.out).mono ?_); rintro e w4 ⟨rfl, hl4⟩)
        | fail)
      have HL4 := Lib.hid hl4
      clear hl4 p0 p1 p2 e0 e1 e2 elt wlt HCK
      go_wp2_with fail
      go_loopw [17] (fun v wr => ∃ k : Nat, k ≤ nM ∧ v = .int .i64 k ∧ Later wd wr ∧ firstG nf nt S.data.toList 0 (R.map RuV.bare) = firstG nf nt S.data.toList k ((R.map RuV.bare).drop k)) (fun v _ => nM - (intOf v).toNat)
      case atStart => exact ⟨0, by omega, rfl, HL4.out, rfl⟩
      case round =>
        obtain ⟨k, hk, rfl, hlr, hfi⟩ := hrel
        have HFI := Lib.hid hfi
        clear hfi
        by_cases hlt : k < nM
        · have hkm : (k : Int) < (nM : Int) := by omega
          have hkl : k < M.length := by have := HNM.out; omega
          obtain ⟨g, rfl, hg1, hg2, hcs⟩ := HMO.out k hkl
          have hgd := HGD.out M[k] (List.getElem_mem hkl)
          have hbk : (R.map RuV.bare)[k]? = some M[k].bare.rul := by rw [HRM.out, List.getElem?_map, List.getElem?_eq_getElem hkl]; rfl
          have hgr : g < wr.heap.size := by have := Below.size (HCD.out.trans hlr); omega
          have hcs' : ∀ j, j < 19 → wr.cell? ⟨g, 0 + k * 19 + j, none⟩ = M[k].cells[j]? := fun j hj => by
            rw [Nat.zero_add]
            exact ((HCD.out.trans hlr).out.cell (p := ⟨g, k * 19 + j, none⟩) hg2).trans (hcs j hj)
          obtain ⟨el, hel⟩ : ∃ el, M[k] = el := ⟨_, rfl⟩
          rw [hel] at hgd hbk hcs'
          obtain ⟨fr, tu, tc, X, Y⟩ := el
          clear hcs hel hkl
          obtain ⟨xk, xmn, xmx, xs0, xs1, xs2, xs3, xa, xcap, xl⟩ := X
          obtain ⟨yk, ymn, ymx, ys0, ys1, ys2, ys3, ya, ycap, yl⟩ := Y
          obtain ⟨c0, c1, c2, c3, c4, c5, c6, c7, c8, c9, c10, c11, c12, c13, c14, c15, c16, c17, c18⟩ := me_cells hcs'
          have HGG := Lib.hid hgd.1
          have HMI := Lib.hid hgd.2
          have HBK := Lib.hid hbk
          have hact : 0 ≤ tc ∧ tc ≤ 2 := hgd.1.2.2.2.1
          obtain ⟨CS, hCS⟩ : ∃ CS : Array Value, (#[.int .i64 fr, .int .i64 tu, .int .i64 xk, .int .i64 xmn, .int .i64 xmx, .int .u64 xs0, .int .u64 xs1, .int .u64 xs2, .int .u64 xs3, .slice xa xl.length xcap, .int .i64 tc, .int .i64 yk, .int .i64 ymn, .int .i64 ymx, .int .u64 ys0, .int .u64 ys1, .int .u64 ys2, .int .u64 ys3, .slice ya yl.length ycap] : Array Value) = CS := ⟨_, rfl⟩
          have HC0 := Lib.hid (show ∀ j v, CS[j]? = some v → wr.cell? ⟨g, k * 19 + j, none⟩ = some v from by
            rw [← hCS]
            intro j v hj
            have hlt : j < 19 := (Array.getElem?_eq_some_iff.1 hj).1
            have h := hcs' j hlt
            rw [Nat.zero_add] at h
            rw [h, ← hj]
            exact (List.getElem?_toArray).symm)
          have HZ := Lib.hid (alloc_block wr (.cells #[.int .i64 0, .int .i64 0, .int .i64 0, .int .i64 0, .int .i64 0, .int .u64 0, .int .u64 0, .int .u64 0, .int .u64 0, .slice none 0 0, .int .i64 0, .int .i64 0, .int .i64 0, .int .i64 0, .int .u64 0, .int .u64 0, .int .u64 0, .int .u64 0, .slice none 0 0] 53))
          have HI19 := Lib.hid (show (Tryz.prog.info? 53).map (fun i => i.size) = some CS.size from by rw [← hCS]; exact info19)
          have H19 := Lib.hid (show (19 : Nat) = CS.size from by rw [← hCS]; rfl)
          have H1C := Lib.hid (show CS.all (fun x => x.oneCell') = true from by rw [← hCS]; simp [Value.oneCell'])
          have HCSE := Lib.hid hCS
          clear c0 c1 c2 c3 c4 c5 c6 c7 c8 c9 c10 c11 c12 c13 c14 c15 c16 c17 c18 hCS hcs' hgd hbk hg1 hg2
          go_upto_region 30 with (first
            | refine wpList_load_at rfl 53 (.tmp 141) rfl g (k * 19) rfl CS _ HC0.out Tryz.underlying53 rfl HI19.out ?_
            | refine wpList_store_row rfl 53 (.tmp 18) (.tmp 142) rfl wr.heap.size CS rfl rfl 53 _ HZ.out HI19.out H19.out H1C.out ?_
            | fail)
          have hW1 : ∀ W1, W1 = (wr.alloc (.cells #[.int .i64 0, .int .i64 0, .int .i64 0, .int .i64 0, .int .i64 0, .int .u64 0, .int .u64 0, .int .u64 0, .int .u64 0, .slice none 0 0, .int .i64 0, .int .i64 0, .int .i64 0, .int .i64 0, .int .u64 0, .int .u64 0, .int .u64 0, .int .u64 0, .slice none 0 0] 53)).setRow wr.heap.size CS → W1.heap[wr.heap.size]? = some (.cells CS 53 (0, 0)) ∧ Later wr W1 := by
            rintro W1 rfl
            refine ⟨setRow_heap _ _ _ _ _ _ HZ.out, ?_⟩
            have h1 := (Below.refl wr.heap.size wr).alloc (Nat.le_refl _) (.cells #[.int .i64 0, .int .i64 0, .int .i64 0, .int .i64 0, .int .i64 0, .int .u64 0, .int .u64 0, .int .u64 0, .int .u64 0, .slice none 0 0, .int .i64 0, .int .i64 0, .int .i64 0, .int .i64 0, .int .u64 0, .int .u64 0, .int .u64 0, .int .u64 0, .slice none 0 0] 53)
            exact ⟨h1.os, h1.tape, h1.output, by simp, fun k hk => (setRow_other _ _ _ _ (by omega)).trans (h1.block k hk)⟩
          generalize hg1 : World.setRow (World.alloc wr _) _ _ = W1
          obtain ⟨hr1', hl1'⟩ := hW1 W1 hg1.symm
          obtain ⟨ub, hub⟩ : ∃ ub, wr.heap.size = ub := ⟨_, rfl⟩
          rw [hub] at hr1' hgr ⊢
          rw [← HCSE.out] at hr1'
          have hdW : Later wd W1 := hlr.trans hl1'
          have HSU := Lib.hid (fun w' (h' : Later W1 w') => show w'.cell? ⟨ub, 0, none⟩ = some (.int .i64 fr) ∧ w'.cell? ⟨ub, 1, none⟩ = some (.int .i64 tu) ∧ w'.cell? ⟨ub, 2, none⟩ = some (.int .i64 xk) ∧ w'.cell? ⟨ub, 3, none⟩ = some (.int .i64 xmn) ∧ w'.cell? ⟨ub, 4, none⟩ = some (.int .i64 xmx) ∧ w'.cell? ⟨ub, 5, none⟩ = some (.int .u64 xs0) ∧ w'.cell? ⟨ub, 6, none⟩ = some (.int .u64 xs1) ∧ w'.cell? ⟨ub, 7, none⟩ = some (.int .u64 xs2) ∧ w'.cell? ⟨ub, 8, none⟩ = some (.int .u64 xs3) ∧ w'.cell? ⟨ub, 9, none⟩ = some (.slice xa xl.length xcap) ∧ w'.cell? ⟨ub, 10, none⟩ = some (.int .i64 tc) ∧ w'.cell? ⟨ub, 11, none⟩ = some (.int .i64 yk) ∧ w'.cell? ⟨ub, 12, none⟩ = some (.int .i64 ymn) ∧ w'.cell? ⟨ub, 13, none⟩ = some (.int .i64 ymx) ∧ w'.cell? ⟨ub, 14, none⟩ = some (.int .u64 ys0) ∧ w'.cell? ⟨ub, 15, none⟩ = some (.int .u64 ys1) ∧ w'.cell? ⟨ub, 16, none⟩ = some (.int .u64 ys2) ∧ w'.cell? ⟨ub, 17, none⟩ = some (.int .u64 ys3) ∧ w'.cell? ⟨ub, 18, none⟩ = some (.slice ya yl.length ycap) ∧ ub < w'.heap.size from
            ⟨cell_of_block (h'.block hr1') 0, cell_of_block (h'.block hr1') 1, cell_of_block (h'.block hr1') 2, cell_of_block (h'.block hr1') 3, cell_of_block (h'.block hr1') 4, cell_of_block (h'.block hr1') 5, cell_of_block (h'.block hr1') 6, cell_of_block (h'.block hr1') 7, cell_of_block (h'.block hr1') 8, cell_of_block (h'.block hr1') 9, cell_of_block (h'.block hr1') 10, cell_of_block (h'.block hr1') 11, cell_of_block (h'.block hr1') 12, cell_of_block (h'.block hr1') 13, cell_of_block (h'.block hr1') 14, cell_of_block (h'.block hr1') 15, cell_of_block (h'.block hr1') 16, cell_of_block (h'.block hr1') 17, cell_of_block (h'.block hr1') 18, lt_of_block (h'.block hr1')⟩)
          have HSD2 := Lib.hid (fun w' (h' : Later W1 w') => HSD.out w' (hdW.trans h'))
          have HDW := Lib.hid (HWC.out.trans (HCD.out.trans hdW))
          have HUB := Lib.hid hub
          clear hW1 hg1 hr1' HZ HC0 HI19 H19 H1C hub
          obtain ⟨v0, v1, v2, v3, v4, v5, v6, v7, v8, v9, v10, v11, v12, v13, v14, v15, v16, v17, v18, vlt⟩ := HSU.out W1 (Later.refl _)
          obtain ⟨p0, p1, p2, e0, e1, e2, elt, wlt⟩ := HSD2.out W1 (Later.refl _)
          have htk : ((RxA.node xk xmn xmx xs0 xs1 xs2 xs3 xa xcap xl)).bare = ((RxA.node xk xmn xmx xs0 xs1 xs2 xs3 xa xcap xl)).bare := rfl
          obtain ⟨x, hxe⟩ : ∃ x, ((RxA.node xk xmn xmx xs0 xs1 xs2 xs3 xa xcap xl)).bare = x := ⟨_, rfl⟩
          obtain ⟨y, hye⟩ : ∃ y, ((RxA.node yk ymn ymx ys0 ys1 ys2 ys3 ya ycap yl)).bare = y := ⟨_, rfl⟩
          have hgx : (⟨fr, tu, tc, x, y⟩ : Mea).good := by rw [← hxe, ← hye]; exact HGG.out
          have hbk2 : (R.map RuV.bare)[k]? = some (⟨fr, tu, tc, x, y⟩ : Mea).rul := by rw [← hxe, ← hye]; exact HBK.out
          have htake := takes_good hgx nf nt S.data.toList
          have HGX := Lib.hid hgx
          have HBK2 := Lib.hid hbk2
          have HXC := Lib.hid (check_of_printW hgx.2.2.2.2.1)
          have HYE := Lib.hid hye
          have HXE := Lib.hid hxe
          obtain ⟨bi, hbi⟩ : ∃ bi, inB x.lang S.data.toList = bi := ⟨_, rfl⟩
          have hbl : inL x.lang S.data.toList = bi := by rw [← hbi, Bool.eq_iff_iff, inL_iff, inB_iff]
          have HRI := Lib.hid (fun w1 (h1 : Later w w1) => show Calls Tryz.prog 24 #[.agg #[.int .i64 xk, .int .i64 xmn, .int .i64 xmx, .int .u64 xs0, .int .u64 xs1, .int .u64 xs2, .int .u64 xs3, .slice xa xl.length xcap], .string S] w1 fun e w' => e = .returned (.bool bi) ∧ Later w1 w' from by
            have h := ris_any w1 (RxA.node xk xmn xmx xs0 xs1 xs2 xs3 xa xcap xl) S (by omega) (in_later8 HMI.out.1 h1) (by rw [HXE.out]; exact HXC.out)
            rw [HXE.out, hbi] at h
            exact h)
          simp only [hbl] at htake
          have HTK := Lib.hid htake
          clear htk hxe hye hgx hbk2 htake hbi hbl
          have hcase : fr ≠ nf ∨ (fr = nf ∧ tu ≠ nt) ∨ (fr = nf ∧ tu = nt) := by omega
          rcases hcase with h1 | ⟨rfl, h1⟩ | ⟨rfl, rfl⟩
          · have g1 : (fr != nf) = true := by rw [bne_iff_ne]; exact h1
            have HN := Lib.hid (HFI.out.trans (firstG_step HBK2.out (by rw [HTK.out, decide_eq_false h1]; rfl)))
            clear h1
            go_wp2_with fail
            exact ⟨⟨k + 1, by omega, by simp, hlr.trans hl1', HN.out⟩, by simp only [intOf]; omega⟩
          · have g1 : (tu != nt) = true := by rw [bne_iff_ne]; exact h1
            have HN := Lib.hid (HFI.out.trans (firstG_step HBK2.out (by rw [HTK.out, decide_eq_false h1, Bool.and_false]; rfl)))
            clear h1
            go_wp2_with fail
            exact ⟨⟨k + 1, by omega, by simp, hlr.trans hl1', HN.out⟩, by simp only [intOf]; omega⟩
          · cases bi with
            | false =>
              have HN := Lib.hid (HFI.out.trans (firstG_step HBK2.out (by rw [HTK.out, Bool.and_false])))
              go_wp2_with (first
                | (go_at_call 24; (with_reducible refine (HRI.out _ HDW.out).mono ?_); rintro e w6 ⟨rfl, hl6⟩)
                | fail)
              exact ⟨⟨k + 1, by omega, by simp, hlr.trans (hl1'.trans hl6), HN.out⟩, by simp only [intOf]; omega⟩
            | true =>
              have hd := decide_some (s := S.data.toList) HCG.out (by omega) (HFI.out.trans (firstG_hit HBK2.out (by rw [HTK.out]; simp)))
              rw [HD.out] at hd
              obtain ⟨hf0, hd2⟩ := Prod.mk.inj hd
              obtain ⟨hac, hd3⟩ := Prod.mk.inj hd2
              obtain ⟨hO1, -⟩ := Prod.mk.inj hd3
              have hac' : ac = tc := hac
              rw [out_good HGX.out] at hO1
              have HO1 := Lib.hid hO1
              have hconv : ∀ W : World, (convert 9 58 (.string S)).run Tryz.prog W = .ok (.slice (some ⟨W.heap.size, 0, none⟩) S.size (grownCap W S.size 0 5)) (Lib.bytesWorld W 5 S) :=
                fun W => Lib.run_convert_string_bytes W _ _ _ S Tryz.underlying9 Tryz.underlying58 Tryz.underlying5
              clear hd hd2 hd3 hac hO1
              subst hf0
              subst hac'
              go_upto_region 32 with (first
                | (go_at_call 24; (with_reducible refine (HRI.out _ HDW.out).mono ?_); rintro e w6 ⟨rfl, hl6⟩; clear v0 v1 v2 v3 v4 v5 v6 v7 v8 v9 v10 v11 v12 v13 v14 v15 v16 v17 v18 vlt p0 p1 p2 e0 e1 e2 elt wlt; obtain ⟨v0, v1, v2, v3, v4, v5, v6, v7, v8, v9, v10, v11, v12, v13, v14, v15, v16, v17, v18, vlt⟩ := HSU.out w6 hl6; obtain ⟨p0, p1, p2, e0, e1, e2, elt, wlt⟩ := HSD2.out w6 hl6)
                | fail)
              clear hconv
              obtain ⟨W2, hW2⟩ : ∃ W2, Lib.bytesWorld w6 5 S = W2 := ⟨_, rfl⟩
              obtain ⟨bb, hbb⟩ : ∃ bb, w6.heap.size = bb := ⟨_, rfl⟩
              rw [hW2, hbb]
              generalize grownCap w6 S.size 0 5 = cap0
              have hs2 : W2.heap.size = bb + 1 := by rw [← hW2, Lib.bytesWorld_size, hbb]
              have hl62 : Later w6 W2 := by
                rw [← hW2]
                exact ⟨rfl, rfl, rfl, by rw [Lib.bytesWorld_size]; omega, fun k hk => Lib.bytesWorld_at_old _ _ _ _ hk⟩
              have hst : StarsAt W2 bb S (starB []) := by
                intro j hj
                rw [← hW2, ← hbb]
                exact ⟨Lib.bytesWorld_cell _ _ _ _ hj, bytes_free _ _ _ _ hj⟩
              have hdb : db < bb := by rw [← hbb]; exact elt
              have hubb : ub < bb := by rw [← hbb]; exact vlt
              have hwb : w.heap.size < bb := by rw [← hbb]; exact wlt
              have HST := Lib.hid hst
              have HBB := Lib.hid hbb
              have HS2 := Lib.hid hs2
              have h12 : Later W1 W2 := hl6.trans hl62
              have HW2 := Lib.hid (HDW.out.trans h12)
              clear v0 v1 v2 v3 v4 v5 v6 v7 v8 v9 v10 v11 v12 v13 v14 v15 v16 v17 v18 vlt p0 p1 p2 e0 e1 e2 elt wlt
              obtain ⟨v0, v1, v2, v3, v4, v5, v6, v7, v8, v9, v10, v11, v12, v13, v14, v15, v16, v17, v18, vlt⟩ := HSU.out W2 h12
              obtain ⟨p0, p1, p2, e0, e1, e2, elt, wlt⟩ := HSD2.out W2 h12
              clear hst hbb hs2 hW2 hl62 hl6
              have htc : ac = 0 ∨ ac = 1 ∨ ac = 2 := by omega
              rcases htc with rfl | rfl | rfl
              · obtain rfl : OUT = ⟨#[]⟩ := by rw [← HO.out, HO1.out]; rfl
                have hnil : ∀ W : World, (convert 58 9 (.slice none 0 0)).run Tryz.prog W = .ok (.string ⟨#[]⟩) W := fun W => by kernel_rfl
                go_wp2_with fail
                go_ret
                exact ⟨rfl, HW2.out⟩
              · have hcv : (convert 58 9 (.slice (some ⟨bb, 0, none⟩) S.size cap0)).run Tryz.prog W2 = .ok (.string OUT) W2 := by
                  have h := run_convert_bytes_back W2 58 9 5 ⟨bb, 0, none⟩ cap0 (starsFrom [] 0 S.data.toList) Tryz.underlying58 Tryz.underlying5 Tryz.underlying9 HST.out.list
                  rw [stars_len, starsFrom_nil] at h
                  rw [h, ← HO.out, HO1.out]
                  rfl
                go_wp2_with fail
                go_ret
                exact ⟨rfl, HW2.out⟩
              · have hy2 := HGX.out.2.2.2.2.2.2 rfl
                have HYC := Lib.hid (check_of_printW hy2.1)
                have HRH := Lib.hid (show Calls Tryz.prog 25 #[.agg #[.int .i64 yk, .int .i64 ymn, .int .i64 ymx, .int .u64 ys0, .int .u64 ys1, .int .u64 ys2, .int .u64 ys3, .slice ya yl.length ycap], .string S] W2 fun e w' => ∃ v l, e = .returned v ∧ HitsSays y S.data.toList l ∧ w'.ownsRow W2.heap.size 61 2 v l.length (pairCells l) ∧ l.length ≤ 256 ∧ Later W2 w' from by
                  have h := rhits_any W2 (RxA.node yk ymn ymx ys0 ys1 ys2 ys3 ya ycap yl) S (in_later8 HMI.out.2 HW2.out) (by rw [HYE.out]; exact HYC.out)
                  rw [HYE.out] at h
                  exact h)
                clear hy2
                go_upto_region 34 with (first
                  | (go_at_call 25; refine HRH.out.mono ?_; rintro e w7 ⟨v, lh, rfl, hsay, hown, hl256, hl7⟩; obtain ⟨av, cv, hv, hpc⟩ := row_pairs hown; subst hv; have HPC := Lib.hid hpc; have HSAY := Lib.hid hsay; have HST7 := Lib.hid (HST.out.later (by have := HS2.out; omega) hl7); clear hown hpc hsay)
                  | fail)
                have hin : ∀ q ∈ lh, q.1 < q.2 ∧ q.2 ≤ S.size := by
                  rcases HSAY.out with ⟨-, h⟩ | ⟨-, rfl⟩
                  · intro q hq
                    have := hits_in h q hq
                    rw [Array.length_toList] at this
                    exact this
                  · intro q hq; cases hq
                have hgl : hitsG y.lang S.data.toList = lh := by
                  rcases HSAY.out with ⟨-, h⟩ | ⟨h, -⟩
                  · exact hitsG_eq h
                  · omega
                have HOUT := Lib.hid (show (⟨(starsFrom lh 0 S.data.toList).toArray⟩ : ByteArray) = OUT from by
                  have h := HO1.out
                  rw [if_neg (by decide), if_neg (by decide)] at h
                  rw [← HO.out, h, ← hgl])
                have HIN := Lib.hid hin
                have hz7 : bb + 1 ≤ w7.heap.size := by have := HS2.out; have := Below.size hl7; omega
                have HL7 := Lib.hid (HW2.out.trans hl7)
                clear v0 v1 v2 v3 v4 v5 v6 v7 v8 v9 v10 v11 v12 v13 v14 v15 v16 v17 v18 vlt p0 p1 p2 e0 e1 e2 elt wlt
                have hb7 := HSU.out w7 (h12.trans hl7)
                have hd7 := HSD2.out w7 (h12.trans hl7)
                have HV10 := Lib.hid hb7.2.2.2.2.2.2.2.2.2.2.1
                have HE0 := Lib.hid hd7.2.2.2.1
                have HE1 := Lib.hid hd7.2.2.2.2.1
                have HE2 := Lib.hid hd7.2.2.2.2.2.1
                clear hin hgl hl7 hb7 hd7 h12
                go_wp2_with fail
                go_loopw [21, 22] (fun v _ wi => ∃ j : Nat, j ≤ lh.length ∧ v = .int .i64 j ∧ Only (fun c => c = bb) w7 wi ∧ StarsAt wi bb S (starB (lh.take j))) (fun v _ _ => lh.length - (intOf v).toNat)
                case atStart => exact ⟨0, by omega, rfl, Only.refl _ _, HST7.out⟩
                case round =>
                  obtain ⟨j, hj, rfl, hon, hst⟩ := hrel
                  have HON := Lib.hid hon
                  have HSR := Lib.hid hst
                  have hzr := hon.size
                  clear hon hst
                  by_cases hlt : j < lh.length
                  · have hq := HIN.out lh[j] (List.getElem_mem hlt)
                    obtain ⟨g', rfl, hg1, hg2, hgc⟩ := (HPC.out).resolve_left (by rintro rfl; simp at hlt)
                    obtain ⟨d0, d1⟩ := hgc j lh[j] (List.getElem?_eq_getElem hlt)
                    have hgb : ¬ g' = bb := by have := HS2.out; omega
                    have c0 := (HON.out.cell (p := ⟨g', j * 2, none⟩) hg2 hgb).trans d0
                    have c1 := (HON.out.cell (p := ⟨g', j * 2 + 1, none⟩) hg2 hgb).trans d1
                    have htk : ∀ i, starB (lh.take (j + 1)) i = (starB (lh.take j) i || decide (lh[j].1 ≤ i ∧ i < lh[j].2)) := by
                      intro i; rw [List.take_succ_eq_append_getElem hlt, starB_snoc]
                    obtain ⟨⟨ha, hb⟩, hab⟩ : ∃ q, lh[j] = q := ⟨_, rfl⟩
                    rw [hab] at c0 c1 hq htk
                    have HTK2 := Lib.hid htk
                    obtain ⟨hq1, hq2⟩ := hq
                    simp only at c0 c1 hq1 hq2
                    clear d0 d1 hgc hab htk
                    have hb256 : hb ≤ 256 := by omega
                    have hgz : g' < wr.heap.size := by omega
                    clear hg1 hg2
                    have HC1 := Lib.hid c1
                    have hkl : (j : Int) < (lh.length : Int) := by omega
                    obtain ⟨wo, rfl⟩ : ∃ wo : World, wo = wr := ⟨_, rfl⟩
                    have hlen : lh.length ≤ 256 := hl256
                    go_wp2_with fail
                    go_loopw [22] (fun v wi => ∃ i : Nat, ha ≤ i ∧ i ≤ hb ∧ v = .int .i64 i ∧ Only (fun c => c = bb) wo wi ∧ StarsAt wi bb S (fun q => starB (lh.take j) q || decide (ha ≤ q ∧ q < i))) (fun v _ => hb - (intOf v).toNat)
                    case atStart =>
                      refine ⟨ha, Nat.le_refl _, by omega, rfl, Only.refl _ _, HSR.out.congr fun q hq => ?_⟩
                      rw [decide_eq_false (by omega), Bool.or_false]
                    case round =>
                      obtain ⟨i, hai, hib, rfl, hoi, hsi⟩ := hrel
                      have e1' := (hoi.cell (p := ⟨g', j * 2 + 1, none⟩) hgz hgb).trans HC1.out
                      have HOI := Lib.hid hoi
                      have HSI := Lib.hid hsi
                      clear hoi hsi c0 c1
                      by_cases hil : (i : Int) < (hb : Int)
                      · obtain ⟨f0', f1'⟩ := HSI.out i (by omega)
                        have hi256 : i ≤ 256 := by omega
                        have his : (i : Int) < (S.size : Int) := by omega
                        go_wp2_with fail
                        refine ⟨⟨i + 1, by omega, by omega, by simp, HOI.out.setCell (.inl rfl) _, HSI.out.set (by omega) fun q => ?_⟩, by simp only [intOf]; omega⟩
                        rw [Bool.or_assoc]
                        congr 1
                        rw [Bool.eq_iff_iff]
                        simp only [Bool.or_eq_true, decide_eq_true_eq]
                        omega
                      · go_wp2_with fail
                        refine ⟨⟨j + 1, by omega, by simp, HON.out.trans (HOI.out.mono fun c _ h => .inl h), HSI.out.congr fun q hq => ?_⟩, by simp only [intOf]; omega⟩
                        rw [HTK2.out]
                        have : i = hb := by omega
                        rw [this]
                  · obtain rfl : j = lh.length := by omega
                    have hst := HSR.out
                    rw [List.take_length] at hst
                    have hcv : (convert 58 9 (.slice (some ⟨bb, 0, none⟩) S.size cap0)).run Tryz.prog wr = .ok (.string OUT) wr := by
                      have h := run_convert_bytes_back wr 58 9 5 ⟨bb, 0, none⟩ cap0 (starsFrom lh 0 S.data.toList) Tryz.underlying58 Tryz.underlying5 Tryz.underlying9 hst.list
                      rw [stars_len, HOUT.out] at h
                      exact h
                    have k0 := (HON.out.cell (p := ⟨db, 0, none⟩) (by show db < w7.heap.size; omega) (by show ¬ db = bb; omega)).trans HE0.out
                    have k1 := (HON.out.cell (p := ⟨db, 1, none⟩) (by show db < w7.heap.size; omega) (by show ¬ db = bb; omega)).trans HE1.out
                    have k2 := (HON.out.cell (p := ⟨db, 2, none⟩) (by show db < w7.heap.size; omega) (by show ¬ db = bb; omega)).trans HE2.out
                    have k3 := (HON.out.cell (p := ⟨ub, 10, none⟩) (by show ub < w7.heap.size; omega) (by show ¬ ub = bb; omega)).trans HV10.out
                    have HLR := Lib.hid (Below.trans HL7.out (HON.out.below (B := w.heap.size) (by have := Below.size HL7.out; omega) (by intro c hc; have := HBB.out; omega)))
                    clear hst
                    go_wp2_with fail
                    go_ret
                    exact ⟨rfl, HLR.out⟩
        · obtain rfl : k = nM := by omega
          have hd := decide_none (fr := nf) (tu := nt) (s := S.data.toList) HCG.out (by omega) (HFI.out.trans (by
            rw [List.drop_eq_nil_of_le (by rw [List.length_map]; have := HMR.out; have := HNM.out; have := HNR.out; omega)]
            rfl))
          rw [HD.out] at hd
          obtain ⟨rfl, hd2⟩ := Prod.mk.inj hd
          obtain ⟨rfl, hd3⟩ := Prod.mk.inj hd2
          obtain ⟨rfl, -⟩ := Prod.mk.inj hd3
          have ho := HO.out
          obtain rfl : OUT = ⟨#[]⟩ := ho.symm
          obtain ⟨p0, p1, p2, e0, e1, e2, elt, wlt⟩ := HSD.out wr hlr
          clear hd hd2 hd3 ho
          go_wp2_with fail
          go_ret
          exact ⟨rfl, HWC.out.trans (HCD.out.trans hlr)⟩
    · have hg : (200 : Int) < S.size := by omega
      have hd := decide_long (fr := nf) (tu := nt) (s := S.data.toList) HCG.out (by omega)
      rw [HD.out] at hd
      obtain ⟨rfl, hd2⟩ := Prod.mk.inj hd
      obtain ⟨rfl, hd3⟩ := Prod.mk.inj hd2
      obtain ⟨rfl, rfl⟩ := Prod.mk.inj hd3
      have ho := HO.out
      obtain rfl : OUT = ⟨#[]⟩ := ho.symm
      clear hd hd2 hd3 ho hs
      go_wp2_with fail
      go_ret
      exact ⟨rfl, HWC.out.trans HCD.out⟩
end Go.Proofs.YtjhclopdcbnmkaaGreatDoor
