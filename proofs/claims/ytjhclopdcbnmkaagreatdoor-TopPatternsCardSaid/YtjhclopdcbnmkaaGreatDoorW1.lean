/- Plain laws of what is meant: rules made of expressions, no program in sight. -/
import Derived.Test.YtjhclopdcbnmkaaGreatDoorS8
import Derived.Test.YtjhclopdcbnmkaaGreatDoorG5
import Derived.Test.YtjhclopdcbnmkaaGreatDoorG6
set_option linter.unusedSimpArgs false
set_option linter.unusedVariables false
namespace Go.Proofs.YtjhclopdcbnmkaaGreatDoor.PX

/-- A rule by expressions. -/
structure Mea where
  fr : Int
  tu : Int
  act : Int
  wh : Rx
  hd : Rx
def Mea.good (m : Mea) : Prop := (0 ≤ m.fr ∧ m.fr < 8) ∧ (0 ≤ m.tu ∧ m.tu < 8) ∧ m.fr ≠ m.tu ∧ (0 ≤ m.act ∧ m.act ≤ 2) ∧ printE m.wh = 0 ∧ m.wh.wide ∧ (m.act = 2 → printE m.hd = 0 ∧ m.hd.wide)
def Mea.rul (m : Mea) : Rul := ⟨m.fr, m.tu, m.act, printS m.wh, if m.act = 2 then printS m.hd else []⟩
theorem print_read {x : Rx} (hw : x.wide) (h : printE x = 0) : parseR (printS x) = .inl x := by
  have hc : checkR x = 0 := by
    by_cases hc : checkR x = 0
    · exact hc
    · rw [printE_bad hc] at h; exact absurd h hc
  have hl : x.text.length ≤ 128 := by
    rw [printE_good hc] at h
    split at h
    · cases h
    · omega
  obtain ⟨hf, hs⟩ := checkR_parts hc
  unfold printS
  rw [if_pos h]
  exact parse_text hf hw hs hl
theorem rul_ok {m : Mea} (h : m.good) : m.rul.okB 8 = true := by
  obtain ⟨h1, h2, h3, h4, h5, h6, h7⟩ := h
  unfold Rul.okB Mea.rul
  simp only [Bool.and_eq_true, decide_eq_true_eq]
  refine ⟨⟨by omega, isRead_iff.2 ⟨_, print_read h6 h5⟩⟩, ?_⟩
  by_cases ha : m.act = 2
  · obtain ⟨g1, g2⟩ := h7 ha
    rw [if_pos ha, if_pos ha]
    exact isRead_iff.2 ⟨_, print_read g2 g1⟩
  · rw [if_neg ha, if_neg ha]; rfl
theorem check_good {l : List Mea} (h : ∀ m ∈ l, m.good) (hl : l.length ≤ 32) : checkG (l.map Mea.rul) 8 = 0 := by
  unfold checkG
  rw [if_neg (by omega), if_pos]
  rw [Bool.and_eq_true, List.all_eq_true, decide_eq_true_eq, List.length_map]
  refine ⟨fun r hr => ?_, hl⟩
  obtain ⟨m, hm, rfl⟩ := List.mem_map.1 hr
  exact rul_ok (h m hm)
theorem takes_good {m : Mea} (h : m.good) (fr tu : Int) (s : List UInt8) : m.rul.takes fr tu s = (decide (m.fr = fr) && decide (m.tu = tu) && inL m.wh.lang s) := by
  obtain ⟨h1, h2, h3, h4, h5, h6, h7⟩ := h
  unfold Rul.takes
  rw [show m.rul.pat = printS m.wh from rfl, langP_eq (print_read h6 h5)]
  rfl
theorem out_good {m : Mea} (h : m.good) (s : List UInt8) : outG m.rul s = if m.act = 0 then [] else if m.act = 1 then s else starsFrom (hitsG m.hd.lang s) 0 s := by
  obtain ⟨h1, h2, h3, h4, h5, h6, h7⟩ := h
  unfold outG
  rw [show m.rul.act = m.act from rfl]
  by_cases h0 : m.act = 0
  · rw [if_pos h0, if_pos h0]
  · rw [if_neg h0, if_neg h0]
    by_cases h1 : m.act = 1
    · rw [if_pos h1, if_pos h1]
    · rw [if_neg h1, if_neg h1]
      have h2 : m.act = 2 := by omega
      obtain ⟨g1, g2⟩ := h7 h2
      rw [show m.rul.wth = printS m.hd from by unfold Mea.rul; rw [if_pos h2], langP_eq (print_read g2 g1)]

/-! the fixed calls -/
def tp1 : List UInt8 := [111, 107, 124, 91, 48, 45, 57, 93, 43]
def tp2 : List UInt8 := [91, 49, 45, 54, 93]
def tx1 : Rx := .node 2 0 0 0 0 0 0 [.node 1 0 0 0 0 0 0 [.set (Q4.none.with 111), .set (Q4.none.with 107)], .rep 1 (-1) (.set ⟨287948901175001088, 0, 0, 0⟩)]
def tx2 : Rx := .set ⟨35465847065542656, 0, 0, 0⟩
theorem tparse1 : parseR tp1 = .inl tx1 := by rfl
theorem tparse2 : parseR tp2 = .inl tx2 := by rfl
theorem tform1 : tx1.formB = true := (parseR_form tparse1).1
theorem tform2 : tx2.formB = true := (parseR_form tparse2).1
theorem ttext1 : tx1.text = tp1 := by decide +kernel
theorem tcheck1 : checkR tx1 = 0 := by decide +kernel
theorem tprintE : printE tx1 = 0 := by rw [printE_good tcheck1, ttext1]; rfl
theorem tprintS : printS tx1 = tp1 := by unfold printS; rw [if_pos tprintE, ttext1]
theorem tlang : tx1.lang g17 := (Rx.isB_iff tform1 _).1 (by decide +kernel)
def tl : List Rul := [⟨1, 0, 2, tp1, tp2⟩]
theorem thits : hitsG tx2.lang g17 = [(0, 1)] := hitsG_eq (hitsB_from tform2 (by decide +kernel))
theorem tdecide : decideG tl 1 0 g17 = (0, 2, [42, 55], 0) := by
  have hc : checkG tl 8 = 0 := by
    unfold checkG tl
    simp [Rul.okB, isRead_iff.2 ⟨_, tparse1⟩, isRead_iff.2 ⟨_, tparse2⟩]
  have hf : firstG 1 0 g17 0 tl = some (0, ⟨1, 0, 2, tp1, tp2⟩) := by
    unfold tl firstG
    rw [takes_bool tparse1 true (by decide +kernel)]
    rfl
  rw [decide_some hc (by decide) hf]
  simp only [outG]
  rw [if_neg (by decide), if_neg (by decide), langP_eq tparse2, thits]
  rfl
end Go.Proofs.YtjhclopdcbnmkaaGreatDoor.PX
