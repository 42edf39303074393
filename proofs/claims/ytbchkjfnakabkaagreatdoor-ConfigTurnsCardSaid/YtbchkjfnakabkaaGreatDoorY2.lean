/- Configs in memory. -/
import Derived.Test.YtbchkjfnakabkaaGreatDoorYL
import Derived.Test.YtbchkjfnakabkaaGreatDoorYP
set_option linter.unusedSimpArgs false
set_option linter.unusedVariables false
namespace Go.Proofs.YtbchkjfnakabkaaGreatDoor
open Go.RowKit PX PC

/-- A row of things in memory, k cells each. -/
def RowAt (w : World) (k : Nat) (v : Value) (css : List (List Value)) : Prop :=
  ∃ (a : Option Addr) (cap : Nat), v = .slice a css.length cap ∧ css.length ≤ cap ∧ cap ≤ 9223372036854775807 ∧ css.length * k ≤ 140737488355328 ∧
    (css = [] ∨ ∃ b o, a = some ⟨b, o, none⟩ ∧ b < w.heap.size ∧ ∀ i (h : i < css.length) j, j < k → w.cell? ⟨b, o + i * k + j, none⟩ = css[i][j]?)
theorem RowAt.later {w w' : World} {k : Nat} {v : Value} {css : List (List Value)} (h : RowAt w k v css) (hl : Later w w') : RowAt w' k v css := by
  obtain ⟨a, cap, h1, h2, h3, h4, h5⟩ := h
  refine ⟨a, cap, h1, h2, h3, h4, ?_⟩
  rcases h5 with h | ⟨b, o, rfl, hb, hc⟩
  · exact .inl h
  · exact .inr ⟨b, o, rfl, by have := Below.size hl; omega, fun i hi j hj => (Below.cell hl (p := ⟨b, o + i * k + j, none⟩) hb).trans (hc i hi j hj)⟩
theorem RowAt.nil (w : World) (k : Nat) : RowAt w k (.slice none 0 0) [] := ⟨none, 0, rfl, Nat.le_refl _, by omega, by simp, .inl rfl⟩

def flowC (x : Int × Int) : List Value := [.int .i64 x.1, .int .i64 x.2]
def partC (x : Prt) : List Value := [.int .i64 x.level, .int .i64 x.pages]
def winC (x : Win) : List Value := [.int .i64 x.kind, .int .i64 x.index, .int .i64 x.ticks]
def porC (x : Por) : List Value := [.int .i64 x.kind, .int .i64 x.fr, .int .i64 x.tu, .int .i64 x.size, .int .i64 x.depth]
def volC (x : Vol) : List Value := [.int .i64 x.level, .int .i64 x.first, .int .i64 x.count, .int .i64 x.journal]
def ruC (x : Ru) : List Value := [.int .i64 x.fr, .int .i64 x.tu, .int .i64 x.act, .string x.pat, .string x.wth]
def keyC (x : ByteArray) : List Value := [.string x]

/-- A config's cells. -/
structure CfgIn (w : World) (cs : List Value) (c : Cfg) : Prop where
  rows : ∃ vF vP vW vO vV vR vK : Value, cs = [.int .i64 c.levels, vF, vP, vW, vO, vV, .int .i64 c.audit.level, .int .i64 c.audit.first, .int .i64 c.audit.count, .int .i64 c.audit.journal, .int .i64 c.boot, .int .i64 c.sectors, vR, vK, .string c.login, .int .i64 c.recovery, .int .i64 c.bound] ∧
    RowAt w 2 vF (c.flows.map flowC) ∧ RowAt w 2 vP (c.parts.map partC) ∧ RowAt w 3 vW (c.windows.map winC) ∧ RowAt w 5 vO (c.ports.map porC) ∧ RowAt w 4 vV (c.volumes.map volC) ∧ RowAt w 5 vR (c.rules.map ruC) ∧ RowAt w 1 vK (c.keys.map keyC)
theorem CfgIn.later {w w' : World} {cs : List Value} {c : Cfg} (h : CfgIn w cs c) (hl : Later w w') : CfgIn w' cs c := by
  obtain ⟨vF, vP, vW, vO, vV, vR, vK, h0, h1, h2, h3, h4, h5, h6, h7⟩ := h.rows
  exact ⟨⟨vF, vP, vW, vO, vV, vR, vK, h0, h1.later hl, h2.later hl, h3.later hl, h4.later hl, h5.later hl, h6.later hl, h7.later hl⟩⟩
end Go.Proofs.YtbchkjfnakabkaaGreatDoor
