import Derived.Test.YtjldgcppleibgaaDoorEvC
set_option linter.unusedVariables false
set_option linter.unusedSimpArgs false
/-! Texts of puzzles. -/
set_option linter.unusedSectionVars false
namespace Go.Proofs.EV
open Go Go.RowKit Go.Shelf
variable [Dr]
namespace Sp
/-- Texts with a letter between. -/
def jnc (c : UInt8) : List (List UInt8) → List UInt8
  | [] => []
  | r :: rs => r ++ (rs.map (c :: ·)).flatten
theorem jnc_join (c : UInt8) (rs : List (List UInt8)) : Lib.join rs [c] = jnc c rs := by
  cases rs with
  | nil => rfl
  | cons r rs => rw [Lib.join_cons]; rfl
def isCol (t : ByteArray) : Bool := decide (t = ⟨#[58]⟩)
/-- A puzzle's text. -/
def puT (q : ByteArray) (s : Sta) (px py pt : Int) : ByteArray := mkB (jnc 58 [bl q, [sgn s.x], [sgn s.y], [sgn s.d.t, sgn s.d.n, sgn s.d.e, sgn s.d.s, sgn s.d.w, sgn s.d.b], [sgn px], [sgn py], [sgn pt]])
def puTO (q : ByteArray) (s : Sta) (px py pt : Int) : ByteArray := bif pzOk q s px py pt then puT q s px py pt else ⟨#[]⟩
theorem pz_out {q : ByteArray} {s : Sta} {px py pt : Int} (h : pzOk q s px py pt = true) : okSt q s = true ∧ inR px 0 6 = true ∧ inR py 0 6 = true ∧ inR pt 0 9 = true := by
  unfold pzOk at h
  simp only [Bool.and_eq_true] at h
  obtain ⟨h1, h2, h3⟩ := h
  obtain ⟨hb, _, _, _, _⟩ := okSt_out h1
  obtain ⟨k1, k2, k3, k4⟩ := isBo_fine hb
  obtain ⟨a, b⟩ := isFl_in k2.2 k3.2 h2
  exact ⟨h1, a, b, h3⟩
end Sp
end Go.Proofs.EV
