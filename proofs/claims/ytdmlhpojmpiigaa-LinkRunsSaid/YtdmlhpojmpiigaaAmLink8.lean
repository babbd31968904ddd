/- Links: the reference's ends. -/
import Derived.Test.YtdmlhpojmpiigaaAmLink7
set_option linter.unusedVariables false
set_option linter.unusedSimpArgs false
namespace Go.Am
open Go
namespace Lk
structure R where
  win : Int
  key : Int
  sent : List (List Int)
  ack : Int
  got : Int
  held : List (List (List Int))
  owes : Bool
  forged : Int
abbrev bR (r : R) (w h : Nat) : Blk := .cells 8 (.segs (.cons 1 (.one (.int .i64 r.win)) (.cons 1 (.one (.int .u64 r.key)) (.cons 1 (.one (.own w 0 1)) (.cons 1 (.one (.int .i64 r.ack)) (.cons 1 (.one (.int .i64 r.got)) (.cons 1 (.one (.own h r.held.length 2)) (.cons 1 (.one (.bool r.owes)) (.cons 1 (.one (.int .i64 r.forged)) .nil))))))))) true
def rsend (r : R) (b : List Int) : R × Int := if 65536 < b.length ∨ 1000 ≤ (r.sent.length : Int) - r.ack then (r, 4) else ({ r with sent := r.sent ++ [b] }, 0)
def routs (r : R) : List (List Int) :=
  if packs r.key r.ack r.got ((r.sent.drop r.ack.toNat).take r.win.toNat) = [] ∧ r.owes = true then [sealed r.key (pbytes 0 r.got [])] else packs r.key r.ack r.got ((r.sent.drop r.ack.toNat).take r.win.toNat)
def rout (r : R) : R := { r with owes := false }
def findN : List (List (List Int)) → Int → Nat → Int
  | [], _, _ => -1
  | x :: h, s, i => if (x.getD 0 []).getD 0 0 = s then (i : Int) else findN h s (i + 1)
def rfind (h : List (List (List Int))) (s : Int) : Int := findN h s 0
def rrd (c : List Int) : Int × Int × List Int × Bool := if (rd c).2.2.2 = true then rd c else (0, 0, [], false)
def rdel : Nat → R → List (List Int) → R × List (List Int)
  | 0, r, l => (r, l)
  | n + 1, r, l => if 0 ≤ rfind r.held (r.got + 1) then rdel n { r with got := r.got + 1, held := r.held.take (rfind r.held (r.got + 1)).toNat ++ r.held.drop ((rfind r.held (r.got + 1)).toNat + 1) } (l ++ [(r.held.getD (rfind r.held (r.got + 1)).toNat []).getD 1 []]) else (r, l)
def rhold (r : R) (s : Int) (b : List Int) : R × List (List Int) :=
  if s ≤ r.got ∨ 0 ≤ rfind r.held s then (r, []) else rdel (r.held.length + 2) { r with held := r.held ++ [[[s], b]] } []
def racked (r : R) (a : Int) : R := { r with ack := if a > r.ack then a else r.ack }
def rtake (r : R) (s a : Int) (b : List Int) : R × List (List Int) :=
  if (r.sent.length : Int) < a ∨ r.got + 16 < s then (r, [])
  else if s = 0 then (racked r a, [])
  else rhold { racked r a with owes := true } s b
def rrecv (r : R) (b : List Int) : R × List (List Int) × Int :=
  if (openB r.key b).2 = 0 then
    if (rd (openB r.key b).1).2.2.2 = true then ((rtake r (rd (openB r.key b).1).1 (rd (openB r.key b).1).2.1 (rd (openB r.key b).1).2.2.1).1, (rtake r (rd (openB r.key b).1).1 (rd (openB r.key b).1).2.1 (rd (openB r.key b).1).2.2.1).2, 0)
    else (r, [], 2)
  else (if (openB r.key b).2 = 9 then { r with forged := r.forged + 1 } else r, [], (openB r.key b).2)
def rfineN (N n : Nat) (r : R) : Bool := (decide (n = r.held.length) && ((decide (0 < r.win.toNat) && decide (r.win.toNat < 17)) && ((decide (0 ≤ r.ack) && decide (r.ack ≤ r.sent.length)) && (decide (0 ≤ r.got) && decide (r.got.toNat < N))))) &&
  (((decide (0 ≤ r.forged) && decide (r.forged.toNat < N)) && (decide (r.sent.length < 2001) && r.sent.all fun b => decide (b.length < 65537))) && decide (r.held.length < N))
def rfine (n : Nat) (r : R) : Bool := rfineN 536870912 n r
theorem rfineN_iff {N n : Nat} {r : R} : rfineN N n r = true ↔ n = r.held.length ∧ (0 < r.win ∧ r.win < 17) ∧ (0 ≤ r.ack ∧ r.ack ≤ r.sent.length) ∧ (0 ≤ r.got ∧ r.got < N) ∧ (0 ≤ r.forged ∧ r.forged < N) ∧ r.sent.length < 2001 ∧ (∀ b ∈ r.sent, b.length < 65537) ∧ r.held.length < N := by
  simp only [rfineN, Bool.and_eq_true, decide_eq_true_eq, List.all_eq_true]
  constructor
  · rintro ⟨⟨a0, ⟨a1, a2⟩, ⟨a3, a4⟩, a5, a6⟩, ⟨⟨a7, a8⟩, a9, a10⟩, a11⟩
    exact ⟨a0, ⟨by omega, by omega⟩, ⟨a3, by omega⟩, ⟨a5, by omega⟩, ⟨a7, by omega⟩, a9, a10, a11⟩
  · rintro ⟨a0, ⟨a1, a2⟩, ⟨a3, a4⟩, ⟨a5, a6⟩, ⟨a7, a8⟩, a9, a10, a11⟩
    exact ⟨⟨a0, ⟨by omega, by omega⟩, ⟨a3, by omega⟩, a5, by omega⟩, ⟨⟨a7, by omega⟩, a9, a10⟩, a11⟩
theorem findN_spec : ∀ (h : List (List (List Int))) (s : Int) (i : Nat), (findN h s i = -1 ∧ ∀ x ∈ h, (x.getD 0 []).getD 0 0 ≠ s) ∨ (∃ q : Nat, findN h s i = ((i + q : Nat) : Int) ∧ q < h.length ∧ ((h.getD q []).getD 0 []).getD 0 0 = s ∧ ∀ p, p < q → ((h.getD p []).getD 0 []).getD 0 0 ≠ s)
  | [], s, i => .inl ⟨rfl, fun x hx => by cases hx⟩
  | x :: h, s, i => by
    simp only [findN]
    by_cases hx : (x.getD 0 []).getD 0 0 = s
    · rw [if_pos hx]
      exact .inr ⟨0, by simp, by simp, by simpa using hx, fun p hp => by omega⟩
    · rw [if_neg hx]
      rcases findN_spec h s (i + 1) with ⟨h1, h2⟩ | ⟨q, h1, h2, h3, h4⟩
      · refine .inl ⟨h1, fun y hy => ?_⟩
        rcases List.mem_cons.1 hy with rfl | hy
        · exact hx
        · exact h2 y hy
      · refine .inr ⟨q + 1, by rw [h1]; congr 1; omega, by simp; omega, by simpa using h3, fun p hp => ?_⟩
        cases p with
        | zero => simpa using hx
        | succ p => simpa using h4 p (by omega)
theorem rfind_rng (h : List (List (List Int))) (s : Int) : -1 ≤ rfind h s ∧ rfind h s < h.length := by
  unfold rfind
  rcases findN_spec h s 0 with ⟨h1, _⟩ | ⟨q, h1, h2, _⟩
  · rw [h1]; omega
  · rw [h1]; omega
end Lk
end Go.Am
