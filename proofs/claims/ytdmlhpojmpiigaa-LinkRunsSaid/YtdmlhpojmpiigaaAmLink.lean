/- Links, in plain Lean. -/
import Derived.Test.YtdmlhpojmpiigaaAmWire3
set_option linter.unusedVariables false
set_option linter.unusedSimpArgs false
namespace Go.Am
open Go
namespace Lk
def around (n m : Int) : Int := (if n < 0 then -(n + 1) else n) % m
def cat (l : List (List Int)) : List Int := l.flatten
def mixB (h c : Int) : Int := ibits .xor .u64 h (IntKind.u64.wrap c) * 1099511628211 % 18446744073709551616
def hash (key : Int) (b : List Int) : Int := b.foldl mixB (ibits .xor .u64 14695981039346656037 key)
def seal8 (h : Int) : List Int := (List.range 8).map fun i => h / 256 ^ i % 256
def sealed (key : Int) (b : List Int) : List Int := b ++ seal8 (hash key b)
def openB (key : Int) (b : List Int) : List Int × Int :=
  if b.length < 8 then ([], 2) else if seal8 (hash key (b.take (b.length - 8))) = b.drop (b.length - 8) then (b.take (b.length - 8), 0) else ([], 9)
def pbytes (seq ack : Int) (b : List Int) : List Int := Wire.ints [seq, ack] ++ Wire.bytes b
def valid (seq ack : Int) (b : List Int) : Bool := ((decide (0 ≤ seq) && decide (0 ≤ ack)) && decide (b.length ≤ 65536)) && (decide (0 < seq) || decide (b.length = 0))
def pread (c : List Int) : Option (Int × Int × List Int) :=
  if (Wire.getInts c).2.2 ≠ 0 ∨ (Wire.getInts c).1.length ≠ 2 then none
  else if (Wire.getBytes (c.drop (Wire.getInts c).2.1.toNat)).2.2 ≠ 0 ∨ (Wire.getInts c).2.1 + (Wire.getBytes (c.drop (Wire.getInts c).2.1.toNat)).2.1 ≠ c.length then none
  else some ((Wire.getInts c).1.getD 0 0, (Wire.getInts c).1.getD 1 0, (Wire.getBytes (c.drop (Wire.getInts c).2.1.toNat)).1)
def rd (c : List Int) : Int × Int × List Int × Bool := match pread c with
  | none => (0, 0, [], false)
  | some (s, a, b) => (s, a, b, valid s a b)
structure E where
  win : Int
  key : Int
  wait : List (List Int)
  ack : Int
  del : Int
  held : List (List Int × List Int)
  owes : Bool
  forged : Int
abbrev bE (e : E) (w m : Nat) : Blk := .cells 8 (.segs (.cons 1 (.one (.int .i64 e.win)) (.cons 1 (.one (.int .u64 e.key)) (.cons 1 (.one (.own w 0 1)) (.cons 1 (.one (.int .i64 e.ack)) (.cons 1 (.one (.int .i64 e.del)) (.cons 1 (.one (.mp m)) (.cons 1 (.one (.bool e.owes)) (.cons 1 (.one (.int .i64 e.forged)) .nil))))))))) true
def send (e : E) (b : List Int) : E × Int := if 65536 < b.length ∨ 1000 ≤ e.wait.length then (e, 4) else ({ e with wait := e.wait ++ [b] }, 0)
def packs (key n del : Int) : List (List Int) → List (List Int)
  | [] => []
  | b :: l => sealed key (pbytes (n + 1) del b) :: packs key (n + 1) del l
def outs (e : E) : List (List Int) :=
  if packs e.key e.ack e.del (e.wait.take e.win.toNat) = [] ∧ e.owes = true then [sealed e.key (pbytes 0 e.del [])] else packs e.key e.ack e.del (e.wait.take e.win.toNat)
def out (e : E) : E × List (List Int) := ({ e with owes := false }, outs e)
def delv : Nat → E → List (List Int) → E × List (List Int)
  | 0, e, l => (e, l)
  | n + 1, e, l => cond (mhas e.held [e.del + 1]) (delv n { e with del := e.del + 1, held := mdel e.held [e.del + 1] } (l ++ [mget [] e.held [e.del + 1]])) (e, l)
def deliver (e : E) : E × List (List Int) := delv e.held.length e []
def acked (e : E) (a : Int) : E := if 0 < a - e.ack then { e with wait := e.wait.drop (a - e.ack).toNat, ack := a } else e
def hold (e : E) (s : Int) (b : List Int) : E := if e.del < s ∧ mhas e.held [s] = false then { e with held := mput e.held [s] b } else e
def take (e : E) (s a : Int) (b : List Int) : E × List (List Int) :=
  if e.ack + e.wait.length < a ∨ e.del + 16 < s then (e, [])
  else if s = 0 then (acked e a, [])
  else deliver (hold { acked e a with owes := true } s b)
def recv (e : E) (b : List Int) : E × List (List Int) × Int :=
  if (openB e.key b).2 = 0 then
    if (rd (openB e.key b).1).2.2.2 = true then ((take e (rd (openB e.key b).1).1 (rd (openB e.key b).1).2.1 (rd (openB e.key b).1).2.2.1).1, (take e (rd (openB e.key b).1).1 (rd (openB e.key b).1).2.1 (rd (openB e.key b).1).2.2.1).2, 0)
    else (e, [], 2)
  else (if (openB e.key b).2 = 9 then { e with forged := e.forged + 1 } else e, [], (openB e.key b).2)
def fineN (n : Nat) (e : E) : Bool := ((decide (0 < e.win.toNat) && decide (e.win.toNat < 17)) && ((decide (0 ≤ e.ack) && decide (e.ack.toNat < n)) && (decide (0 ≤ e.del) && decide (e.del.toNat < n)))) &&
  (((decide (0 ≤ e.forged) && decide (e.forged.toNat < n)) && (decide (e.wait.length < 1001) && e.wait.all fun b => decide (b.length < 65537))) && decide (e.held.length < n))
def fine (e : E) : Bool := fineN 1073741824 e
def room (e : E) : Bool := fineN 536870912 e
end Lk
end Go.Am
