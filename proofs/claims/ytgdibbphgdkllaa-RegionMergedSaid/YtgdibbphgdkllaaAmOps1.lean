/- Part of a proof. -/
import Derived.Test.YtgdibbphgdkllaaAmTy
import Derived.Lib.Strings
set_option linter.unusedVariables false
set_option linter.unusedSimpArgs false
namespace Go.Am
open Go
def OpOk(U:Oth)(P:Program)(V:Env)(w0:World)(W0:Nat→Prop)(o:Oper)(a:Act)(w:World)(av:AV)(s':St):Prop:=
 ∀ (next:Act→World→Prop) (Q:Exit→Act→World→Prop),
  (∀ v w' ρ',Sim U V.G w0 W0 ρ' s' a w'→Rep w' (Wr U ρ' s'.heap) ρ' av v→next (a.put o.dst v) w')→o.wp P a w next Q
variable {P : Program} {V : Env} {U : Oth} {w0 : World} {W0 : Nat → Prop} {o : Oper} {ρ ρ' : Rho} {s s' : St} {a : Act} {w w' : World} {av : AV}
theorem ok_value{v:Value}(h:(execOp a.eval o).run P w=.ok (.value v) w')(hs:Sim U V.G w0 W0 ρ' s' a w')(hr:Rep w' (Wr U ρ' s'.heap) ρ' av v):OpOk U P V w0 W0 o a w av s':=by
 intro next Q hn
 unfold Oper.wp
 rw [h]
 exact hn v w' ρ' hs hr
theorem ok_skip(h:(execOp a.eval o).run P w=.ok .skip w')(hs:Sim U V.G w0 W0 ρ' s' a w'):OpOk U P V w0 W0 o a w .undef s':=by
 intro next Q hn
 unfold Oper.wp
 rw [h]
 exact hn _ w' ρ' hs (.undef _)
theorem run_v{x:Sem Value}{v:Value}(h:x.run P w=.ok v w'):(do pure (Next.value (← x)):Sem Next).run P w=.ok (.value v) w':=by
 simp only [Sem.run_bind,h,Result.andThen_ok,Sem.run_pure]
theorem run_u{x:Sem Unit}(h:x.run P w=.ok () w'):(do x;pure Next.skip:Sem Next).run P w=.ok .skip w':=by
 simp only [Sem.run_bind,h,Result.andThen_ok,Sem.run_pure]
theorem wrap_has(k:IntKind)(n:Int):k.has (k.wrap n):=by
 unfold IntKind.has IntKind.wrap
 cases k <;> simp only [IntKind.min,IntKind.max,IntKind.signed,IntKind.bits] <;> (constructor <;> simp <;> first | omega | (split <;> omega))
theorem ibits_has(op:BinOp)(k:IntKind)(x y:Int):k.has (ibits op k x y):=by
 unfold ibits;split <;> exact wrap_has _ _
theorem tmod_has(k:IntKind)(x y:Int)(h:k.has x)(hy:y≠0):k.has (x.tmod y):=by
 have h0:k.min≤0:=(has_zero k).1
 have h1:0≤k.max:=(has_zero k).2
 obtain⟨ha,hb⟩:=h
 rcases Int.le_total 0 x with hx | hx
 ·have g1:=Int.tmod_nonneg y hx
  have g2:x.tmod y≤x:=by have:=Int.natAbs_tmod x y;have:=Nat.mod_le x.natAbs y.natAbs;omega
  exact⟨by omega,by omega⟩
 ·have e:x.tmod y = -((-x).tmod y):=by rw [Int.neg_tmod];omega
  have hx':0 ≤ -x:=by omega
  have g1:=Int.tmod_nonneg y hx'
  have g2:(-x).tmod y ≤ -x:=by have:=Int.natAbs_tmod (-x) y;have:=Nat.mod_le (-x).natAbs y.natAbs;omega
  exact⟨by omega,by omega⟩
theorem fdiv_has(k:IntKind)(x:Int)(n:Nat)(h:k.has x):k.has (x.fdiv (2^n)):=by
 have h0:k.min≤0:=(has_zero k).1
 have h1:0≤k.max:=(has_zero k).2
 obtain⟨ha,hb⟩:=h
 have hp:(0:Int) < 2^n:=Int.pow_pos (by decide)
 rw [Int.fdiv_eq_ediv_of_nonneg _ (Int.le_of_lt hp)]
 rcases Int.le_total 0 x with hx | hx
 ·have g1:0≤x / 2^n:=Int.ediv_nonneg hx (Int.le_of_lt hp)
  have g2:x / 2^n≤x:=Int.ediv_le_self _ hx
  exact⟨by omega,by omega⟩
 ·have g1:x / 2^n≤0:=by
   have:=Int.ediv_le_ediv hp hx;simpa using this
  have g2:x≤x / 2^n:=by
   rw [Int.le_ediv_iff_mul_le hp]
   have:(1:Int)≤2^n:=hp
   have:=Int.mul_le_mul_of_nonpos_left hx this
   simpa using this
  exact⟨by omega,by omega⟩
theorem toI_rep(n:Nat)(W:Nat→Prop)(hn:(n:Int)≤9223372036854775807):Rep w W ρ (toI n) (goInt n):=
 .int .i64 n ⟨by show(-9223372036854775808:Int)≤n;omega,hn⟩
theorem eqGuard_int{op:BinOp}{t:TypeId}{x y:Operand}{k:IntKind}{n:Int}{v:Value}:(eqGuard op t x y (.int k n) v).run P w=.ok () w:=by
 unfold eqGuard;split <;> rfl
theorem eqGuard_str{op:BinOp}{t:TypeId}{x y:Operand}{n:ByteArray}{v:Value}:(eqGuard op t x y (.string n) v).run P w=.ok () w:=by
 unfold eqGuard;split <;> rfl
theorem eqGuard_bool{op:BinOp}{t:TypeId}{x y:Operand}{n:Bool}{v:Value}:(eqGuard op t x y (.bool n) v).run P w=.ok () w:=by
 unfold eqGuard;split <;> rfl
theorem binOp_ok{op:BinOp}{t:TypeId}{k:IntKind}{x y:Int}(hx:k.has x)(hy:k.has y){av:AV}(h:ibin op k x y=some (true,av)):
  ∃ v,(binOp op t (.int k x) (.int k y)).run P w=.ok v w ∧ ∀ W ρ,Rep w W ρ av v:=by
 cases op <;> simp only [ibin,Option.some.injEq,Prod.mk.injEq,true_and,reduceCtorEq] at h
 case add=>cases h;exact⟨.int k (k.wrap (x+y)),by simp [binOp,Op.intArith],fun W ρ=>.int _ _ (wrap_has _ _)⟩
 case sub=>cases h;exact⟨.int k (k.wrap (x-y)),by simp [binOp,Op.intArith],fun W ρ=>.int _ _ (wrap_has _ _)⟩
 case mul=>cases h;exact⟨.int k (k.wrap (x*y)),by simp [binOp,Op.intArith],fun W ρ=>.int _ _ (wrap_has _ _)⟩
 case quo=>
  obtain⟨h1,rfl⟩:=h
  have hy0:y≠0:=by simpa using h1
  exact⟨.int k (k.wrap (x.tdiv y)),by simp [binOp,Op.intDiv,hy0],fun W ρ=>.int _ _ (wrap_has _ _)⟩
 case rem=>
  obtain⟨h1,rfl⟩:=h
  have hy0:y≠0:=by simpa using h1
  exact⟨.int k (x.tmod y),by simp [binOp,Op.intDiv,hy0],fun W ρ=>.int _ _ (tmod_has _ _ _ hx hy0)⟩
 case and=>cases h;exact⟨.int k (ibits .and k x y),by simp [binOp,Op.intBits,ibits],fun W ρ=>.int _ _ (ibits_has _ _ _ _)⟩
 case or=>cases h;exact⟨.int k (ibits .or k x y),by simp [binOp,Op.intBits,ibits],fun W ρ=>.int _ _ (ibits_has _ _ _ _)⟩
 case xor=>cases h;exact⟨.int k (ibits .xor k x y),by simp [binOp,Op.intBits,ibits],fun W ρ=>.int _ _ (ibits_has _ _ _ _)⟩
 case andNot=>cases h;exact⟨.int k (ibits .andNot k x y),by simp [binOp,Op.intBits,ibits],fun W ρ=>.int _ _ (ibits_has _ _ _ _)⟩
 case eql=>cases h;exact⟨.bool (x==y),by simp [binOp,Op.intCmp],fun W ρ=>.bool _⟩
 case neq=>cases h;exact⟨.bool (x != y),by simp [binOp,Op.intCmp],fun W ρ=>.bool _⟩
 case lss=>cases h;exact⟨.bool (decide (x < y)),by simp [binOp,Op.intCmp],fun W ρ=>.bool _⟩
 case leq=>cases h;exact⟨.bool (decide (x≤y)),by simp [binOp,Op.intCmp],fun W ρ=>.bool _⟩
 case gtr=>cases h;exact⟨.bool (decide (x > y)),by simp [binOp,Op.intCmp],fun W ρ=>.bool _⟩
 case geq=>cases h;exact⟨.bool (decide (x≥y)),by simp [binOp,Op.intCmp],fun W ρ=>.bool _⟩
theorem shift_ok{t:TypeId}{k l:IntKind}{x y:Int}(hx:k.has x)(h0:0≤y):
  (binOp .shl t (.int k x) (.int l y)).run P w=.ok (.int k (k.wrap (x*2^(min y.toNat k.bits)))) w ∧
  (binOp .shr t (.int k x) (.int l y)).run P w=.ok (.int k (x.fdiv (2^(min y.toNat k.bits)))) w:=by
 have:¬ y < 0:=by omega
 constructor <;> simp [binOp,Op.shift,this]
theorem unary_ok{op:UnOp}{x:AV}{u:Value}{W:Nat→Prop}(hx:Rep w W ρ x u)(h:aun op x=some av):∃ v,(Op.unary op u).run P w=.ok v w∧Rep w W ρ av v:=by
 unfold aun at h
 split at h <;> try contradiction
 all_goals injection h with h
 all_goals subst h
 all_goals cases hx
 ·rename_i k x _;exact⟨.int k (k.wrap (0-x)),by simp [Op.unary,Op.intArith],.int _ _ (wrap_has _ _)⟩
 ·rename_i k x _;exact⟨.int k (ibits .xor k (if k.signed then -1 else k.max) x),by simp [Op.unary,Op.intBits,ibits],.int _ _ (ibits_has _ _ _ _)⟩
 ·rename_i b;exact⟨.bool (!b),by simp [Op.unary],.bool _⟩
end Go.Am
