/- Part of a proof. -/
import Derived.Orders
import Derived.KernelRfl
namespace Go.Am
open Go
abbrev Li:=List Int
inductive MV where
 | one (k:IntKind)
 | arr (k:IntKind) (n:Nat)
 | bool
 | sl (k:IntKind)
 | osl (k:IntKind)
 | oslx (k:IntKind) (key:List Int)
def MV.isSl:MV→Bool
 | .sl _=>true
 | _=>false
inductive CK where
 | int (k:IntKind)
 | bool
 | str
 | sl (k:IntKind)
deriving DecidableEq
def CK.isSl:CK→Bool
 | .sl _=>true
 | _=>false
mutual
inductive AV where
 | undef
 | bool (b:Bool)
 | int (k:IntKind) (n:Int)
 | str (s:List Int)
 | rI (k:IntKind) (xs:List Int)
 | rB (xs:List Bool)
 | rS (xs:List (List Int))
 | rL (k:IntKind) (xss:List (List Int))
 | one (v:AV)
 | segs (s:AVs)
 | rT (ks:List CK) (xs:List (List (List Int)))
 | agg (n:Nat) (r:AV)
 | tup (vs:AVs)
 | nilp
 | ptr (id base lim i m c rm:Nat)
 | gp (r:AV) (n i m c rm:Nat)
 | ns
 | own (id len sz:Nat)
 | sl (id base lim o len sz:Nat)
 | vs (r:AV) (len sz:Nat)
 | mp (id:Nat)
 | nilm
 | fn (f:Nat) (cap:AVs)
 | nilf
 | rM (k:IntKind) (kn:Nat) (v:MV) (es:List (List Int×List Int))
 | lv (n:Nat)
inductive AVs where
 | nil
 | cons (n:Nat) (v:AV) (t:AVs)
end
instance:Inhabited AV:=⟨.undef⟩
def AVs.nth:AVs→Nat→AV
 | .nil,_=>.undef
 | .cons _ v _,0=>v
 | .cons _ _ t,i+1=>t.nth i
def AVs.len:AVs→Nat
 | .nil=>0
 | .cons _ _ t=>t.len+1
def AVs.ofList:List AV→AVs
 | []=>.nil
 | v :: l=>.cons 0 v (AVs.ofList l)
def AVs.toList:AVs→List AV
 | .nil=>[]
 | .cons _ v t=>v :: t.toList
def tval:CK→List Int→AV
 | .int k,f=>.int k (f.getD 0 0)
 | .bool,f=>.bool (f.getD 0 0==1)
 | .str,f=>.str f
 | .sl k,f=>.vs (.rI k f) 0 1
def tenc:CK→AV→Option (List Int)
 | .int k,.int k' n=>match decide (k=k') with
  | true=>some [n]
  | false=>none
 | .bool,.bool b=>some [cond b 1 0]
 | .str,.str s=>some s
 | .sl k,.vs (.rI k' f) 0 1=>match decide (k=k') with
  | true=>some f
  | false=>none
 | _,_=>none
def tput:List (List Int)→Nat→List Int→List (List Int)
 | [],0,f=>[f]
 | [],c+1,f=>[] :: tput [] c f
 | _ :: r,0,f=>f :: r
 | x :: r,c+1,f=>x :: tput r c f
def tsegs:List CK→List (List Int)→Nat→AVs
 | [],_,_=>.nil
 | k :: ks,r,c=>.cons 1 (.one (tval k (r.getD c []))) (tsegs ks r (c+1))
def tencs:List CK→AVs→Option (List (List Int))
 | [],.nil=>some []
 | k :: ks,.cons 1 (.one v) t=>match tenc k v,tencs ks t with
  | some f,some l=>some (f :: l)
  | _,_=>none
 | _,_=>none
mutual
def AV.size:AV→Nat
 | .rI _ xs=>xs.length
 | .rB xs=>xs.length
 | .rS xs=>xs.length
 | .rL _ xs=>xs.length
 | .one _=>1
 | .segs s=>s.sizeS
 | .rT ks xs=>xs.length*ks.length
 | _=>0
def AVs.sizeS:AVs→Nat
 | .nil=>0
 | .cons _ v t=>v.size+t.sizeS
end
mutual
def AV.cell:AV→Nat→AV
 | .rI k xs,j=>.int k (xs.getD j 0)
 | .rB xs,j=>.bool (xs.getD j false)
 | .rS xs,j=>.str (xs.getD j [])
 | .rL k xss,j=>.vs (.rI k (xss.getD j [])) 0 1
 | .one v,0=>v
 | .segs s,j=>s.cellS j
 | .rT ks xs,j=>tval (ks.getD (j%ks.length) .bool) ((xs.getD (j / ks.length) []).getD (j%ks.length) [])
 | _,_=>.undef
def AVs.cellS:AVs→Nat→AV
 | .nil,_=>.undef
 | .cons n v t,j=>match Nat.blt j n with
  | true=>v.cell j
  | false=>t.cellS (j-n)
end
def ix(i m c:Nat):Nat:=match m with
 | 0=>c
 | 1=>i+c
 | m=>i*m+c
def mz(len sz:Nat):Nat:=match sz with
 | 1=>len
 | sz=>len*sz
def slen(r:AV)(len sz:Nat):Nat:=match sz with
 | 1=>r.size
 | _=>len
def klen(len sz:Nat):Nat:=match sz with
 | 1=>0
 | _=>len
mutual
def AV.rget:AV→(base lim i m c:Nat)→AV
 | .segs s,b,l,i,m,c=>s.rgetS b l i m c
 | .rT ks xs,b,_,i,m,c=>match Nat.beq m ks.length&&(Nat.beq b 0&&Nat.blt c m) with
  | true=>tval (ks.getD c .bool) ((xs.getD i []).getD c [])
  | false=>.undef
 | .one v,b,_,i,m,c=>(AV.one v).cell (ix i m (c+b))
 | r,b,_,i,m,c=>r.cell (ix i m (c+b))
def AVs.rgetS:AVs→(base lim i m c:Nat)→AV
 | .nil,_,_,_,_,_=>.undef
 | .cons n v t,b,l,i,m,c=>match Nat.blt b n with
  | true=>match Nat.ble (b+l) n with
   | true=>v.rget b l i m c
   | false=>.undef
  | false=>t.rgetS (b-n) l i m c
end
def AV.setc:AV→Nat→AV→Option AV
 | .rI k xs,j,.int k' x=>match decide (k=k') with
  | true=>some (.rI k (xs.set j x))
  | false=>none
 | .rB xs,j,.bool x=>some (.rB (xs.set j x))
 | .rS xs,j,.str x=>some (.rS (xs.set j x))
 | .rL k xss,j,.vs (.rI k' xs) 0 1=>match decide (k=k') with
  | true=>some (.rL k (xss.set j xs))
  | false=>none
 | .one _,0,v=>some (.one v)
 | _,_,_=>none
def AVs.setn:AVs→Nat→AV→AVs
 | .nil,_,_=>.nil
 | .cons n _ t,0,v=>.cons n v t
 | .cons n u t,i+1,v=>.cons n u (t.setn i v)
mutual
def AV.rset:AV→(base lim i m c:Nat)→AV→Option AV
 | .segs s,b,l,i,m,c,x=>(s.rsetS b l i m c x).map .segs
 | .rT ks xs,b,_,i,m,c,x=>match Nat.beq m ks.length&&(Nat.beq b 0&&Nat.blt c m) with
  | true=>(tenc (ks.getD c .bool) x).map fun f=>.rT ks (xs.set i (tput (xs.getD i []) c f))
  | false=>none
 | r,b,_,i,m,c,x=>r.setc (ix i m (c+b)) x
def AVs.rsetS:AVs→(base lim i m c:Nat)→AV→Option AVs
 | .nil,_,_,_,_,_,_=>none
 | .cons n v t,b,l,i,m,c,x=>match Nat.blt b n with
  | true=>match Nat.ble (b+l) n with
   | true=>(v.rset b l i m c x).map fun v'=>.cons n v' t
   | false=>none
  | false=>(t.rsetS (b-n) l i m c x).map fun t'=>.cons n v t'
end
def AV.part:AV→(start n:Nat)→Option AV
 | .rI k xs,s,n=>some (.rI k ((xs.drop s).take n))
 | .rB xs,s,n=>some (.rB ((xs.drop s).take n))
 | .rS xs,s,n=>some (.rS ((xs.drop s).take n))
 | .rL k xs,s,n=>some (.rL k ((xs.drop s).take n))
 | _,_,_=>none
def AV.putpart:AV→(start n:Nat)→AV→Option AV
 | .rI k xs,s,n,.rI k' ys=>match decide (k=k') with
  | true=>some (.rI k (xs.take s++ys++xs.drop (s+n)))
  | false=>none
 | .rB xs,s,n,.rB ys=>some (.rB (xs.take s++ys++xs.drop (s+n)))
 | .rS xs,s,n,.rS ys=>some (.rS (xs.take s++ys++xs.drop (s+n)))
 | .rL k xs,s,n,.rL k' ys=>match decide (k=k') with
  | true=>some (.rL k (xs.take s++ys++xs.drop (s+n)))
  | false=>none
 | _,_,_,_=>none
mutual
def AV.rgetN:AV→(n base lim i m c nt:Nat)→Option AV
 | .segs s,n,b,l,i,m,c,nt=>match Nat.beq m 0&&Nat.beq n nt with
  | true=>some (.segs s)
  | false=>s.rgetNS b l i m c nt
 | .rT ks xs,_,b,_,i,m,c,nt=>match Nat.beq m ks.length&&(Nat.beq b 0&&(Nat.beq c 0&&Nat.beq nt m)) with
  | true=>some (.segs (tsegs ks (xs.getD i []) 0))
  | false=>none
 | r,n,b,_,i,m,c,nt=>match m with
  | 0=>match Nat.beq n nt with
   | true=>some r
   | false=>r.part (c+b) nt
  | m=>r.part (ix i m (c+b)) nt
def AVs.rgetNS:AVs→(base lim i m c nt:Nat)→Option AV
 | .nil,_,_,_,_,_,_=>none
 | .cons n v t,b,l,i,m,c,nt=>match Nat.blt b n with
  | true=>match Nat.ble (b+l) n with
   | true=>v.rgetN n b l i m c nt
   | false=>none
  | false=>t.rgetNS (b-n) l i m c nt
end
mutual
def AV.vpart:AV→(b lim start n:Nat)→Option AV
 | .segs s,b,l,st,n=>s.vpartS b l st n
 | r,b,_,st,n=>r.part (st+b) n
def AVs.vpartS:AVs→(b lim start n:Nat)→Option AV
 | .nil,_,_,_,_=>none
 | .cons m v t,b,l,st,n=>match Nat.blt b m with
  | true=>match Nat.ble (b+l) m with
   | true=>v.vpart b l st n
   | false=>none
  | false=>t.vpartS (b-m) l st n
end
def AV.partE(r:AV)(o len sz:Nat):Option AV:=match r with
 | .rT ks xs=>match Nat.beq sz ks.length with
  | true=>some (.rT ks ((xs.drop o).take len))
  | false=>none
 | r=>r.part (mz o sz) (mz len sz)
def AV.vpartE(r:AV)(b lim o len sz:Nat):Option AV:=match r with
 | .rT ks xs=>match Nat.beq sz ks.length&&Nat.beq b 0 with
  | true=>some (.rT ks ((xs.drop o).take len))
  | false=>none
 | r=>r.vpart b lim (mz o sz) (mz len sz)
def whole(n m nt:Nat):Bool:=match m with
 | 0=>Nat.beq n nt
 | _=>false
def kidx:CK→Nat
 | .int .i8=>0
 | .int .i16=>1
 | .int .i32=>2
 | .int .i64=>3
 | .int .u8=>4
 | .int .u16=>5
 | .int .u32=>6
 | .int .u64=>7
 | _=>0
def tagNum:List CK→Nat
 | []=>0
 | c :: l=>kidx c+8*tagNum l
def tagOf(t:Nat):List CK:=[t%8,t / 8%8,t / 64].map fun d=>match d with
 | 0=>.int .i8
 | 1=>.int .i16
 | 2=>.int .i32
 | 3=>.int .i64
 | 4=>.int .u8
 | 5=>.int .u16
 | 6=>.int .u32
 | _=>.int .u64
def AV.tag:AV→Option Nat
 | .segs (.cons 0 (.rT ks []) _)=>some (tagNum ks)
 | _=>none
mutual
def AV.rsetN:AV→(n base lim i m c nt:Nat)→AV→Option AV
 | .segs s,n,b,l,i,m,c,nt,x=>match Nat.beq m 0&&Nat.beq n nt with
  | true=>match x with
   | .segs s'=>match (AV.segs s).tag,(AV.segs s').tag with
    | none,none=>some (.segs s')
    | _,_=>none
   | _=>none
  | false=>(s.rsetNS b l i m c nt x).map .segs
 | .rI k xs,n,b,_,i,m,c,nt,x=>match whole n m nt with
  | true=>match x with
   | .rI k' ys=>match decide (k=k') with
    | true=>some (.rI k ys)
    | false=>none
   | _=>none
  | false=>(AV.rI k xs).putpart (ix i m (c+b)) nt x
 | .rB xs,n,b,_,i,m,c,nt,x=>match whole n m nt with
  | true=>match x with
   | .rB ys=>some (.rB ys)
   | _=>none
  | false=>(AV.rB xs).putpart (ix i m (c+b)) nt x
 | .rS xs,n,b,_,i,m,c,nt,x=>match whole n m nt with
  | true=>match x with
   | .rS ys=>some (.rS ys)
   | _=>none
  | false=>(AV.rS xs).putpart (ix i m (c+b)) nt x
 | .rL k xs,n,b,_,i,m,c,nt,x=>match whole n m nt with
  | true=>none
  | false=>(AV.rL k xs).putpart (ix i m (c+b)) nt x
 | .rT ks xs,_,b,_,i,m,c,nt,x=>match x with
  | .segs s=>match Nat.beq c 0&&Nat.beq nt ks.length with
   | true=>match m with
    | 0=>match Nat.beq (b%nt) 0 with
     | true=>(tencs ks s).map fun r=>.rT ks (xs.set (b / nt) r)
     | false=>none
    | m=>match Nat.beq m nt&&Nat.beq b 0 with
     | true=>(tencs ks s).map fun r=>.rT ks (xs.set i r)
     | false=>none
   | false=>none
  | _=>none
 | _,_,_,_,_,_,_,_,_=>none
def AVs.rsetNS:AVs→(base lim i m c nt:Nat)→AV→Option AVs
 | .nil,_,_,_,_,_,_,_=>none
 | .cons n v t,b,l,i,m,c,nt,x=>match Nat.blt b n with
  | true=>match Nat.ble (b+l) n with
   | true=>(v.rsetN n b l i m c nt x).map fun v'=>.cons n v' t
   | false=>none
  | false=>(t.rsetNS (b-n) l i m c nt x).map fun t'=>.cons n v t'
end
def AV.app:AV→AV→Option AV
 | .rI k xs,.rI k' ys=>match decide (k=k') with
  | true=>some (.rI k (xs++ys))
  | false=>none
 | .rB xs,.rB ys=>some (.rB (xs++ys))
 | .rS xs,.rS ys=>some (.rS (xs++ys))
 | .rL k xs,.rL k' ys=>match decide (k=k') with
  | true=>some (.rL k (xs++ys))
  | false=>none
 | .rT ks xs,.rT ks' ys=>match Nat.blt 0 ks.length&&decide (ks=ks') with
  | true=>some (.rT ks (xs++ys))
  | false=>none
 | _,_=>none
def AV.appT(e:Nat):AV→AV→Option AV
 | .segs (.cons 0 (.rT ks []) (.cons _ x .nil)),y=>match Nat.beq (tagNum ks) (e+512),x.app y with
  | true,some z=>some (.segs (.cons 0 (.rT ks []) (.cons z.size z .nil)))
  | _,_=>none
 | x,y=>x.app y
def AVs.cat:AVs→AVs→AVs
 | .nil,b=>b
 | .cons n v t,b=>.cons n v (t.cat b)
inductive TyD where
 | int (k:IntKind)
 | bool
 | str
 | ptr (e:Nat)
 | slice (e:Nat)
 | arr (n e:Nat)
 | struct (fs:List (Nat×Nat))
 | map (k e:Nat)
 | func
 | other
structure Ty where
 d:TyD
 sz:Nat
 by_:Nat
abbrev Tys:=List Ty
def Tys.at(T:Tys)(t:Nat):Ty:=T.getD t ⟨.other,0,0⟩
def tks(T:Tys):List (Nat×Nat)→Option (List CK)
 | []=>some []
 | (t,_) :: fs=>match (match (T.at t).d with
   | .int k=>some (CK.int k)
   | .bool=>some .bool
   | .str=>some .str
   | .slice e=>match (T.at e).d with
    | .int k=>some (.sl k)
    | _=>none
   | _=>none),tks T fs with
  | some k,some ks=>some (k :: ks)
  | _,_=>none
def CK.z:CK→List Int
 | .int _=>[0]
 | .bool=>[0]
 | .str=>[]
 | .sl _=>[]
def zrow(T:Tys):Nat→(t n:Nat)→Option AV
 | 0,_,_=>none
 | d+1,t,n=>match (T.at t).d with
  | .int k=>some (.rI k (List.replicate n 0))
  | .bool=>some (.rB (List.replicate n false))
  | .str=>some (.rS (List.replicate n []))
  | .slice e=>match (T.at e).d with
   | .int k=>some (.rL k (List.replicate n []))
   | _=>none
  | .arr m e=>zrow T d e (n*m)
  | .struct fs=>match tks T fs with
   | some ks=>match Nat.blt 1 ks.length with
    | true=>some (.rT ks (List.replicate n (ks.map CK.z)))
    | false=>none
   | none=>none
  | _=>none
mutual
def zvar(T:Tys):Nat→Nat→Option AV
 | 0,_=>none
 | d+1,t=>match (T.at t).d with
  | .int k=>some (.one (.int k 0))
  | .bool=>some (.one (.bool false))
  | .str=>some (.one (.str []))
  | .ptr _=>some (.one .nilp)
  | .slice _=>some (.one .ns)
  | .map _ _=>some (.one .nilm)
  | .func=>some (.one .nilf)
  | .arr m e=>zrow T d e m
  | .struct fs=>(zsegs T d fs).map .segs
  | .other=>none
def zsegs(T:Tys):Nat→List (Nat×Nat)→Option AVs
 | _,[]=>some .nil
 | 0,_ :: _=>none
 | d+1,(t,_) :: fs=>match zvar T d t,zsegs T d fs with
  | some r,some s=>some (.cons (T.at t).sz r s)
  | _,_=>none
end
def AV.scal:AV→Bool
 | .bool _=>true
 | .int _ _=>true
 | .str _=>true
 | .nilp=>true
 | .ptr _ _ _ _ _ _ _=>true
 | .gp _ _ _ _ _ _=>true
 | .ns=>true
 | .own _ _ _=>true
 | .sl _ _ _ _ _ _=>true
 | .vs _ _ _=>true
 | .mp _=>true
 | .nilm=>true
 | .fn _ _=>true
 | .nilf=>true
 | .lv _=>true
 | _=>false
def AV.torow:AV→AV
 | .agg _ r=>r
 | v=>.one v
def AV.csize:AV→Nat
 | .agg n _=>n
 | _=>1
inductive Blk where
 | cells (n:Nat) (r:AV) (w:Bool)
 | gone
structure St where
 tmps:List (Nat×AV)
 heap:List (Nat×Blk)
 next:Nat
 nt:Nat
 m:Nat
def lk(t:Nat):List (Nat×AV)→AV
 | []=>.undef
 | (u,v) :: r=>match Nat.beq t u with
  | true=>v
  | false=>lk t r
def lkH(t:Nat):List (Nat×Blk)→Blk
 | []=>.gone
 | (u,v) :: r=>match Nat.beq t u with
  | true=>v
  | false=>lkH t r
def St.put(s:St)(d:Option Nat)(v:AV):St:=match d with
 | some d=>match Nat.blt d s.nt with
  | true=>{ s with tmps:=(d,v) :: s.tmps }
  | false=>s
 | none=>s
def St.setH(s:St)(id:Nat)(b:Blk):St:={ s with heap:=(id,b) :: s.heap }
def bytesOf(s:ByteArray):List Int:=s.data.toList.map fun b=>(b.toNat:Int)
def ofVal:Value→AV
 | .bool b=>.bool b
 | .int k n=>match decide (k.min≤n)&&decide (n≤k.max) with
  | true=>.int k n
  | false=>.undef
 | .string s=>match Nat.blt s.size 4611686018427387904 with
  | true=>.str (bytesOf s)
  | false=>.undef
 | .pointer none=>.nilp
 | .slice none 0 0=>.ns
 | .map none=>.nilm
 | .nilFunc=>.nilf
 | _=>.undef
def AV.leafB:AV→Bool
 | .rI _ _=>true
 | .rB _=>true
 | .rS _=>true
 | .rL _ _=>true
 | .rT _ _=>true
 | _=>false
structure Env where
 T:Tys
 G:Nat→Option AV
 E:Nat→Option (List (Option Nat)×(List AV→List Blk→Option (Bool×AV×List Blk)))
 mv:Nat→Nat:=fun _=>0
def Env.mvAt(V:Env)(d:Option Nat):Nat:=match d with
 | some d=>V.mv d
 | none=>0
def Env.mkv(V:Env)(d:Option Nat)(v:MV):MV:=match v with
 | .sl k=>match V.mvAt d with
  | 0=>.sl k
  | _=>.osl k
 | v=>v
def ev(V:Env)(s:St):Operand→AV
 | .tmp t=>lk t s.tmps
 | .const v=>ofVal v
 | .global g=>match V.G g with
  | some r=>match r.leafB with
   | true=>.gp r r.size 0 0 0 r.size
   | false=>.undef
  | none=>.undef
 | .func f=>match Nat.blt f 1073741824 with
  | true=>.fn f .nil
  | false=>.undef
def ibits(op:BinOp)(k:IntKind)(x y:Int):Int:=
 match op with
 | .and=>k.wrap ((BitVec.ofInt k.bits x &&& BitVec.ofInt k.bits y).toNat)
 | .or=>k.wrap ((BitVec.ofInt k.bits x ||| BitVec.ofInt k.bits y).toNat)
 | .xor=>k.wrap ((BitVec.ofInt k.bits x ^^^ BitVec.ofInt k.bits y).toNat)
 | _=>k.wrap ((BitVec.ofInt k.bits x &&& ~~~ BitVec.ofInt k.bits y).toNat)
def sless:List Int→List Int→Bool
 | _,[]=>false
 | [],_ :: _=>true
 | a :: x,b :: y=>decide (a < b) || ((a==b)&&sless x y)
def ibin(op:BinOp)(k:IntKind)(x y:Int):Option (Bool×AV):=
 match op with
 | .add=>some (true,.int k (k.wrap (x+y)))
 | .sub=>some (true,.int k (k.wrap (x-y)))
 | .mul=>some (true,.int k (k.wrap (x*y)))
 | .quo=>some (!(y==0),.int k (k.wrap (x.tdiv y)))
 | .rem=>some (!(y==0),.int k (x.tmod y))
 | .and=>some (true,.int k (ibits .and k x y))
 | .or=>some (true,.int k (ibits .or k x y))
 | .xor=>some (true,.int k (ibits .xor k x y))
 | .andNot=>some (true,.int k (ibits .andNot k x y))
 | .eql=>some (true,.bool (x==y))
 | .neq=>some (true,.bool (x != y))
 | .lss=>some (true,.bool (decide (x < y)))
 | .leq=>some (true,.bool (decide (x≤y)))
 | .gtr=>some (true,.bool (decide (x > y)))
 | .geq=>some (true,.bool (decide (x≥y)))
 | _=>none
def sbin(op:BinOp)(x y:List Int):Option (Bool×AV):=
 match op with
 | .add=>some (decide (x.length+y.length < 4611686018427387904),.str (x++y))
 | .eql=>some (true,.bool (x==y))
 | .neq=>some (true,.bool (!(x==y)))
 | .lss=>some (true,.bool (sless x y))
 | .leq=>some (true,.bool (sless x y || (x==y)))
 | .gtr=>some (true,.bool (!(sless x y || (x==y))))
 | .geq=>some (true,.bool (!(sless x y)))
 | _=>none
def aeq1:TyD→AV→AV→Option Bool
 | .int _,.int k a,.int k' b=>match decide (k=k') with
  | true=>some (a==b)
  | false=>none
 | .str,.str a,.str b=>some (a==b)
 | .bool,.bool a,.bool b=>some (a==b)
 | _,_,_=>none
def aeqS(T:Tys):Nat→List (Nat×Nat)→AVs→AVs→Option Bool
 | _,[],.nil,.nil=>some true
 | o,f :: fs,.cons n (.one x) s,.cons m (.one y) u=>match Nat.beq n 1&&(Nat.beq m 1&&(Nat.beq f.2 o&&Nat.beq (T.at f.1).sz 1)) with
  | true=>match aeq1 (T.at f.1).d x y,aeqS T (o+1) fs s u with
   | some b,some c=>some (b&&c)
   | _,_=>none
  | false=>none
 | _,_,_,_=>none
def aeq(T:Tys)(t n:Nat)(x:AV)(m:Nat)(y:AV):Option Bool:=match (T.at t).d with
 | .arr len e=>match Nat.beq n len&&Nat.beq m len with
  | true=>match (T.at e).d,x,y with
   | .int _,.rI k xs,.rI k' ys=>match decide (k=k') with
    | true=>some (xs==ys)
    | false=>none
   | .bool,.rB xs,.rB ys=>some (xs==ys)
   | _,_,_=>none
  | false=>none
 | .struct fs=>match x,y with
  | .segs s,.segs u=>aeqS T 0 fs s u
  | _,_=>none
 | _=>none
def anil(T:Tys)(t:Nat):AV→AV→Option (Bool×Bool)
 | .ptr _ _ _ _ _ _ _,.nilp=>match (T.at t).d with
  | .ptr _=>some (true,false)
  | _=>none
 | .nilp,.nilp=>match (T.at t).d with
  | .ptr _=>some (true,true)
  | _=>none
 | .own _ len _,.ns=>match (T.at t).d with
  | .slice _=>some (decide (0 < len),false)
  | _=>none
 | .mp _,.nilm=>match (T.at t).d with
  | .map _ _=>some (true,false)
  | _=>none
 | _,_=>none
def abin(T:Tys)(t:Nat)(op:BinOp)(a b:AV):Option (Bool×AV):=
 match a,b with
 | .int k x,.int k' y=>match op with
  | .shl=>some (decide (0≤y),.int k (k.wrap (x*2^(min y.toNat k.bits))))
  | .shr=>some (decide (0≤y),.int k (x.fdiv (2^(min y.toNat k.bits))))
  | op=>match decide (k=k') with
   | true=>ibin op k x y
   | false=>none
 | .str x,.str y=>sbin op x y
 | .bool x,.bool y=>match (T.at t).d,op with
  | .bool,.eql=>some (true,.bool (x==y))
  | .bool,.neq=>some (true,.bool (!(x==y)))
  | _,_=>none
 | .agg n x,.agg m y=>match op with
  | .eql=>(aeq T t n x m y).map fun b=>(true,.bool b)
  | .neq=>(aeq T t n x m y).map fun b=>(true,.bool (!b))
  | _=>none
 | .vs _ f 1,.ns=>match (T.at t).d,op with
  | .slice _,.eql=>match f with
   | 2=>some (true,.bool false)
   | 3=>some (true,.bool true)
   | _=>none
  | .slice _,.neq=>match f with
   | 2=>some (true,.bool true)
   | 3=>some (true,.bool false)
   | _=>none
  | _,_=>none
 | x,y=>match op,anil T t x y with
  | .eql,some (p,b)=>some (p,.bool b)
  | .neq,some (p,b)=>some (p,.bool (!b))
  | _,_=>none
def aun(op:UnOp)(a:AV):Option AV:=
 match op,a with
 | .neg,.int k x=>some (.int k (k.wrap (0-x)))
 | .xor,.int k x=>some (.int k (ibits .xor k (if k.signed then -1 else k.max) x))
 | .not,.bool b=>some (.bool (!b))
 | _,_=>none
def view(V:Env)(s:St)(e:Nat):AV→Option (AV×Nat×Nat)
 | .vs r len sz=>some (r,slen r len sz,sz)
 | .ns=>(zrow V.T 8 e 0).map fun r=>(r,0,(V.T.at e).sz)
 | .own id len sz=>match lkH id s.heap with
  | .cells _ r _=>match r.leafB with
   | true=>some (r,slen r len sz,sz)
   | false=>none
  | .gone=>none
 | .sl id b lim o len sz=>match lkH id s.heap with
  | .cells _ r _=>(r.vpartE b lim o len sz).map fun r=>(r,len,sz)
  | .gone=>none
 | _=>none
def mkvs(r:AV)(len sz:Nat):AV:=.vs r (klen len sz) sz
def freezeId(s:St)(id:Nat):St:=match lkH id s.heap with
 | .cells n r _=>s.setH id (.cells n r false)
 | .gone=>s
def freeze(s:St):AV→St
 | .own id _ _=>freezeId s id
 | .sl id _ _ _ _ _=>freezeId s id
 | _=>s
def olen(s:St)(id len sz:Nat):Option Nat:=match lkH id s.heap with
 | .cells _ r _=>some (slen r len sz)
 | .gone=>none
def coerce(V:Env)(s:St)(m:Option Nat)(v:AV):Option AV:=match m with
 | none=>some v
 | some e=>(view V s e v).map fun (r,len,sz)=>mkvs r len sz
def intOf:AV→Option (IntKind×Int)
 | .int k n=>some (k,n)
 | _=>none
def addc(v:AV)(off sz:Nat):Option AV:=match v with
 | .ptr id b l i m c rm=>match Nat.ble (off+sz) rm&&Nat.blt 0 sz with
  | true=>match m with
   | 0=>match c with
    | 0=>some (.ptr id (b+off) sz i 0 0 sz)
    | c=>some (.ptr id b l i 0 (c+off) sz)
   | m=>some (.ptr id b l i m (c+off) sz)
  | false=>none
 | .gp r n i m c rm=>match Nat.ble (off+sz) rm&&Nat.blt 0 sz with
  | true=>some (.gp r n i m (c+off) sz)
  | false=>none
 | _=>none
def bsz(r:AV)(len sz:Nat):Nat:=match sz with
 | 1=>r.size
 | sz=>len*sz
def hasKey(id:Nat):List (Nat×Blk)→Bool
 | []=>false
 | (u,_) :: r=>match Nat.beq id u with
  | true=>true
  | false=>hasKey id r
def isBld(T:Tys)(t:Nat):Bool:=match (T.at t).d with
 | .struct [(p,0),(q,1)]=>match (T.at p).d,(T.at q).d with
  | .ptr e,.slice _=>Nat.beq e t
  | _,_=>false
 | _=>false
def tagged(T:Tys)(t:Nat)(r:AV):AV:=match isBld T t,r with
 | true,.segs s=>.segs (.cons 0 (.rT (tagOf t) []) s)
 | _,r=>r
def newBlk(s:St)(i:Nat)(n:Nat)(r:AV)(pre:Bool)(f:Nat→AV):Option (Bool×AV×St):=
 match hasKey (s.next+16*i) s.heap,r.tag with
 | false,none=>some (pre,f (s.next+16*i),s.setH (s.next+16*i) (.cells n r true))
 | _,_=>none
def newBlkT(t:Nat)(s:St)(i:Nat)(n:Nat)(r:AV)(pre:Bool)(f:Nat→AV):Option (Bool×AV×St):=
 match hasKey (s.next+16*i) s.heap,(match r.tag with
  | none=>true
  | some t'=>Nat.beq (t'%512) t) with
 | false,true=>some (pre,f (s.next+16*i),s.setH (s.next+16*i) (.cells n r true))
 | _,_=>none
def AV.lies:AV→Bool
 | .agg _ _=>true
 | v=>v.scal
def putv(r:AV)(k off n:Nat)(v:AV):Option AV:=match v with
 | .agg n' x=>match Nat.beq n n'&&Nat.blt 0 n with
  | true=>r.rsetN k off n 0 0 0 n x
  | false=>none
 | v=>match v.scal&&Nat.beq n 1 with
  | true=>r.rset off n 0 0 0 v
  | false=>none
def getv(agg:Bool)(r:AV)(k off n:Nat):Option AV:=match agg with
 | true=>match Nat.blt 0 n with
  | true=>(r.rgetN k off n 0 0 0 n).map (.agg n)
  | false=>none
 | false=>match Nat.beq n 1 with
  | true=>some (r.rget off n 0 0 0)
  | false=>none
def fillS(T:Tys)(fs:List (Nat×Nat))(k:Nat)(r:AV):List (Nat×AV)→Option AV
 | []=>some r
 | (f,v) :: l=>match fs[f]? with
  | some (t,off)=>match Nat.ble (off+(T.at t).sz) k with
   | true=>match putv r k off (T.at t).sz v with
    | some r'=>fillS T fs k r' l
    | none=>none
   | false=>none
  | none=>none
def fillR(k sz:Nat)(r:AV):List (Nat×AV)→Option AV
 | []=>some r
 | (f,v) :: l=>match Nat.ble (f*sz+sz) k with
  | true=>match putv r k (f*sz) sz v with
   | some r'=>fillR k sz r' l
   | none=>none
  | false=>none
mutual
def AV.ids:AV→List Nat
 | .ptr id _ _ _ _ _ _=>[id]
 | .own id _ _=>[id]
 | .sl id _ _ _ _ _=>[id]
 | .mp id=>[id]
 | .one v=>v.ids
 | .agg _ r=>r.ids
 | .segs s=>s.idsL
 | .tup s=>s.idsL
 | .fn _ s=>s.idsL
 | _=>[]
def AVs.idsL:AVs→List Nat
 | .nil=>[]
 | .cons _ v t=>v.ids++t.idsL
end
def mem(n:Nat):List Nat→Bool
 | []=>false
 | m :: l=>match Nat.beq n m with
  | true=>true
  | false=>mem n l
def numb(n:Nat):List Nat→Nat
 | []=>0
 | m :: l=>match Nat.beq n m with
  | true=>0
  | false=>numb n l+1
def addNew:List Nat→List Nat→List Nat
 | acc,[]=>acc
 | acc,n :: l=>match mem n acc with
  | true=>addNew acc l
  | false=>addNew (acc++[n]) l
def Blk.ids:Blk→List Nat
 | .cells _ r _=>r.ids
 | .gone=>[]
def reach(H:List (Nat×Blk)):Nat→List Nat→List Nat→List Nat
 | 0,acc,_=>acc
 | _+1,acc,[]=>acc
 | d+1,acc,id :: todo=>
  let new:=(lkH id H).ids.filter fun n=>!(mem n acc)
  let new:=addNew [] new
  reach H d (acc++new) (todo++new)
mutual
def AV.ren(π:Nat→Nat):AV→AV
 | .ptr id b l i m c rm=>.ptr (π id) b l i m c rm
 | .own id len sz=>.own (π id) len sz
 | .sl id b l o len sz=>.sl (π id) b l o len sz
 | .mp id=>.mp (π id)
 | .one v=>.one (v.ren π)
 | .agg n r=>.agg n (r.ren π)
 | .segs s=>.segs (s.renL π)
 | .tup s=>.tup (s.renL π)
 | .fn f s=>.fn f (s.renL π)
 | v=>v
def AVs.renL(π:Nat→Nat):AVs→AVs
 | .nil=>.nil
 | .cons n v t=>.cons n (v.ren π) (t.renL π)
end
def Blk.ren(π:Nat→Nat):Blk→Blk
 | .cells n r w=>.cells n (r.ren π) w
 | .gone=>.gone
inductive Md where
 | plain
 | own (e:Nat)
 | view (e:Nat)
 | touch (k:Nat)
 | fview (k e:Nat)
 | lists (k:IntKind) (e:Nat)
 | mfix
def fvAt(V:Env)(e id:Nat)(s:St)(k:Nat):St:=match lkH id s.heap with
 | .cells _ (.segs l) true=>match l.nth k with
  | .one v=>match view V s e v with
   | some (r,len,sz)=>match lkH id (freeze s v).heap,Nat.blt k l.len with
    | .cells n _ true,true=>(freeze s v).setH id (.cells n (.segs (l.setn k (.one (mkvs r len sz)))) true)
    | _,_=>s
   | none=>s
  | _=>s
 | _=>s
def fvAll(V:Env)(e id:Nat):Nat→Nat→St→St
 | 0,_,s=>s
 | n+1,k,s=>fvAll V e id n (k+1) (fvAt V e id s k)
def rowsOf(k:IntKind):AVs→Option (List (List Int))
 | .nil=>some []
 | .cons 1 (.one (.vs (.rI k' xs) 0 1)) t=>match decide (k=k'),rowsOf k t with
  | true,some l=>some (xs :: l)
  | _,_=>none
 | _=>none
def collect(s:St)(id:Nat)(k:IntKind):St:=match lkH id s.heap with
 | .cells n (.segs l) true=>match Nat.blt 0 n,rowsOf k l with
  | true,some xss=>s.setH id (.cells n (.rL k xss) true)
  | _,_=>s
 | _=>s
def mode1(V:Env)(s:St)(t:Nat)(m:Md)(fresh:Nat):St:=match m with
 | .plain=>s
 | .own e=>match lk t s.tmps,zrow V.T 8 e 0,hasKey fresh s.heap with
  | .ns,some r,false=>{ s with tmps:=(t,.own fresh 0 (V.T.at e).sz) :: s.tmps,heap:=(fresh,.cells 0 r true) :: s.heap,next:=fresh+1 }
  | .sl id 0 _ 0 len 1,some _,false=>match lkH id s.heap with
   | .cells _ r true=>match r.part 0 len with
    | some r'=>{ s with tmps:=(t,.own fresh 0 1) :: s.tmps,heap:=(fresh,.cells len r' true) :: (id,.gone) :: s.heap,next:=fresh+1 }
    | none=>s
   | _=>s
  | _,_,_=>s
 | .view e=>match view V s e (lk t s.tmps) with
  | some (r,len,sz)=>let s':=freeze s (lk t s.tmps);{ s' with tmps:=(t,mkvs r len sz) :: s'.tmps }
  | none=>s
 | .touch k=>match lk t s.tmps with
  | .ptr id 0 _ 0 0 0 _=>match lkH id s.heap with
   | .cells n (.segs l) true=>match l.nth k with
    | .one (.own j len sz)=>match Nat.blt k l.len&&(!Nat.beq j id),hasKey fresh s.heap,lkH j s.heap with
     | true,false,.cells nj rj true=>match rj.leafB with
      | true=>{ s with heap:=(id,.cells n (.segs (l.setn k (.one (.own fresh len sz)))) true) :: (fresh,.cells nj rj true) :: (j,.gone) :: s.heap,next:=fresh+1 }
      | false=>s
     | _,_,_=>s
    | _=>s
   | _=>s
  | _=>s
 | .fview k e=>match lk t s.tmps with
  | .ptr id 0 _ 0 0 0 _=>fvAt V e id s k
  | _=>s
 | .lists k e=>match lk t s.tmps with
  | .own id 0 1=>match lkH id s.heap with
   | .cells _ (.segs l) true=>collect (fvAll V e id l.len 0 s) id k
   | _=>s
  | _=>s
 | .mfix=>match lk t s.tmps with
  | .mp id=>match lkH id s.heap with
   | .cells n (.rM k kn (.osl k') es) true=>s.setH id (.cells n (.rM k kn (.sl k') es) true)
   | _=>s
  | .ptr id 0 1 0 0 0 1=>match lkH id s.heap with
   | .cells 1 (.one (.int k x)) true=>let s':=freezeId s id;{ s' with tmps:=(t,.gp (.rI k [x]) 1 0 0 0 1) :: s'.tmps }
   | _=>s
  | _=>s
def modeAll(V:Env):List (Nat×Md)→Nat→St→St
 | [],_,s=>s
 | (t,m) :: l,fresh,s=>modeAll V l (fresh+1) (mode1 V s t m fresh)
def tagH:Nat→List Blk→List (Nat×Blk)
 | _,[]=>[]
 | i,b :: l=>(i,b) :: tagH (i+1) l
def nodupB:List Nat→Bool
 | []=>true
 | n :: l=>match mem n l with
  | true=>false
  | false=>nodupB l
def goodIds(roots ids:List Nat)(H:List (Nat×Blk)):Bool:=
 nodupB ids&&(roots.all (fun n=>mem n ids)&&(ids.all (fun n=>hasKey n H)&&ids.all fun n=>(lkH n H).ids.all fun k=>mem k ids))
def norm(V:Env)(keep:List (Nat×Md))(s0:St):St:=
 let s:=modeAll V keep s0.next s0
 let kept:=keep.map fun p=>(p.1,lk p.1 s.tmps)
 let roots:=addNew (List.range s.m) (kept.flatMap fun p=>p.2.ids)
 let ids:=reach s.heap 64 roots roots
 let π:=fun n=>numb n ids
 match goodIds roots ids s.heap with
 | true=>{ tmps:=kept.map fun p=>(p.1,p.2.ren π),heap:=tagH 0 (ids.map fun n=>(lkH n s.heap).ren π),next:=ids.length,nt:=s.nt,m:=s.m }
 | false=>s0
def coerceAll(V:Env)(s:St):List (Option Nat)→List AV→Option (List AV)
 | [],[]=>some []
 | m :: ms,v :: l=>match coerce V s m v,coerceAll V s ms l with
  | some v,some l=>some (v :: l)
  | _,_=>none
 | _,_=>none
def backOf(ids:List Nat)(fresh j:Nat):Nat:=match ids[j]? with
 | some id=>id
 | none=>fresh+(j-ids.length)
def putBack(ids:List Nat)(fresh:Nat)(π:Nat→Nat):Nat→List Blk→List (Nat×Blk)→List (Nat×Blk)
 | _,[],H=>H
 | j,b :: l,H=>putBack ids fresh π (j+1) l ((backOf ids fresh j,b.ren π) :: H)
def capsEq:AVs→AVs→Bool
 | .nil,.nil=>true
 | .cons 0 (.ptr a 0 1 0 0 0 1) t,.cons 0 (.ptr b 0 1 0 0 0 1) u=>match Nat.beq a b with
  | true=>capsEq t u
  | false=>false
 | _,_=>false
def keptB:Blk→Blk→Bool
 | .cells n r b,.cells m r' b'=>match r,r' with
  | .one v,.one v'=>match v,v' with
   | .fn f c,.fn g d=>match Nat.beq f g&&Nat.beq n m,b,b' with
    | true,true,true=>capsEq c d
    | _,_,_=>false
   | .mp f,.mp g=>match Nat.beq f g&&Nat.beq n m,b,b' with
    | true,true,true=>true
    | _,_,_=>false
   | _,_=>false
  | _,_=>false
 | _,_=>false
def putBackK(ids:List Nat)(fresh:Nat)(π:Nat→Nat):Nat→List Blk→List (Nat×Blk)→List (Nat×Blk)
 | _,[],H=>H
 | j,b :: l,H=>match keptB (lkH (backOf ids fresh j) H) (b.ren π) with
  | true=>putBackK ids fresh π (j+1) l H
  | false=>putBackK ids fresh π (j+1) l ((backOf ids fresh j,b.ren π) :: H)
def pushedK(ids:List Nat)(fresh:Nat)(π:Nat→Nat):Nat→List Blk→List (Nat×Blk)→List Nat
 | _,[],_=>[]
 | j,b :: l,H=>match keptB (lkH (backOf ids fresh j) H) (b.ren π) with
  | true=>pushedK ids fresh π (j+1) l H
  | false=>backOf ids fresh j :: pushedK ids fresh π (j+1) l ((backOf ids fresh j,b.ren π) :: H)
def freeAll(id:Nat):Nat→List (Nat×Blk)→Bool
 | 0,_=>true
 | n+1,H=>match hasKey id H with
  | true=>false
  | false=>freeAll (id+1) n H
mutual
def AV.hasV:AV→Bool
 | .vs _ _ _=>true
 | .gp _ _ _ _ _ _=>true
 | .rL _ _=>true
 | .one v=>v.hasV
 | .agg _ r=>r.hasV
 | .segs s=>s.hasVL
 | .rT ks _=>ks.any CK.isSl
 | .tup s=>s.hasVL
 | .fn _ s=>s.hasVL
 | .rM _ _ v _=>v.isSl
 | _=>false
def AVs.hasVL:AVs→Bool
 | .nil=>false
 | .cons _ v t=>v.hasV || t.hasVL
end
def Blk.hasV:Blk→Bool
 | .cells _ r _=>r.hasV
 | .gone=>false
def AV.isO:AV→Bool
 | .rM _ _ (.osl _) _=>true
 | .rM _ _ (.oslx _ _) _=>true
 | _=>false
def Blk.isO:Blk→Bool
 | .cells _ r _=>r.isO
 | .gone=>false
def coerced:List (Option Nat)→List AV→List AV
 | some _ :: ms,v :: l=>v :: coerced ms l
 | none :: ms,_ :: l=>coerced ms l
 | _,_=>[]
def freezeAll(s:St)(l:List AV):St:=l.foldl (fun s' x=>freeze s' x) s
def acall(V:Env)(i f:Nat)(args:List AV)(s:St):Option (Bool×AV×St):=
 match V.E f with
 | none=>none
 | some (modes,run)=>match coerceAll V s modes args with
  | none=>none
  | some args'=>
   let roots:=addNew [] (args'.flatMap AV.ids)
   let ids:=reach s.heap 64 roots roots
   let co:=coerced modes args
   let π:=fun n=>numb n ids
   match goodIds roots ids s.heap&&((co.flatMap AV.ids).all (fun n=>!(mem n ids))&&ids.all fun n=>!(lkH n s.heap).isO) with
   | false=>none
   | true=>match run (args'.map (AV.ren π)) (ids.map fun n=>(lkH n s.heap).ren π) with
    | none=>none
    | some (pre,r,H')=>
     let fresh:=s.next+16*i
     match Nat.ble ids.length H'.length&&(Nat.ble (H'.length-ids.length) 16&&(freeAll fresh (H'.length-ids.length) s.heap&&H'.all fun b=>!b.isO)) with
     | false=>none
     | true=>
      let base:=match r.hasV || H'.any Blk.hasV with
       | true=>freezeAll s co
       | false=>s
      some (pre,r.ren (backOf ids fresh),{ base with heap:=putBackK ids fresh (backOf ids fresh) 0 H' base.heap })
def toI(n:Nat):AV:=.int .i64 (n:Int)
def mval:MV→List Int→AV
 | .one k,xs=>.int k (xs.getD 0 0)
 | .arr k n,xs=>.agg n (.rI k xs)
 | .bool,xs=>.bool (xs.getD 0 0==1)
 | .sl k,xs=>.vs (.rI k xs) 0 1
 | _,_=>.undef
def mzero:MV→List Int
 | .one _=>[0]
 | .arr _ n=>List.replicate n 0
 | .bool=>[0]
 | _=>[]
def mkey(k:IntKind):Nat→AV→Option (List Int)
 | 0,.int k' x=>match decide (k=k') with
  | true=>some [x]
  | false=>none
 | n+1,.agg m (.rI k' xs)=>match decide (k=k')&&Nat.beq m (n+1) with
  | true=>some xs
  | false=>none
 | _,_=>none
def minto:MV→AV→Option (List Int)
 | .one k,.int k' x=>match decide (k=k') with
  | true=>some [x]
  | false=>none
 | .arr k n,.agg m (.rI k' xs)=>match decide (k=k')&&Nat.beq m n with
  | true=>some xs
  | false=>none
 | .bool,.bool b=>some [cond b 1 0]
 | .sl k,.vs (.rI k' xs) 0 1=>match decide (k=k') with
  | true=>some xs
  | false=>none
 | _,_=>none
def mhas(es:List (List Int×List Int))(k:List Int):Bool:=es.any fun e=>e.1==k
def mget(z:List Int):List (List Int×List Int)→List Int→List Int
 | [],_=>z
 | e :: es,k=>cond (e.1==k) e.2 (mget z es k)
def mput:List (List Int×List Int)→List Int→List Int→List (List Int×List Int)
 | [],k,v=>[(k,v)]
 | e :: es,k,v=>cond (e.1==k) ((k,v) :: es) (e :: mput es k v)
def mdel(es:List (List Int×List Int))(k:List Int):List (List Int×List Int):=es.filter fun e=>!(e.1==k)
def mapTy(T:Tys)(t:Nat):Option (IntKind×Nat×MV):=match (T.at t).d with
 | .map kt et=>match (match (T.at kt).d with
   | .int k=>some (k,0)
   | .arr (n+1) e=>match (T.at e).d with
    | .int k=>some (k,n+1)
    | _=>none
   | _=>none),(match (T.at et).d with
   | .int k=>some (MV.one k)
   | .bool=>some .bool
   | .arr n e=>match (T.at e).d with
    | .int k=>some (.arr k n)
    | _=>none
   | .slice e=>match (T.at e).d with
    | .int k=>some (.sl k)
    | _=>none
   | _=>none) with
  | some (k,n),some v=>some (k,n,v)
  | _,_=>none
 | _=>none
def MV.beq:MV→MV→Bool
 | .one k,.one k'=>decide (k=k')
 | .arr k n,.arr k' n'=>decide (k=k')&&Nat.beq n n'
 | .bool,.bool=>true
 | .sl k,.sl k'=>decide (k=k')
 | _,_=>false
def isMapTy(T:Tys)(t:Nat)(k:IntKind)(n:Nat)(v:MV):Bool:=match mapTy T t with
 | some (k',n',v')=>(decide (k'=k)&&Nat.beq n' n)&&v'.beq v
 | none=>false
def alook(V:Env)(t i:Nat)(d:Option Nat)(ok:Bool)(id:Nat)(k:IntKind)(n:Nat)(v:MV)(es:List (List Int×List Int))(b:Bool)(x:AV)(s:St):Option (Bool×AV×St):=match v,ok,b with
 | .osl k',false,true=>match isMapTy V.T t k n (.sl k'),mkey k n x with
  | true,some key=>match V.mvAt d with
   | 0=>some (true,.lv (mget [] es key).length,s)
   | _=>match hasKey (s.next+16*i) s.heap with
    | false=>some (true,.own (s.next+16*i) 0 1,(s.setH id (.cells 0 (.rM k n (.oslx k' key) es) true)).setH (s.next+16*i) (.cells (mget [] es key).length (.rI k' (mget [] es key)) true))
    | true=>none
  | _,_=>none
 | _,_,_=>none
def aputO(V:Env)(t id:Nat)(k:IntKind)(n:Nat)(v:MV)(es:List (List Int×List Int))(x y:AV)(s:St):Option (Bool×AV×St):=match v,y with
 | .oslx k' key0,.own idy 0 1=>match isMapTy V.T t k n (.sl k'),mkey k n x,lkH idy s.heap,Nat.beq idy id with
  | true,some key,.cells _ (.rI k'' xs) true,false=>match decide (k'=k'') with
   | true=>some ((key0==key)&&decide (0 < xs.length),.undef,(s.setH idy .gone).setH id (.cells 0 (.rM k n (.osl k') (mput es key xs)) true))
   | false=>none
  | _,_,_,_=>none
 | _,_=>none
def acopy(s:St)(id b lim o len:Nat)(ry:AV)(ny:Nat):Option (Bool×AV×St):=
 match lkH id s.heap with
 | .cells n r true=>match ry.part 0 (min ny len) with
  | some part=>match r.rsetN n b lim o 1 0 (min ny len) part with
   | some r'=>some (true,toI (min ny len),s.setH id (.cells n r' true))
   | none=>none
  | none=>none
 | _=>none
def srcA(V:Env)(s:St)(e:Nat)(x:AV):Option (AV×Nat×Nat):=match x with
 | .str xs=>match (V.T.at e).d with
  | .int .u8=>some (AV.rI .u8 xs,xs.length,1)
  | _=>none
 | x=>view V s e x
def tyD(T:Tys)(tys:List Nat)(j:Nat):TyD:=match tys[j]? with
 | some t=>(T.at t).d
 | none=>.other
def appOwn(V:Env)(s:St)(i e:Nat):AV→AV→Option (Bool×AV×St)
 | .own id _ 1,.own id2 _ 1=>match lkH id s.heap,lkH id2 s.heap,zvar V.T 16 e,Nat.beq (V.T.at e).sz 1 with
  | .cells _ (.segs a) true,.cells _ (.segs b) _,some _,true=>match Nat.blt 0 a.sizeS&&Nat.blt 0 b.sizeS with
   | true=>newBlk (s.setH id .gone) i (a.cat b).sizeS (.segs (a.cat b)) (decide (a.sizeS+b.sizeS < 1073741824)) fun id=>.own id 0 1
   | false=>none
  | _,_,_,_=>none
 | _,_=>none
def abuiltin(V:Env)(i:Nat)(b:Builtin)(tys:List Nat)(args:List AV)(s:St):Option (Bool×AV×St):=
 match b,args with
 | .len,[v]=>match tyD V.T tys 0,v with
  | .str,.str xs=>some (true,toI xs.length,s)
  | .slice _,.ns=>some (true,toI 0,s)
  | .slice _,.vs r len sz=>some (true,toI (slen r len sz),s)
  | .slice _,.own id len sz=>(olen s id len sz).map fun len=>(true,toI len,s)
  | .slice _,.sl _ _ _ _ len _=>some (true,toI len,s)
  | .slice _,.lv n=>some (true,toI n,s)
  | .map _ _,.mp id=>match lkH id s.heap with
   | .cells _ (.rM _ _ _ es) _=>some (decide (es.length < 4611686018427387904),toI es.length,s)
   | _=>none
  | .arr n _,_=>match Nat.blt n 4611686018427387904 with
   | true=>some (true,toI n,s)
   | false=>none
  | .ptr e,_=>match (V.T.at e).d with
   | .arr n _=>match Nat.blt n 4611686018427387904 with
    | true=>some (true,toI n,s)
    | false=>none
   | _=>none
  | _,_=>none
 | .append,[v,x]=>match (match tyD V.T tys 1 with
   | .slice _=>tyD V.T tys 0
   | .str=>tyD V.T tys 0
   | _=>.other) with
  | .slice e=>
   let sz:=(V.T.at e).sz
   match srcA V s e x with
   | some (ry,ny,szy)=>match Nat.beq sz szy&&Nat.blt 0 sz with
    | true=>match zrow V.T 8 e 0,v with
     | some r0,.ns=>match r0.app ry with
      | some r=>newBlk s i (bsz r ny sz) r (decide (ny < 1073741824)) fun id=>.own id (klen ny sz) sz
      | none=>none
     | some _,.own id len sz'=>match lkH id s.heap,Nat.beq sz sz' with
      | .cells _ rx true,true=>match rx.appT e ry with
       | some r=>let len:=slen rx len sz
        newBlkT e (s.setH id .gone) i (bsz r (len+ny) sz) r (decide (len+ny < 1073741824)) fun id=>.own id (klen (len+ny) sz) sz
       | none=>none
      | _,_=>none
     | some _,.vs rx 1 1=>match Nat.beq sz 1,rx.app ry with
      | true,some r=>some (decide (rx.size+ny < 1073741824),.vs r 0 1,s)
      | _,_=>none
     | some _,.sl id b lim o len 1=>match Nat.beq sz 1,acopy s id b lim (o+len) ny ry ny with
      | true,some (_,_,s')=>some (decide (o+len+ny≤lim)&&decide (len+ny < 1073741824),.sl id b lim o (len+ny) 1,s')
      | _,_=>none
     | _,_=>none
    | false=>none
   | none=>appOwn V s i e v x
  | _=>match tyD V.T tys 1,tyD V.T tys 0,v,x with
   | .int _,.slice e,.ns,.int _ n=>match zrow V.T 8 e n.toNat with
    | some r=>newBlk s i (bsz r n.toNat (V.T.at e).sz) r (decide (0 < n)&&decide (n < 1073741824)) fun id=>.own id (klen n.toNat (V.T.at e).sz) (V.T.at e).sz
    | none=>none
   | _,_,_,_=>none
 | .copy,[v,x]=>match tyD V.T tys 0 with
  | .slice e=>match (match Nat.beq (V.T.at e).sz 1 with
    | true=>srcA V s e x
    | false=>none) with
   | some (ry,ny,1)=>match v with
    | .own id len 1=>match olen s id len 1 with
     | some len=>acopy s id 0 len 0 len ry ny
     | none=>none
    | .sl id b lim o len 1=>acopy s id b lim o len ry ny
    | _=>none
   | _=>none
  | _=>none
 | .clear,[v]=>match tyD V.T tys 0,v with
  | .slice e,.sl id b lim o len 1=>match Nat.beq (V.T.at e).sz 1,zrow V.T 8 e len with
   | true,some z=>match acopy s id b lim o len z len with
    | some (_,_,s')=>some (true,.tup .nil,s')
    | none=>none
   | _,_=>none
  | _,_=>none
 | .delete,[m,x]=>match m with
  | .mp id=>match lkH id s.heap with
   | .cells _ (.rM k n v es) true=>match tys[0]? with
    | some t=>match isMapTy V.T t k n v,mkey k n x with
     | true,some key=>some (true,.tup .nil,s.setH id (.cells 0 (.rM k n v (mdel es key)) true))
     | _,_=>none
    | none=>none
   | _=>none
  | _=>none
 | .cap,[.ns]=>match tyD V.T tys 0 with
  | .slice _=>some (true,toI 0,s)
  | _=>none
 | .min,[.int k x,.int k' y]=>match decide (k=k') with
  | true=>some (true,.int k (if y < x then y else x),s)
  | false=>none
 | .max,[.int k x,.int k' y]=>match decide (k=k') with
  | true=>some (true,.int k (if y > x then y else x),s)
  | false=>none
 | _,_=>none
def ixx(i m c j sz:Nat):Option (Nat×Nat×Nat):=match m with
 | 0=>some (j,sz,c)
 | m=>match sz with
  | 1=>some (j+i*m,1,c)
  | _=>none
def slTy(T:Tys)(t sz:Nat):Bool:=match (T.at t).d with
 | .slice e=>Nat.beq (T.at e).sz sz&&Nat.blt 0 sz
 | _=>false
def TyD.isStr:TyD→Bool
 | .str=>true
 | _=>false
def alen(V:Env)(t:Nat)(x:AV)(s:St):Option Nat:=match x with
 | .str xs=>match (V.T.at t).d.isStr with
  | true=>some xs.length
  | false=>none
 | .vs r len sz=>match slTy V.T t sz with
  | true=>some (slen r len sz)
  | false=>none
 | .own id len sz=>match slTy V.T t sz with
  | true=>olen s id len sz
  | false=>none
 | .sl _ _ _ _ len sz=>match slTy V.T t sz with
  | true=>some len
  | false=>none
 | .ptr _ _ _ _ _ _ rm=>match (V.T.at t).d with
  | .arr n e=>match Nat.ble (mz n (V.T.at e).sz) rm&&(Nat.blt 0 (V.T.at e).sz&&Nat.blt n 4611686018427387904) with
   | true=>some n
   | false=>none
  | _=>none
 | .ns=>match (V.T.at t).d with
  | .slice e=>match Nat.blt 0 (V.T.at e).sz with
   | true=>some 0
   | false=>none
  | _=>none
 | _=>none
def lowOf(lo:Option AV):Option Int:=match lo with
 | none=>some 0
 | some v=>(intOf v).map (·.2)
def highOf(hi:Option AV)(len:Nat):Option Int:=match hi with
 | none=>some (len:Int)
 | some v=>(intOf v).map (·.2)
def aslice2(V:Env)(t:Nat)(x:AV)(l h:Int):Option AV:=match x with
 | .str xs=>some (.str ((xs.take h.toNat).drop l.toNat))
 | .vs r _ sz=>(r.partE l.toNat (h.toNat-l.toNat) sz).map fun r=>mkvs r (h.toNat-l.toNat) sz
 | .own id len sz=>some (.sl id 0 (mz len sz) (l.toNat+0) (h.toNat-l.toNat) sz)
 | .sl id b lim o _ sz=>some (.sl id b lim (l.toNat+o) (h.toNat-l.toNat) sz)
 | .ptr id b _ i m c _=>match (V.T.at t).d with
  | .arr n e=>match ixx i m c 0 (V.T.at e).sz with
   | some (o,sz,0)=>some (.sl id b (mz (n+o) sz) (l.toNat+o) (h.toNat-l.toNat) sz)
   | _=>none
  | _=>none
 | .ns=>some .ns
 | _=>none
def sliceAll(lo hi:Option AV)(x:AV):Bool:=match lo,hi,x with
 | none,none,.str _=>true
 | none,none,.vs _ _ _=>true
 | none,none,.own _ _ _=>true
 | none,none,.sl _ _ _ _ _ _=>true
 | _,_,_=>false
def hiOk(hi:Option AV)(x:AV)(h:Int)(len:Nat):Bool:=match x with
 | .sl _ _ lim o _ 1=>match hi with
  | some _=>decide (h≤len) || (decide (h≤((lim-o:Nat):Int))&&decide (h < 1073741824))
  | none=>decide (h≤len)
 | _=>decide (h≤len)
def aslice(V:Env)(t:Nat)(x:AV)(lo hi:Option AV)(s:St):Option (Bool×AV×St):=
 match alen V t x s with
 | none=>none
 | some len=>match sliceAll lo hi x with
  | true=>some (true,x,s)
  | false=>match lowOf lo,highOf hi len with
   | some l,some h=>match (match x with
     | .own id _ sz=>aslice2 V t (.own id len sz) l h
     | x=>aslice2 V t x l h) with
    | some v=>some (decide (0≤l)&&decide (l≤h)&&hiOk hi x h len,v,s)
    | none=>none
   | _,_=>none
def asliceX(V:Env)(t:Nat)(x:AV)(lo:Option AV)(hi mx:AV)(s:St):Option (Bool×AV×St):=
 match lo,slTy V.T t 1 with
 | none,true=>match view V s 0 x,intOf hi,intOf mx with
  | some (r,len,1),some (_,h),some (_,m)=>some (Nat.blt 0 len&&(decide (h=(len:Int))&&decide (m=(len:Int))),.vs r 1 1,freeze s x)
  | _,_,_=>none
 | _,_=>none
def aslice3(V:Env)(t:Nat)(x l h m:AV)(s:St):Option (Bool×AV×St):=match x with
 | .own _ _ _=>match alen V t x s,intOf l,intOf h,intOf m with
  | some len,some (_,l),some (_,h),some (_,m)=>some ((decide (0≤l)&&decide (l≤h))&&(decide (h≤m)&&decide (m≤(len:Int))),.undef,s)
  | _,_,_,_=>none
 | _=>none
def TyD.isAgg:TyD→Bool
 | .arr _ _=>true
 | .struct _=>true
 | _=>false
def aload(V:Env)(t:Nat)(p:AV)(s:St):Option AV:=
 match p with
 | .ptr id b l i m c rm=>match lkH id s.heap with
  | .cells n r _=>match (V.T.at t).d.isAgg with
   | true=>match Nat.ble (V.T.at t).sz rm&&Nat.blt 0 (V.T.at t).sz with
    | true=>(r.rgetN n b l i m c (V.T.at t).sz).map (.agg (V.T.at t).sz)
    | false=>none
   | false=>match Nat.beq (V.T.at t).sz 1 with
    | true=>some (r.rget b l i m c)
    | false=>none
  | .gone=>none
 | .gp r n i m c rm=>match (V.T.at t).d.isAgg with
  | true=>match Nat.ble (V.T.at t).sz rm&&Nat.blt 0 (V.T.at t).sz with
   | true=>(r.rgetN n 0 n i m c (V.T.at t).sz).map (.agg (V.T.at t).sz)
   | false=>none
  | false=>match Nat.beq (V.T.at t).sz 1 with
   | true=>some (r.rget 0 n i m c)
   | false=>none
 | _=>none
def astore(V:Env)(t:Nat)(p v:AV)(s:St):Option St:=
 match p with
 | .ptr id b l i m c rm=>match lkH id s.heap with
  | .cells n r true=>match (V.T.at t).d.isAgg with
   | true=>match v,Nat.ble (V.T.at t).sz rm&&Nat.blt 0 (V.T.at t).sz with
    | .agg n' r',true=>match Nat.beq n' (V.T.at t).sz with
     | true=>(r.rsetN n b l i m c (V.T.at t).sz r').map fun r'=>s.setH id (.cells n r' true)
     | false=>none
    | _,_=>none
   | false=>match v.scal&&Nat.beq (V.T.at t).sz 1 with
    | true=>match r.rset b l i m c v with
     | some r'=>some (s.setH id (.cells n r' true))
     | none=>match (V.T.at t).d with
      | .slice e=>match coerce V s (some e) v with
       | some v'=>match freeze s v with
        | s'=>match lkH id s'.heap with
         | .cells n r true=>(r.rset b l i m c v').map fun r'=>s'.setH id (.cells n r' true)
         | _=>none
       | none=>none
      | _=>none
    | false=>none
  | _=>none
 | _=>none
def addEmpty(r0:AV)(sz:Nat):Nat→Nat→St→Option (AVs×St)
 | 0,_,s=>some (.nil,s)
 | k+1,id,s=>match hasKey id s.heap with
  | true=>none
  | false=>match addEmpty r0 sz k (id+1) (s.setH id (.cells 0 r0 true)) with
   | some (vs,s')=>some (.cons 1 (.one (.own id 0 sz)) vs,s')
   | none=>none
def mkSlices(V:Env)(i e' n:Nat)(one pre:Bool)(s:St):Option (Bool×AV×St):=match one&&Nat.ble n 15 with
 | true=>match zrow V.T 8 e' 0 with
  | some r0=>match addEmpty r0 (V.T.at e').sz n (s.next+16*i+1) s with
   | some (vs,s1)=>newBlk s1 i n (.segs vs) pre fun id=>.own id 0 1
   | none=>none
  | none=>none
 | false=>none
def nilSl(V:Env)(t:Nat)(v:AV):Option (AV×Nat):=match v,(V.T.at t).d with
 | .one .ns,.slice e=>match zrow V.T 8 e 0 with
  | some r=>some (r,(V.T.at e).sz)
  | none=>none
 | _,_=>none
def ownF(V:Env):List (Nat×Nat)→AVs→Nat→St→Option (AVs×St)
 | [],l,_,s=>some (l,s)
 | _ :: _,.nil,_,s=>some (.nil,s)
 | f :: fs,.cons n v l,id,s=>match nilSl V f.1 v with
  | some (r0,sz)=>match hasKey id s.heap with
   | true=>none
   | false=>match ownF V fs l (id+1) (s.setH id (.cells 0 r0 true)) with
    | some (l',s')=>some (.cons n (.one (.own id 0 sz)) l',s')
    | none=>none
  | none=>match ownF V fs l id s with
   | some (l',s')=>some (.cons n v l',s')
   | none=>none
def ownB(V:Env)(d:TyD)(r:AV)(id:Nat)(s:St):Option (AV×St):=match d,r with
 | .struct fs,.segs l=>match Nat.ble fs.length 15 with
  | true=>match ownF V fs l id s with
   | some (l',s')=>some (.segs l',s')
   | none=>none
  | false=>some (r,s)
 | _,r=>some (r,s)
def reps(z:AV):Nat→AVs
 | 0=>.nil
 | k+1=>.cons 1 (.one z) (reps z k)
def ptrAt(s:St)(id len j sz:Nat):AV:=match lkH id s.heap with
 | .cells _ (.segs _) _=>.ptr id (mz j sz) sz 0 0 0 sz
 | _=>.ptr id 0 (mz len sz) j sz 0 sz
def isNil(V:Env)(t:Nat)(a b:AV)(s:St):Option Bool:=match b with
 | .nilp=>match a,(V.T.at t).d with
  | .ptr _ _ _ _ _ _ _,.ptr _=>some false
  | .nilp,.ptr _=>some true
  | _,_=>none
 | .ns=>match a,(V.T.at t).d with
  | .own id _ 1,.slice _=>match lkH id s.heap with
   | .cells n _ _=>match Nat.blt 0 n with
    | true=>some false
    | false=>none
   | .gone=>none
  | _,_=>none
 | _=>none
def nilcmp(V:Env)(t:Nat)(op:BinOp)(a b:AV)(s:St):Option Bool:=match isNil V t a b s with
 | some r=>match op with
  | .eql=>some r
  | .neq=>some (!r)
  | _=>none
 | none=>none
def aop(V:Env)(i:Nat)(o:Oper)(s:St):Option (Bool×AV×St):=
 match o.op with
 | .makeMap t none=>match mapTy V.T t,hasKey (s.next+16*i) s.heap with
  | some (k,n,v),false=>some (true,.mp (s.next+16*i),s.setH (s.next+16*i) (.cells 0 (.rM k n (V.mkv o.dst v) []) true))
  | _,_=>none
 | .lookup t m x ok=>match ev V s m with
  | .mp id=>match lkH id s.heap with
   | .cells _ (.rM k n v es) b=>match isMapTy V.T t k n v,mkey k n (ev V s x) with
    | true,some key=>match ok with
     | true=>some (true,.tup (.cons 0 (mval v (mget (mzero v) es key)) (.cons 0 (.bool (mhas es key)) .nil)),s)
     | false=>some (true,mval v (mget (mzero v) es key),s)
    | _,_=>alook V t i o.dst ok id k n v es b (ev V s x) s
   | _=>none
  | _=>none
 | .mapUpdate t m x y=>match ev V s m with
  | .mp id=>match lkH id s.heap with
   | .cells _ (.rM k n v es) true=>match isMapTy V.T t k n v,mkey k n (ev V s x),minto v (ev V s y) with
    | true,some key,some val=>some (true,.undef,s.setH id (.cells 0 (.rM k n v (mput es key val)) true))
    | _,_,_=>aputO V t id k n v es (ev V s x) (ev V s y) s
   | _=>none
  | _=>none
 | .move x | .assign x=>some (true,ev V s x,s)
 | .alloc t=>match zvar V.T 16 t with
  | some r=>newBlkT t s i (V.T.at t).sz (tagged V.T t r) true fun id=>.ptr id 0 (V.T.at t).sz 0 0 0 (V.T.at t).sz
  | none=>none
 | .box t x=>match (Nat.beq (ev V s x).csize (V.T.at t).sz&&(ev V s x).lies)&&Nat.blt 0 (V.T.at t).sz with
  | true=>match ownB V (V.T.at t).d (ev V s x).torow (s.next+16*i+1) s with
   | some (r,s1)=>newBlk s1 i (V.T.at t).sz r true fun id=>.ptr id 0 (V.T.at t).sz 0 0 0 (V.T.at t).sz
   | none=>none
  | false=>none
 | .build t parts=>match (V.T.at t).d with
  | .struct fs=>match (match fs.all (fun f=>Nat.blt 0 (V.T.at f.1).sz) with
    | true=>zvar V.T 16 t
    | false=>none) with
   | some z=>(fillS V.T fs (V.T.at t).sz z (parts.toList.map fun (p:Nat×Operand)=>(p.1,ev V s p.2))).map fun r=>(true,.agg (V.T.at t).sz r,s)
   | none=>none
  | .arr n e=>match zvar V.T 16 t with
   | some z=>match Nat.beq (V.T.at t).sz (n*(V.T.at e).sz) with
    | true=>(fillR (n*(V.T.at e).sz) (V.T.at e).sz z (parts.toList.map fun (p:Nat×Operand)=>(p.1,ev V s p.2))).map fun r=>(true,.agg (V.T.at t).sz r,s)
    | false=>none
   | none=>none
  | _=>none
 | .buildSlice t n parts=>match (V.T.at t).d with
  | .slice e=>match (match Nat.ble (n*(V.T.at e).sz) 1048576 with
    | true=>zrow V.T 8 e n
    | false=>none) with
   | some z=>match (match (V.T.at e).d with
     | .slice e'=>fillR (n*(V.T.at e).sz) (V.T.at e).sz z (parts.toList.map fun (p:Nat×Operand)=>(p.1,(coerce V s (some e') (ev V s p.2)).getD .undef))
     | _=>fillR (n*(V.T.at e).sz) (V.T.at e).sz z (parts.toList.map fun (p:Nat×Operand)=>(p.1,ev V s p.2))) with
    | some r=>
     let s:=match (V.T.at e).d with
      | .slice _=>parts.toList.foldl (fun s' (p:Nat×Operand)=>freeze s' (ev V s p.2)) s
      | _=>s
     newBlk s i (bsz r n (V.T.at e).sz) r true fun id=>.own id (klen n (V.T.at e).sz) (V.T.at e).sz
    | none=>none
   | none=>match (match Nat.ble n 1048576&&Nat.beq (V.T.at e).sz 1 with
     | true=>zvar V.T 16 e
     | false=>none) with
    | some (.one z)=>match fillR n 1 (.segs (reps z n)) (parts.toList.map fun (p:Nat×Operand)=>(p.1,ev V s p.2)) with
     | some r=>match ownB V (.struct (List.replicate n (e,0))) r (s.next+16*i+1) s with
      | some (r',s1)=>newBlk s1 i n r' true fun id=>.own id 0 1
      | none=>none
     | none=>none
    | _=>none
  | _=>none
 | .load t a=>(aload V t (ev V s a) s).map fun v=>(true,v,s)
 | .store t a x=>(astore V t (ev V s a) (ev V s x) s).map fun s'=>(true,.undef,s')
 | .nilCheck x=>match ev V s x with
  | .ptr id b l i m c rm=>some (true,.ptr id b l i m c rm,s)
  | .gp r n i m c rm=>some (true,.gp r n i m c rm,s)
  | .fn f c=>some (true,.fn f c,s)
  | _=>none
 | .binOp op t x y _=>match nilcmp V t op (ev V s x) (ev V s y) s with
  | some b=>some (true,.bool b,s)
  | none=>(abin V.T t op (ev V s x) (ev V s y)).map fun p=>(p.1,p.2,s)
 | .unOp op _ x=>(aun op (ev V s x)).map fun v=>(true,v,s)
 | .convert src dst x=>match (V.T.at src).d,(V.T.at dst).d,ev V s x with
  | .int _,.int k,.int _ n=>some (true,.int k (k.wrap n),s)
  | .str,.str,.str xs=>some (true,.str xs,s)
  | .str,.slice e,.str xs=>match (V.T.at e).d with
   | .int .u8=>newBlk s i xs.length (.rI .u8 xs) true fun id=>.own id 0 1
   | _=>none
  | .slice e,.slice _,.own id len 1=>match Nat.beq src dst,(V.T.at e).d,lkH id s.heap with
   | true,.int .u8,.cells n _ true=>match Nat.blt 0 n with
    | true=>some (true,.own id len 1,s)
    | false=>none
   | _,_,_=>none
  | .slice e,.str,v=>match (V.T.at e).d,view V s e v with
   | .int .u8,some (.rI .u8 xs,_,1)=>some (true,.str xs,s)
   | _,_=>none
  | _,_,_=>none
 | .sliceToArrayPointer t x=>match (V.T.at t).d with
  | .arr n e=>match (match ev V s x with
    | .vs _ _ sz=>Nat.beq (V.T.at e).sz sz&&Nat.blt 0 (mz n sz)
    | .own _ _ sz=>Nat.beq (V.T.at e).sz sz&&Nat.blt 0 (mz n sz)
    | .sl _ _ _ _ _ sz=>Nat.beq (V.T.at e).sz sz&&Nat.blt 0 (mz n sz)
    | _=>false),ev V s x with
   | true,.vs r len sz=>(r.part 0 (mz n sz)).map fun r'=>(decide (n≤slen r len sz),.gp r' (mz n sz) 0 0 0 (mz n sz),s)
   | true,.own id len sz=>(olen s id len sz).map fun len=>(decide (n≤len),.ptr id 0 (mz len sz) 0 sz 0 (mz n sz),s)
   | true,.sl id b lim o len sz=>some (decide (n≤len),.ptr id b lim o sz 0 (mz n sz),s)
   | _,_=>none
  | _=>none
 | .makeSlice t l c=>match (V.T.at t).d,intOf (ev V s l),intOf (ev V s c) with
  | .slice e,some (_,n),some (_,m)=>match (V.T.at e).d with
   | .slice e'=>mkSlices V i e' n.toNat (Nat.beq (V.T.at e).sz 1) ((decide (0≤n)&&decide (n≤m))&&decide (m < 1073741824)) s
   | _=>match zrow V.T 8 e n.toNat with
    | some r=>newBlk s i (bsz r n.toNat (V.T.at e).sz) r ((decide (0≤n)&&decide (n≤m))&&decide (m < 1073741824)) fun id=>.own id (klen n.toNat (V.T.at e).sz) (V.T.at e).sz
    | none=>none
  | _,_,_=>none
 | .slice t x lo hi none=>aslice V t (ev V s x) (lo.map (ev V s)) (hi.map (ev V s)) s
 | .slice t x none (some hi) (some mx)=>asliceX V t (ev V s x) none (ev V s hi) (ev V s mx) s
 | .slice t x (some lo) (some hi) (some mx)=>aslice3 V t (ev V s x) (ev V s lo) (ev V s hi) (ev V s mx) s
 | .fieldAddr t x f=>match (V.T.at t).d with
  | .struct fs=>match fs[f]? with
   | some (ft,off)=>(addc (ev V s x) off (V.T.at ft).sz).map fun v=>(true,v,s)
   | none=>none
  | _=>none
 | .field t x f=>match (V.T.at t).d,ev V s x with
  | .struct fs,.agg n r=>match fs[f]? with
   | some (ft,off)=>match Nat.ble (off+(V.T.at ft).sz) n with
    | true=>(getv (V.T.at ft).d.isAgg r n off (V.T.at ft).sz).map fun v=>(true,v,s)
    | false=>none
   | none=>none
  | _,_=>none
 | .indexAddr t x j=>match intOf (ev V s j) with
  | some (_,j)=>match ev V s x with
   | .vs r len sz=>match slTy V.T t sz with
    | true=>some (decide (0≤j)&&decide (j < slen r len sz),.gp r (mz (slen r len sz) sz) j.toNat sz 0 sz,s)
    | false=>none
   | .own id len sz=>match slTy V.T t sz with
    | true=>(olen s id len sz).map fun (len:Nat)=>(decide (0≤j)&&decide (j < (len:Int)),ptrAt s id len j.toNat sz,s)
    | false=>none
   | .sl id b lim o len sz=>match slTy V.T t sz with
    | true=>some (decide (0≤j)&&decide (j < len),.ptr id b lim (j.toNat+o) sz 0 sz,s)
    | false=>none
   | .ptr id b l i m c rm=>match (V.T.at t).d with
    | .arr n e=>match Nat.ble (mz n (V.T.at e).sz) rm&&Nat.blt 0 (V.T.at e).sz with
     | true=>(ixx i m c j.toNat (V.T.at e).sz).map fun p=>(decide (0≤j)&&decide (j < n),.ptr id b l p.1 p.2.1 p.2.2 (V.T.at e).sz,s)
     | false=>none
    | _=>none
   | .gp r k i m c rm=>match (V.T.at t).d with
    | .arr n e=>match Nat.ble (mz n (V.T.at e).sz) rm&&Nat.blt 0 (V.T.at e).sz with
     | true=>(ixx i m c j.toNat (V.T.at e).sz).map fun p=>(decide (0≤j)&&decide (j < n),.gp r k p.1 p.2.1 p.2.2 (V.T.at e).sz,s)
     | false=>none
    | _=>none
   | _=>none
  | none=>none
 | .index t x j=>match intOf (ev V s j),ev V s x with
  | some (_,j),.str xs=>match (V.T.at t).d.isStr with
   | true=>some (decide (0≤j)&&decide (j < xs.length),.int .u8 (xs.getD j.toNat 0),s)
   | false=>none
  | some (_,j),.agg n r=>match (V.T.at t).d with
   | .arr len e=>match Nat.beq n (mz len (V.T.at e).sz)&&Nat.blt 0 (V.T.at e).sz with
    | true=>match (V.T.at e).d.isAgg with
     | true=>(r.rgetN n 0 n j.toNat (V.T.at e).sz 0 (V.T.at e).sz).map fun r'=>(decide (0≤j)&&decide (j < len),.agg (V.T.at e).sz r',s)
     | false=>match Nat.beq (V.T.at e).sz 1 with
      | true=>some (decide (0≤j)&&decide (j < len),r.rget 0 n j.toNat 1 0,s)
      | false=>none
    | false=>none
   | _=>none
  | _,_=>none
 | .extract x j=>match ev V s x with
  | .tup vs=>match Nat.blt j vs.len with
   | true=>some (true,vs.nth j,s)
   | false=>none
  | _=>none
 | .makeFunc (.func f) first captured=>match first.toList,Nat.blt f 1073741824 with
  | [],true=>some (true,.fn f (AVs.ofList (captured.toList.map (ev V s))),s)
  | _,_=>none
 | .call c=>match c.callee with
  | .builtin b=>abuiltin V i b c.argTypes.toList (c.args.toList.map (ev V s)) s
  | .value f=>match ev V s f with
   | .fn f cap=>match Nat.blt f 1073741824 with
    | true=>acall V i f (c.args.toList.map (ev V s)++cap.toList) s
    | false=>none
   | _=>none
  | _=>none
 | _=>none
def dids:AV→List Nat
 | .mp id=>[id]
 | .ptr id _ _ _ _ _ _=>[id]
 | .own id _ _=>[id]
 | .sl id _ _ _ _ _=>[id]
 | _=>[]
def callV(run:List AV→List Blk→Option (Bool×AV×List Blk))(args':List AV)(ids:List Nat)(H:List (Nat×Blk)):Bool:=match run (args'.map (AV.ren fun n=>numb n ids)) (ids.map fun n=>(lkH n H).ren fun n=>numb n ids) with
 | some (_,r,H')=>r.hasV || H'.any Blk.hasV
 | none=>true
def callW(run:List AV→List Blk→Option (Bool×AV×List Blk))(args':List AV)(ids:List Nat)(co:List AV)(fresh:Nat)(s:St):List Nat:=match run (args'.map (AV.ren fun n=>numb n ids)) (ids.map fun n=>(lkH n s.heap).ren fun n=>numb n ids) with
 | some (_,r,H')=>pushedK ids fresh (backOf ids fresh) 0 H' (match r.hasV || H'.any Blk.hasV with
  | true=>freezeAll s co
  | false=>s).heap
 | none=>[]
def foot(V:Env)(i:Nat)(o:Oper)(s:St):List Nat×List Nat:=match o.op with
 | .makeMap _ _=>([],[s.next+16*i])
 | .lookup _ m _ _=>match V.mvAt o.dst with
  | 0=>(dids (ev V s m),[])
  | _=>([],(s.next+16*i) :: dids (ev V s m))
 | .mapUpdate _ m _ y=>([],dids (ev V s y)++dids (ev V s m))
 | .alloc _=>([],[s.next+16*i])
 | .box _ _=>([],(List.range 16).map fun j=>s.next+16*i+j)
 | .makeSlice _ _ _=>([],(List.range 16).map fun j=>s.next+16*i+j)
 | .buildSlice _ _ parts=>([],((List.range 16).map fun j=>s.next+16*i+j)++parts.toList.flatMap fun p=>dids (ev V s p.2))
 | .load _ a=>(dids (ev V s a),[])
 | .binOp _ _ x y _=>(dids (ev V s x)++dids (ev V s y),[])
 | .store _ a x=>([],dids (ev V s a)++dids (ev V s x))
 | .convert _ _ x=>(dids (ev V s x),[s.next+16*i])
 | .sliceToArrayPointer _ x=>(dids (ev V s x),[])
 | .slice _ x _ _ none=>(dids (ev V s x),[])
 | .slice _ x _ _ (some _)=>([],dids (ev V s x))
 | .indexAddr _ x _=>(dids (ev V s x),[])
 | .call c=>match c.callee with
  | .builtin .append=>(c.args.toList.flatMap fun x=>dids (ev V s x),(s.next+16*i) :: dids (ev V s (c.args.getD 0 (.const .nilIface))))
  | .builtin .copy=>(c.args.toList.flatMap fun x=>dids (ev V s x),dids (ev V s (c.args.getD 0 (.const .nilIface))))
  | .builtin .clear=>(c.args.toList.flatMap fun x=>dids (ev V s x),dids (ev V s (c.args.getD 0 (.const .nilIface))))
  | .builtin .delete=>(c.args.toList.flatMap fun x=>dids (ev V s x),dids (ev V s (c.args.getD 0 (.const .nilIface))))
  | .builtin _=>(c.args.toList.flatMap fun x=>dids (ev V s x),[])
  | .value f=>match ev V s f with
   | .fn f cap=>match V.E f with
    | some (modes,run)=>match coerceAll V s modes (c.args.toList.map (ev V s)++cap.toList) with
     | some args'=>
      let roots:=addNew [] (args'.flatMap AV.ids)
      let ids:=reach s.heap 64 roots roots
      let co:=(coerced modes (c.args.toList.map (ev V s)++cap.toList)).flatMap AV.ids
      match callV run args' ids s.heap with
      | true=>((c.args.toList.map (ev V s)++cap.toList).flatMap dids++ids,(callW run args' ids (coerced modes (c.args.toList.map (ev V s)++cap.toList)) (s.next+16*i) s++co)++(List.range 16).map fun j=>s.next+16*i+j)
      | false=>((c.args.toList.map (ev V s)++cap.toList).flatMap dids++(co++ids),callW run args' ids (coerced modes (c.args.toList.map (ev V s)++cap.toList)) (s.next+16*i) s++(List.range 16).map fun j=>s.next+16*i+j)
     | none=>([],[])
    | none=>([],[])
   | _=>([],[])
  | _=>([],[])
 | _=>([],[])
section
variable {α : Type}
def caseS(J:Nat)(K:Nat→Option α):AVs→Nat→Option α
 | .nil,_=>none
 | .cons _ _ t,q=>cond (Nat.beq J q) (K q) (caseS J K t (q+1))
def spl(V:Env)(s:St)(o:Oper)(v:AV)(K:AV→Option α):Option α:=match o.op with
 | .indexAddr _ x j=>match intOf (ev V s j),ev V s x with
  | some (_,j),.own id _ sz=>match lkH id s.heap with
   | .cells _ (.segs l) _=>caseS j.toNat (fun q=>K (.ptr id (mz q sz) sz 0 0 0 sz)) l 0
   | _=>K v
  | _,_=>K v
 | _=>K v
def aops(V:Env)(ops:Array Oper)(K:St→Option α):Nat→List Oper→St→Option α
 | _,[],s=>K { s with next:=s.next+16*ops.size }
 | i,o :: l,s=>
  let go:=fun (s:St)=>match o.op with
   | .pick c x y=>match ev V s c with
    | .bool b=>cond b (aops V ops K (i+1) l (s.put o.dst (ev V s x))) (aops V ops K (i+1) l (s.put o.dst (ev V s y)))
    | _=>none
   | _=>match aop V i o s with
    | some (pre,v,s')=>cond pre (spl V s o v fun v=>aops V ops K (i+1) l (s'.put o.dst v)) none
    | none=>none
  let skip:=fun (s:St)=>aops V ops K (i+1) l (s.put o.dst (.tup .nil))
  match o.guard with
  | none=>go s
  | some (j,want)=>match (ops[j]?).bind (·.dst) with
   | none=>none
   | some d=>match lk d s.tmps,want with
    | .bool b,true=>cond b (go (s.put (some d) (.bool true))) (skip (s.put (some d) (.bool false)))
    | .bool b,false=>cond b (skip (s.put (some d) (.bool true))) (go (s.put (some d) (.bool false)))
    | .tup .nil,_=>skip s
    | _,_=>none
def maskE(ms:List Nat)(m:Nat)(e:Edge):Nat:=match Region.binds .any e with
 | true=>m ||| (2^e.on ||| ms.getD e.on 0)
 | false=>m
def maskOf(ms:List Nat)(o:Oper):Nat:=o.after.toList.foldl (maskE ms) 0
def maskStep(ms:List Nat)(o:Oper):List Nat:=ms++[maskOf ms o]
def masks(ops:List Oper):List Nat:=ops.foldl maskStep []
def disj(a b:List Nat):Bool:=a.all fun n=>!(mem n b)
def drawOk(ops:Array Oper)(fs:List (List Nat×List Nat)):Bool:=
 (List.range ops.size).all fun i=>match ops[i]?,fs[i]? with
  | some o,some f=>o.after.toList.all (fun e=>Nat.blt e.on i || !(Region.binds .any e))&&(List.range i).all fun k=>((masks ops.toList).getD i 0).testBit k || match ops[k]?,fs[k]? with
   | some o',some f'=>o'.apart ops o&&(disj f'.2 (f.1++f.2)&&disj f.2 (f'.1++f'.2))
   | _,_=>false
  | _,_=>false
def aopsD(V:Env)(ops:Array Oper)(K:St→Option α):Nat→List Oper→St→List (List Nat×List Nat)→Option α
 | _,[],s,fs=>match drawOk ops fs.reverse with
  | true=>K { s with next:=s.next+16*ops.size }
  | false=>none
 | i,o :: l,s,fs=>
  let go:=fun (s:St)=>match o.op with
   | .pick c x y=>match ev V s c with
    | .bool b=>cond b (aopsD V ops K (i+1) l (s.put o.dst (ev V s x)) (([],[]) :: fs)) (aopsD V ops K (i+1) l (s.put o.dst (ev V s y)) (([],[]) :: fs))
    | _=>none
   | _=>match aop V i o s with
    | some (pre,v,s')=>cond pre (spl V s o v fun v=>aopsD V ops K (i+1) l (s'.put o.dst v) (foot V i o s :: fs)) none
    | none=>none
  let skip:=fun (s:St)=>aopsD V ops K (i+1) l (s.put o.dst (.tup .nil)) (([],[]) :: fs)
  match o.guard with
  | none=>go s
  | some (j,want)=>match (ops[j]?).bind (·.dst) with
   | none=>none
   | some d=>match lk d s.tmps,want with
    | .bool b,true=>cond b (go (s.put (some d) (.bool true))) (skip (s.put (some d) (.bool false)))
    | .bool b,false=>cond b (skip (s.put (some d) (.bool true))) (go (s.put (some d) (.bool false)))
    | .tup .nil,_=>skip s
    | _,_=>none
inductive Ex where
 | normal
 | exit (id:Nat)
 | ret
def fid:Code→Option Nat
 | .region id _ _=>some id
 | .seq a b=>match fid a with
  | some i=>some i
  | none=>fid b
 | .cond _ a _=>fid a
 | .block _ c=>fid c
 | .loop c=>fid c
 | .scope c=>fid c
 | _=>none
def csz:Code→Nat
 | .seq a b=>csz a+csz b+1
 | .cond _ a b=>csz a+csz b+1
 | .block _ c=>csz c+1
 | .loop c=>csz c+1
 | .scope c=>csz c+1
 | _=>1
def ckey(c:Code):Option Nat:=match fid c with
 | some i=>some (i*1000+csz c)
 | none=>none
structure Cuts where
 F:Nat
 at_ : Nat → Option (List (Nat × Md))      -- loops, by the first region of their body
 join : Nat → Option (List (Nat × Md))     -- what follows in a sequence, by its first region
 fin : Option (List (Nat × Md)) := none    -- the results
 peel : Nat → Bool := fun _ => false       -- loops whose first round stands by itself
 cas : Nat → Option (Nat × Nat) := fun _ => none    -- regions ahead of which a slot's number is told by cases
def cutTo(V:Env)(spec:Option (List (Nat×Md)))(s:St):St:=match spec with
 | some keep=>norm V keep s
 | none=>s
def kSeq(f:St→Option α)(K:Ex→St→Option α):Ex→St→Option α:=fun e s=>match e with
 | .normal=>f s
 | .exit j=>K (.exit j) s
 | .ret=>K .ret s
def kBlock(id:Nat)(K:Ex→St→Option α):Ex→St→Option α:=fun e s=>match e with
 | .exit j=>match Nat.beq j id with
  | true=>K .normal s
  | false=>K (.exit j) s
 | .normal=>K .normal s
 | .ret=>K .ret s
def loopN{σ:Type}(step:(σ→Option α)→σ→Option α):Nat→σ→Option α
 | 0=>fun _=>none
 | n+1=>step (loopN step n)
def caseI(j:Int)(K:Nat→Option α):Nat→Nat→Option α
 | 0,_=>none
 | n+1,q=>cond (decide (j=(q:Int))) (K q) (caseI j K n (q+1))
def casK(c:Option (Nat×Nat))(s:St)(K:St→Option α):Option α:=match c with
 | none=>K s
 | some (t,n)=>match lk t s.tmps with
  | .int k j=>caseI j (fun q=>K (s.put (some t) (.int k (q:Int)))) n 0
  | _=>none
def aexec(V:Env)(A:Cuts):Code→St→(Ex→St→Option α)→Option α
 | .skip,s,K=>K .normal s
 | .label _,s,K=>K .normal s
 | .region id ops d,s,K=>casK (A.cas id) s fun s=>match d with
  | false=>aops V ops (K .normal) 0 ops.toList s
  | true=>aopsD V ops (K .normal) 0 ops.toList s []
 | .seq a b,s,K=>aexec V A a s (kSeq (fun s=>aexec V A b (cutTo V ((ckey b).bind A.join) s) K) K)
 | .cond c x y,s,K=>match ev V s c with
  | .bool b=>cond b (aexec V A x s K) (aexec V A y s K)
  | _=>none
 | .block id c,s,K=>aexec V A c s (kBlock id K)
 | .loop c,s,K=>match (ckey c).map A.peel with
  | some true=>aexec V A c s (kSeq (fun s=>loopN (fun R s=>aexec V A c s (kSeq (fun s=>R (cutTo V ((ckey c).bind A.at_) s)) K)) A.F (cutTo V ((ckey c).bind A.at_) s)) K)
  | _=>loopN (fun R s=>aexec V A c s (kSeq (fun s=>R (cutTo V ((ckey c).bind A.at_) s)) K)) A.F (cutTo V ((ckey c).bind A.at_) s)
 | .scope c,s,K=>aexec V A c s K
 | .exit id,s,K=>K (.exit id) s
 | .ret,s,K=>K .ret s
 | _,_,_=>none
end
def aresult(V:Env)(s:St):ResultVar→Option AV
 | .tmp t=>some (lk t s.tmps)
 | .cell t ty=>aload V ty (lk t s.tmps) s
def aresults(V:Env)(s:St):List ResultVar→Option (List AV)
 | []=>some []
 | r :: l=>match aresult V s r,aresults V s l with
  | some v,some l=>some (v :: l)
  | _,_=>none
def retV:List AV→AV
 | [v]=>v
 | vs=>.tup (AVs.ofList vs)
def afin(V:Env)(m:Nat)(rs:List ResultVar)(s:St):Option (AV×List Blk):=
 match aresults V s rs with
 | none=>none
 | some vs=>
  let v:=retV vs
  let roots:=addNew (List.range m) v.ids
  let ids:=reach s.heap 64 roots roots
  let π:=fun n=>numb n ids
  match goodIds roots ids s.heap with
  | true=>some (v.ren π,ids.map fun n=>(lkH n s.heap).ren π)
  | false=>none
def tagT:Nat→List AV→List (Nat×AV)
 | _,[]=>[]
 | i,b :: l=>(i,b) :: tagT (i+1) l
def kFin(V:Env)(fin:Option (List (Nat×Md)))(rs:List ResultVar):Ex→St→Option (AV×List Blk):=fun e s=>match e with
 | .exit _=>none
 | _=>afin V (cutTo V fin s).m rs (cutTo V fin s)
def sub:Code→List Nat→Code
 | c,[]=>c
 | .seq a _,0 :: l=>sub a l
 | .seq _ b,_ :: l=>sub b l
 | .cond _ a _,0 :: l=>sub a l
 | .cond _ _ b,_ :: l=>sub b l
 | .block _ c,_ :: l=>sub c l
 | .loop c,_ :: l=>sub c l
 | .scope c,_ :: l=>sub c l
 | c,_=>c
def bodyOf(f:Func):Code:=f.body.getD .skip
def abody(V:Env)(A:Cuts)(f:Func)(args:List AV)(H:List Blk):Option (AV×List Blk):=
 match f.body with
 | none=>none
 | some c=>aexec V A c { tmps:=tagT 0 args,heap:=tagH 0 H,next:=H.length,nt:=max args.length f.ntmps,m:=H.length } (kFin V A.fin f.results.toList)
end Go.Am
