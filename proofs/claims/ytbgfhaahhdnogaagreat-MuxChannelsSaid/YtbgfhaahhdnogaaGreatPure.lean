/- Words for pure twins of Go functions: wrapped integers, loop -/
import GoSem.Core.View
namespace Go.Proofs.YtbgfhaahhdnogaaGreat
namespace V
inductive Out(S O:Type) where
 | next (s:S)
 | done (o:O)
def iter{S O:Type}(body:S->Option (Out S O)):Nat->S->Option O
 | 0,_=>none
 | n+1,s=>match body s with
   | none=>none
   | some (.next s')=>iter body n s'
   | some (.done o)=>some o
theorem iI{S O}{body:S->Option (Out S O)}{n s o}(h:iter body n s=some o) :
 ∃m q,n=m+1/\body s=some q/\((∃s',q=.next s'/\iter body m s'=some o)\/q=.done o):=by
 cases n with
 | zero=>cases h
 | succ m=>
   cases hb:body s with
   | none=>simp[iter,hb]at h
   | some q=>
     refine⟨m,q,rfl,rfl,?_⟩;cases q with
     | next s'=>simp[iter,hb]at h;exact .inl ⟨s',rfl,h⟩
     | done o'=>simp[iter,hb]at h;subst h;exact .inr rfl
theorem bI{α β:Type}{e}{f:α->Option β}{q}(h:e.bind f=some q):∃x,e=some x/\f x=some q:=by
 cases e with
 | none=>cases h
 | some x=>exact⟨x,rfl,h⟩
def aL(x:Int):Int:=(x+9223372036854775808)%18446744073709551616-9223372036854775808
def wu64(x:Int):Int:=x%18446744073709551616
def wu32(x:Int):Int:=x%4294967296
def kW(x:Int):Int:=x%65536
def lg(x:Int):Int:=x%256
theorem bW{x}(h1: -9223372036854775808<=x)(h2:x<9223372036854775808):aL x=x:=by unfold aL;omega
theorem vM{x}(h1:0<=x)(h2:x<18446744073709551616):wu64 x=x:=by unfold wu64;omega
theorem jJ{x}(h1:0<=x)(h2:x<65536):kW x=x:=by unfold kW;omega
theorem Gx{x}(h1:0<=x)(h2:x<256):lg x=x:=by unfold lg;omega
theorem wrap_i64 x:IntKind.i64.wrap x=aL x:=by
 unfold aL IntKind.wrap;simp only[IntKind.bits,IntKind.signed,Nat.reduceSub];simp only[show(2:Int)^64=18446744073709551616 from rfl,show(2:Int)^63=9223372036854775808 from rfl];simp only[Bool.true_and,decide_eq_true_eq];split<;>omega
theorem wrap_u64 x:IntKind.u64.wrap x=wu64 x:=rfl
theorem wrap_u16 x:IntKind.u16.wrap x=kW x:=rfl
def acu(k:IntKind)(x y:Int):Int:=k.wrap (BitVec.ofInt k.bits x &&& BitVec.ofInt k.bits y).toNat
def vK(k:IntKind)(x y:Int):Int:=k.wrap (BitVec.ofInt k.bits x ||| BitVec.ofInt k.bits y).toNat
def acn(k:IntKind)(x y:Int):Int:=k.wrap (BitVec.ofInt k.bits x ^^^ BitVec.ofInt k.bits y).toNat
def Ic(k:IntKind)(x y:Int):Int:=k.wrap (BitVec.ofInt k.bits x &&& ~~~ BitVec.ofInt k.bits y).toNat
def Kh(k:IntKind)(x y:Int):Option Int:=if y<0 then none else some (k.wrap (x*2^(min y.toNat k.bits)))
def Kg(k:IntKind)(x y:Int):Option Int:=if y<0 then none else some (x.fdiv (2^(min y.toNat k.bits)))
def acr(k:IntKind)(x y:Int):Option Int:=if y=0 then none else some (k.wrap (x.tdiv y))
def acp(x y:Int):Option Int:=if y=0 then none else some (x.tmod y)
def BO(x:Int)(n:Nat):Int:=x.fdiv (2^n)
def mJ(k:IntKind)(x:Int)(n:Nat):Int:=k.wrap (x*2^n)
def PL(k:IntKind)(x n:Int):Int:=k.wrap (x.tdiv n)
def iE(x n:Int):Int:=x.tmod n
def cO(x y:Int):Int:=if y<x then y else x
def imax(x y:Int):Int:=if y>x then y else x
def idx{α:Type}(l:List α)(i:Int):Option α:=if 0<=i then l[i.toNat]? else none
def upd{α:Type}(l:List α)(i:Int)(x:α):Option (List α):=if 0<=i/\i<l.length then some (l.set i.toNat x)else none
def sub{α:Type}(l:List α)(lo hi:Int):Option (List α):=if 0<=lo/\lo<=hi/\hi<=l.length then some ((l.take hi.toNat).drop lo.toNat)else none
def app{α:Type}(bytes:Nat)(l m:List α):Option (List α):=if (l.length+m.length)*bytes<=140737488355328/\l.length+m.length<=9223372036854775807 then some (l++m)else none
def mk{α:Type}(bytes:Nat)(z:α)(n:Int):Option (List α):=if 0<=n/\n*bytes<=140737488355328/\n<=9223372036854775807 then some (List.replicate n.toNat z)else none
def FY{α:Type}(l m:List α):List α:=m.take l.length++l.drop m.length
def len{α:Type}(l:List α):Int:=l.length
def str(l:List Int):List Int:=l.map fun n=>((UInt8.ofNat n.toNat).toNat:Int)
def qX{α:Type}:List (Int×α)->Int->α->List (Int×α)
 | [],k,x=>[(k,x)]
 | (j,y)::m,k,x=>if k==j then(k,x)::m else(j,y)::qX m k x
def oV{α:Type}:List (Int×α)->Int->Option α
 | [],_=>none
 | (j,y)::m,k=>if k==j then some y else oV m k
def aH{α:Type}(f:Nat->α)(i:Nat)(x:α):Nat->α:=fun j=>if j=i then x else f j
def IQ(n:Nat)(i:Int):Option Nat:=if 0<=i/\i<n then some i.toNat else none
end V
end Go.Proofs.YtbgfhaahhdnogaaGreat
