/- Words for pure twins of Go functions: wrapped integers, loop -/
import GoSem.Core.View
namespace Go.Proofs.YtbgfhaahhdnogaaGreat
namespace V
inductive Out(S O:Type) where
 | next (s:S)
 | done (o:O)
def iter{S O:Type}(body:S->Option (Out S O)):Nat->S->Option O
 | 0,_=>none
 | n+1,s=>match body s with
   | none=>none
   | some (.next s')=>iter body n s'
   | some (.done o)=>some o
theorem iI{S O:Type}{body:S->Option (Out S O)}{n:Nat}{s:S}{o:O}(h:iter body n s=some o) :
 ∃m q,n=m+1/\body s=some q/\((∃s',q=.next s'/\iter body m s'=some o)∨q=.done o):=by
 cases n with
 | zero=>cases h
 | succ m=>
   cases hb:body s with
   | none=>simp[iter,hb]at h
   | some q=>
     refine⟨m,q,rfl,rfl,?_⟩;cases q with
     | next s'=>simp[iter,hb]at h;exact .inl ⟨s',rfl,h⟩
     | done o'=>simp[iter,hb]at h;subst h;exact .inr rfl
theorem bI{α β:Type}{e:Option α}{f:α->Option β}{q:β}(h:e.bind f=some q):∃x,e=some x/\f x=some q:=by
 cases e with
 | none=>cases h
 | some x=>exact⟨x,rfl,h⟩
def aK(x:Int):Int:=(x+9223372036854775808)%18446744073709551616-9223372036854775808
def wu64(x:Int):Int:=x%18446744073709551616
def wu32(x:Int):Int:=x%4294967296
def kI(x:Int):Int:=x%65536
def kP(x:Int):Int:=x%256
theorem bP{x:Int}(h1 : -9223372036854775808<=x)(h2:x<9223372036854775808):aK x=x:=by unfold aK;omega
theorem uU{x:Int}(h1:0<=x)(h2:x<18446744073709551616):wu64 x=x:=by unfold wu64;omega
theorem jq{x:Int}(h1:0<=x)(h2:x<65536):kI x=x:=by unfold kI;omega
theorem FB{x:Int}(h1:0<=x)(h2:x<256):kP x=x:=by unfold kP;omega
theorem wrap_i64(x:Int):IntKind.i64.wrap x=aK x:=by
 unfold aK IntKind.wrap;simp only[IntKind.bits,IntKind.signed,Nat.reduceSub];simp only[show(2:Int)^64=18446744073709551616 from rfl,show(2:Int)^63=9223372036854775808 from rfl];simp only[Bool.true_and,decide_eq_true_eq];split <;> omega
theorem wrap_u64(x:Int):IntKind.u64.wrap x=wu64 x:=rfl
theorem wrap_u16(x:Int):IntKind.u16.wrap x=kI x:=rfl
def aaU(k:IntKind)(x y:Int):Int:=k.wrap (BitVec.ofInt k.bits x &&& BitVec.ofInt k.bits y).toNat
def uQ(k:IntKind)(x y:Int):Int:=k.wrap (BitVec.ofInt k.bits x ||| BitVec.ofInt k.bits y).toNat
def aaQ(k:IntKind)(x y:Int):Int:=k.wrap (BitVec.ofInt k.bits x ^^^ BitVec.ofInt k.bits y).toNat
def Gv(k:IntKind)(x y:Int):Int:=k.wrap (BitVec.ofInt k.bits x &&& ~~~ BitVec.ofInt k.bits y).toNat
def Jo(k:IntKind)(x y:Int):Option Int:=if y<0 then none else some (k.wrap (x*2^(min y.toNat k.bits)))
def Jm(k:IntKind)(x y:Int):Option Int:=if y<0 then none else some (x.fdiv (2^(min y.toNat k.bits)))
def aaT(k:IntKind)(x y:Int):Option Int:=if y=0 then none else some (k.wrap (x.tdiv y))
def aaS(x y:Int):Option Int:=if y=0 then none else some (x.tmod y)
def Ay(x:Int)(n:Nat):Int:=x.fdiv (2^n)
def mh(k:IntKind)(x:Int)(n:Nat):Int:=k.wrap (x*2^n)
def Ou(k:IntKind)(x n:Int):Int:=k.wrap (x.tdiv n)
def gU(x n:Int):Int:=x.tmod n
def cZ(x y:Int):Int:=if y<x then y else x
def imax(x y:Int):Int:=if y>x then y else x
def idx{α:Type}(l:List α)(i:Int):Option α:=if 0<=i then l[i.toNat]? else none
def upd{α:Type}(l:List α)(i:Int)(x:α):Option (List α):=if 0<=i/\i<l.length then some (l.set i.toNat x)else none
def sub{α:Type}(l:List α)(lo hi:Int):Option (List α):=if 0<=lo/\lo<=hi/\hi<=l.length then some ((l.take hi.toNat).drop lo.toNat)else none
def app{α:Type}(bytes:Nat)(l m:List α):Option (List α):=if (l.length+m.length)*bytes<=140737488355328/\l.length+m.length<=9223372036854775807 then some (l++m)else none
def mk{α:Type}(bytes:Nat)(z:α)(n:Int):Option (List α):=if 0<=n/\n*bytes<=140737488355328/\n<=9223372036854775807 then some (List.replicate n.toNat z)else none
def ET{α:Type}(l m:List α):List α:=m.take l.length++l.drop m.length
def len{α:Type}(l:List α):Int:=l.length
def str(l:List Int):List Int:=l.map fun n=>((UInt8.ofNat n.toNat).toNat:Int)
def qA{α:Type}:List (Int×α)->Int->α->List (Int×α)
 | [],k,x=>[(k,x)]
 | (j,y)::m,k,x=>if k==j then(k,x)::m else(j,y)::qA m k x
def oz{α:Type}:List (Int×α)->Int->Option α
 | [],_=>none
 | (j,y)::m,k=>if k==j then some y else oz m k
def aF{α:Type}(f:Nat->α)(i:Nat)(x:α):Nat->α:=fun j=>if j=i then x else f j
def Ao(n:Nat)(i:Int):Option Nat:=if 0<=i/\i<n then some i.toNat else none
end V
end Go.Proofs.YtbgfhaahhdnogaaGreat
