/- Loops of pure twins, evaluated. -/
import Derived.Test.YtbgfhaahhdnogaaGreatPure
namespace Go.Proofs.YtbgfhaahhdnogaaGreat
namespace V
theorem dN{α:Type}(l:List α)(i:Nat):idx l (i:Int)=l[i]?:=by simp[idx]
theorem wN(i:Nat)(h:i<9223372036854775807):aK ((i:Int)+1)=((i+1:Nat):Int):=by rw[bP] <;> omega
theorem lN{α:Type}(l:List α):len l=(l.length:Int):=rfl
theorem lu{α:Type}(l:List α)(i j:Nat)(h1:i<=j)(h2:j<=l.length):sub l (i:Int) (j:Int)=some ((l.take j).drop i):=by
 unfold sub;rw[if_pos (by omega)];simp
theorem dV{α:Type}{b:Nat}{l m:List α}(h:(l.length+m.length)*b<=140737488355328)(hb:0<b):app b l m=some (l++m):=by
 unfold app;have:(l.length+m.length)*1<=(l.length+m.length)*b:=Nat.mul_le_mul_left _ hb;rw[if_pos (by omega)]
theorem BO{α:Type}{b:Nat}{z:α}{n:Nat}(h:n*b<=140737488355328)(hb:0<b):mk b z (n:Int)=some (List.replicate n z):=by
 unfold mk;have h1:n*1<=n*b:=Nat.mul_le_mul_left _ hb;have h2:(n:Int)*(b:Int)<=140737488355328:=by rw[← Int.natCast_mul];omega
 rw[if_pos (by omega)];simp
section
variable {S O:Type}
theorem bU{body:S->Option (Out S O)}{n:Nat}{s s':S}(h:body s=some (.next s')):iter body (n+1) s=iter body n s':=by simp[iter,h]
theorem aX{body:S->Option (Out S O)}{n:Nat}{s:S}{o:O}(h:body s=some (.done o)):iter body (n+1) s=some o:=by simp[iter,h]
theorem dZ{body:S->Option (Out S O)}(st:Nat->S)(n:Nat)(o:O)(h:∀i,i<n->body (st i)=some (.next (st (i+1))))(hd:body (st n)=some (.done o)) :
 ∀(F i:Nat),i<=n->n-i<F->iter body F (st i)=some o
 | 0,i,_,hF=>by omega
 | F+1,i,hi,hF=>by
   by_cases hin:i<n
   ·rw[bU (h i hin)];exact dZ st n o h hd F (i+1) hin (by omega)
   ·have:i=n:=by omega
    subst this;exact aX hd
theorem Ch{α:Type}{body:Int->Option (Out Int O)}{l:List α}{p:α->Bool}{o e:O}(h:∀(i:Nat) x,l[i]? = some x->body (i:Int)=some (if p x=true then .done o else .next ((i+1:Nat):Int)))(he:body (l.length:Int)=some (.done e)) :
 ∀(F i:Nat),i<=l.length->l.length-i<F->iter body F (i:Int)=some (if (l.drop i).any p=true then o else e)
 | 0,i,_,hF=>by omega
 | F+1,i,hi,hF=>by
   by_cases hin:i<l.length
   ·have hx:l[i]? = some l[i]:=List.getElem?_eq_getElem hin;have hdr:l.drop i=l[i]::l.drop (i+1):=List.drop_eq_getElem_cons hin;have hb:=h i _ hx;by_cases hp:p l[i]=true
    ·rw[if_pos hp]at hb;rw[aX hb,hdr,List.any_cons,hp];rfl
    ·rw[if_neg hp]at hb;rw[bU hb,Ch h he F (i+1) hin (by omega),hdr,List.any_cons,(Bool.not_eq_true _).mp hp];rfl
   ·have:i=l.length:=by omega
    subst this;rw[aX he,List.drop_length,List.any_nil];rfl
end
end V
end Go.Proofs.YtbgfhaahhdnogaaGreat
