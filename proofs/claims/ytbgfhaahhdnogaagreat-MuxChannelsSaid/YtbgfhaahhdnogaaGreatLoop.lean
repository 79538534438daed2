/- Loops of pure twins, evaluated. -/
import Derived.Test.YtbgfhaahhdnogaaGreatPure
namespace Go.Proofs.YtbgfhaahhdnogaaGreat
namespace V
theorem dN{α}(l:List α)(i:Nat):idx l (i:Int)=l[i]?:=by simp[idx]
theorem wN(i:Nat)(h:i<9223372036854775807):aL ((i:Int)+1)=((i+1:Nat):Int):=by rw[bW]<;>omega
theorem lN{α}(l:List α):len l=(l.length:Int):=rfl
theorem lQ{α}(l:List α)i j(h1:i<=j)(h2:j<=l.length):sub l (i:Int) (j:Int)=some ((l.take j).drop i):=by
 unfold sub;rw[if_pos (by omega)];simp
theorem dX{α b}{l m:List α}(h:(l.length+m.length)*b<=140737488355328)(hb:0<b):app b l m=some (l++m):=by
 unfold app;have:(l.length+m.length)*1<=(l.length+m.length)*b:=Nat.mul_le_mul_left _ hb;rw[if_pos (by omega)]
theorem CO{α}{b:Nat}{z:α}{n}(h:n*b<=140737488355328)(hb:0<b):mk b z (n:Int)=some (List.replicate n z):=by
 unfold mk;have h1:n*1<=n*b:=Nat.mul_le_mul_left _ hb;have h2:(n:Int)*(b:Int)<=140737488355328:=by rw[<-Int.natCast_mul];omega
 rw[if_pos (by omega)];simp
section
variable {S O:Type}
theorem bY{body:S->Option (Out S O)}{n s s'}(h:body s=some (.next s')):iter body (n+1) s=iter body n s':=by simp[iter,h]
theorem bF{body:S->Option (Out S O)}{n s o}(h:body s=some (.done o)):iter body (n+1) s=some o:=by simp[iter,h]
theorem eG{body}(st:Nat->S)n(o:O)(h:∀i,i<n->body (st i)=some (.next (st (i+1))))(hd:body (st n)=some (.done o)) :
 ∀F i,i<=n->n-i<F->iter body F (st i)=some o
 | 0,i,_,hF=>by omega
 | F+1,i,hi,hF=>by
   by_cases hin:i<n
   .rw[bY (h i hin)];exact eG st n o h hd F (i+1) hin (by omega)
   .have:i=n:=by omega
    subst this;exact bF hd
theorem Dc{α:Type}{body}{l:List α}{p}{o e:O}(h:∀(i:Nat) x,l[i]?=some x->body (i:Int)=some (if p x=true then .done o else .next ((i+1:Nat):Int)))(he:body (l.length:Int)=some (.done e)) :
 ∀F i,i<=l.length->l.length-i<F->iter body F (i:Int)=some (if (l.drop i).any p=true then o else e)
 | 0,i,_,hF=>by omega
 | F+1,i,hi,hF=>by
   by_cases hin:i<l.length
   .have hx:l[i]?=some l[i]:=List.getElem?_eq_getElem hin;have hdr:l.drop i=l[i]::l.drop (i+1):=List.drop_eq_getElem_cons hin;have hb:=h i _ hx;by_cases hp:p l[i]=true
    .rw[if_pos hp]at hb;rw[bF hb,hdr,List.any_cons,hp];rfl
    .rw[if_neg hp]at hb;rw[bY hb,Dc h he F (i+1) hin (by omega),hdr,List.any_cons,(Bool.not_eq_true _).mp hp];rfl
   .have:i=l.length:=by omega
    subst this;rw[bF he,List.drop_length,List.any_nil];rfl
end
end V
end Go.Proofs.YtbgfhaahhdnogaaGreat
