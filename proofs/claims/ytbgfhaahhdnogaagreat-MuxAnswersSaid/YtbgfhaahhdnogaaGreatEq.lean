/- '==' on structs of integers and truth values. -/
import Derived.Test.YtbgfhaahhdnogaaGreatMore
import Derived.Laws.StructEq
namespace Go.Proofs.YtbgfhaahhdnogaaGreat
namespace V
def uN:List Bool->Bool
 | []=>true
 | [b]=>b
 | b::r=>b&&uN r
theorem EY(b:Bool)(r:List Bool):uN (b::r)=(b&&uN r):=by cases r <;> simp[uN]
theorem yX:∀(a b:List Bool),uN (a++b)=(uN a&&uN b)
 | [],b=>by simp[uN]
 | x::a,b=>by rw[List.cons_append,EY,EY,yX a b,Bool.and_assoc]
def Sk(P:Program)(tt:TT)(eq:TypeId->List Cell->List Cell->Option (List Bool))(cs ds:List Cell):List Field->Option (List Bool)
 | []=>some []
 | f::fs=>match f.name != "_",jK f.type tt with
   | true,some ti=>(match eq f.type ((cs.drop f.offset).take ti.size) ((ds.drop f.offset).take ti.size),Sk P tt eq cs ds fs with
     | some a,some b=>some (a++b)
     | _,_=>none)
   | _,_=>none
def eqT(P:Program)(tt:TT):Nat->TypeId->List Cell->List Cell->Option (List Bool)
 | 0,_,_,_=>none
 | d+1,t,cs,ds=>match jK t tt with
   | some ⟨.int _,_,_,_,_⟩=>(match cs,ds with
     | [.v (.int k a)],[.v (.int k' b)]=>(match keq k k' with
       | true=>some [a==b]
       | false=>none)
     | _,_=>none)
   | some ⟨.bool,_,_,_,_⟩=>(match cs,ds with
     | [.v (.bool a)],[.v (.bool b)]=>some [a==b]
     | _,_=>none)
   | some ⟨.struct fs,_,_,_,_⟩=>(match P.stoodInHeld t with
     | false=>Sk P tt (eqT P tt d) cs ds fs.toList
     | true=>none)
   | _=>none
def oJ(tt:TT)(t:TypeId)(vs:List Value):Value:=match jK t tt with
 | some ⟨.struct _,_,_,_,_⟩=>.agg vs.toArray
 | _=>(vs[0]?).getD undef
section
variable {P:Program} {N n0:Nat} {fx:Fx} {its aP:List Item} {κ:List Conc} {w:World} {env env':bN} {tt:TT}
theorem Ms(cK:dX P tt){t:TypeId}{ti:TI}(ht:jK t tt=some ti){vs us:List Value}{off:Nat}(hag:ti.agg=(match ti.und with | .struct _=>true | _=>false))(hl:(vs.drop off).take ti.size=us)(hne:ti.agg=false->∃v,us=[v]):(part t vs.toArray off).run P w=.ok (oJ tt t us) w:=by
 have hA:=(cK.get ht).agg w;have hS:=(cK.get ht).size w;unfold part;simp only[Sem.run_bind,hA,Result.andThen_ok];cases hb:ti.agg with
 | true=>
   simp only[if_true,Sem.run_bind,hS,Result.andThen_ok,Sem.run_pure];unfold oJ;rw[ht];obtain⟨und,a,sz,z,by'⟩:=ti;simp only at hb hag hl;rw[hb]at hag;cases und <;> simp at hag
   simp only
   congr 2;apply Array.ext';rw[← hl];simp[List.extract,Nat.add_sub_cancel_left]
 | false=>
   obtain⟨v,hv⟩:=hne hb;have hg:vs[off]? = some v:=by
    rw[hv]at hl;have:=congrArg (·[0]?) hl;simp only[List.getElem?_take,List.getElem?_drop,Nat.add_zero,List.getElem?_cons_zero]at this;split at this
    ·exact this
    ·cases this
   simp only[Bool.false_eq_true,if_false];have:vs.toArray[off]? = some v:=by simpa using hg
   rw[this];unfold oJ;rw[ht];obtain⟨und,a,sz,z,by'⟩:=ti;simp only at hb hag;rw[hb]at hag;cases und <;> simp at hag <;> simp[hv]
theorem M7(cK:dX P tt){eq:TypeId->List Cell->List Cell->Option (List Bool)}{D:Nat}(hag:tt.all (fun p=>Dp p.2.agg (match p.2.und with | .struct _=>true | .array _ _=>true | _=>false))=true)
 (heq:∀t cs ds bs,eq t cs ds=some bs->(∀ti,jK t tt=some ti->(∀n e,ti.und≠.array n e)/\(ti.agg=false->∃c d,cs=[c]/\ds=[d]))/\(Op.equalIn D t (oJ tt t (cs.map (Cell.den κ))) (oJ tt t (ds.map (Cell.den κ)))).run P w=.ok (uN bs) w) (cs ds:List Cell) :
 ∀(fs:List Field) (bs:List Bool),Sk P tt eq cs ds fs=some bs->(Op.eqFields D (cs.map (Cell.den κ)).toArray (ds.map (Cell.den κ)).toArray fs).run P w=.ok (uN bs) w
 | [],bs,h=>by
   simp only[Sk,Option.some.injEq]at h;subst h;simp[Op.eqFields,uN]
 | f::fs,bs,h=>by
   simp only[Sk]at h;split at h
   ·rename_i ti hn ht;split at h
    ·rename_i a b ha hb;injection h with h;subst h;obtain⟨h1,h2⟩:=heq _ _ _ _ ha;obtain⟨h3,h4⟩:=h1 ti ht;have hg:ti.agg=(match ti.und with | .struct _=>true | _=>false):=by
      have hm:∀{l:TT},jK f.type l=some ti->l.all (fun p=>Dp p.2.agg (match p.2.und with | .struct _=>true | .array _ _=>true | _=>false))=true->Dp ti.agg (match ti.und with | .struct _=>true | .array _ _=>true | _=>false)=true:=by
       intro l
       induction l with
       | nil=>intro h;cases h
       | cons q l ih=>
         obtain⟨t0,ti0⟩:=q;intro h h';simp only[List.all_cons,Bool.and_eq_true]at h';simp only[jK]at h;cases hb:Nat.beq f.type t0 with
         | true=>rw[hb]at h;simp only[Option.some.injEq]at h;subst h;exact h'.1
         | false=>rw[hb]at h;exact ih h h'.2
      have:=zW (hm ht hag);rw[this];cases hu:ti.und <;> first | rfl | exact absurd hu (h3 _ _)
     have hn':f.name≠"_":=by simpa using hn
     have p1:=Ms (w:=w) cK ht (vs:=cs.map (Cell.den κ)) (off:=f.offset) hg rfl (fun hf=>by
      obtain⟨c,d,hc,_⟩:=h4 hf;exact⟨c.den κ,by rw[← List.map_drop,← List.map_take,hc];rfl⟩)
     have p2:=Ms (w:=w) cK ht (vs:=ds.map (Cell.den κ)) (off:=f.offset) hg rfl (fun hf=>by
      obtain⟨c,d,_,hd⟩:=h4 hf;exact⟨d.den κ,by rw[← List.map_drop,← List.map_take,hd];rfl⟩)
     rw[← List.map_drop,← List.map_take]at p1 p2;simp only[Op.eqFields,hn',ne_eq,not_false_eq_true,if_true,Sem.run_bind,p1,p2,h2,Result.andThen_ok,yX];cases uN a
     ·simp
     ·simpa using M7 cK hag heq cs ds fs b hb
    ·cases h
   ·cases h
theorem Sj(cK:dX P tt)(hag:tt.all (fun p=>Dp p.2.agg (match p.2.und with | .struct _=>true | .array _ _=>true | _=>false))=true):∀(d D:Nat) (t:TypeId) (cs ds:List Cell) (bs:List Bool),eqT P tt d t cs ds=some bs->
 (∀ti,jK t tt=some ti->(∀n e,ti.und≠.array n e)/\(ti.agg=false->∃c d,cs=[c]/\ds=[d]))/\(Op.equalIn (D+d) t (oJ tt t (cs.map (Cell.den κ))) (oJ tt t (ds.map (Cell.den κ)))).run P w=.ok (uN bs) w
 | 0,D,t,cs,ds,bs,h=>by cases h
 | d+1,D,t,cs,ds,bs,h=>by
   unfold eqT at h;split at h
   ·rename_i q _ _ _ _ ht;split at h
    ·rename_i k a k' b;split at h
     ·rename_i hk;have:=uD hk;subst this;injection h with h;subst h;refine⟨fun ti hti=>?_,?_⟩
      ·rw[ht]at hti;injection hti with hti;subst hti;exact⟨fun n e=>by simp,fun _=>⟨_,_,rfl,rfl⟩⟩
      ·unfold oJ;rw[ht];exact run_equalIn_int w (D+d) t k q a b (cK.get ht).und
     ·cases h
    ·cases h
   ·rename_i _ _ _ _ ht;split at h
    ·rename_i a b;injection h with h;subst h;refine⟨fun ti hti=>?_,?_⟩
     ·rw[ht]at hti;injection hti with hti;subst hti;exact⟨fun n e=>by simp,fun _=>⟨_,_,rfl,rfl⟩⟩
     ·unfold oJ;rw[ht];exact run_equalIn_bool' w (D+d) t a b (cK.get ht).und
    ·cases h
   ·rename_i fs ag sz0 z0 by0 ht;split at h
    ·rename_i hst;refine⟨fun ti hti=>?_,?_⟩
     ·rw[ht]at hti;injection hti with hti;subst hti;refine⟨fun n e=>by simp,fun hf=>?_⟩;exfalso;have hm:∀{l:TT},jK t l=some ⟨.struct fs,ag,sz0,z0,by0⟩->l.all (fun p=>Dp p.2.agg (match p.2.und with | .struct _=>true | .array _ _=>true | _=>false))=true->Dp ag true=true:=by
       intro l
       induction l with
       | nil=>intro h;cases h
       | cons q l ih=>
         obtain⟨t0,ti0⟩:=q;intro h h';simp only[List.all_cons,Bool.and_eq_true]at h';simp only[jK]at h;cases hb:Nat.beq t t0 with
         | true=>rw[hb]at h;simp only[Option.some.injEq]at h;subst h;exact h'.1
         | false=>rw[hb]at h;exact ih h h'.2
      have:=zW (hm ht hag);simp only at hf;rw[hf]at this;cases this
     ·have hu:=(cK.get ht).und;have hfs:P.fieldsOf t=fs:=by simp[Program.fieldsOf,hu]
      have hw:∀l:List Cell,oJ tt t (l.map (Cell.den κ))=.agg (l.map (Cell.den κ)).toArray:=fun l=>by
       unfold oJ;rw[ht]
      rw[hw,hw];have:=run_equalIn_struct w (D+d) t (cs.map (Cell.den κ)).toArray (ds.map (Cell.den κ)).toArray (by rw[hfs];exact hu) hst;rw[show D+(d+1)=D+d+1 from rfl,this,hfs];exact M7 cK hag (fun t cs ds bs h=>Sj cK hag d D t cs ds bs h) cs ds fs.toList bs h
    ·cases h
   ·cases h
theorem aeV(cK:dX P tt){d:Option Nat}{t:TypeId}{ps:String}{af:Array Edge}{g:Option (Nat×Bool)}{op:BinOp}{ty l9:TypeId}{x y:Operand}{cs ds:List Cell}(bs:List Bool)(v:Bool)(hx:jD env x=some (.g cs))(hy:jD env y=some (.g ds))(hg:P.eqGuardType P.depth ty=false)
 (hag:(tt.all (fun p=>Dp p.2.agg (match p.2.und with | .struct _=>true | .array _ _=>true | _=>false)),(jK ty tt).map fun ti=>(match ti.und with | .struct _=>true | _=>false))=(true,some true)) (he:eqT P tt 100 ty cs ds=some bs) (hv:(op=.eql/\uN bs=v)∨(op=.neq/\(!uN bs)=v)) :
 Eff P N n0 fx env its ⟨d,.binOp op ty x y l9,t,ps,af,g⟩ (some (vb v)) its:=fun κ w S a ha=>by
 injection hag with hag1 Wv;have hx':=eD (κ:=κ) hx;have hy':=eD (κ:=κ) hy;have hr:=(Sj (κ:=κ) (w:=w) cK hag1 100 9900 ty cs ds bs he).2;have hw:∀l:List Cell,oJ tt ty (l.map (Cell.den κ))=.agg (l.map (Cell.den κ)).toArray:=fun l=>by
  unfold oJ;cases hl:jK ty tt with
  | none=>rw[hl]at Wv;cases Wv
  | some ti=>
    obtain⟨und,_,_,_,_⟩:=ti;rw[hl]at Wv;cases und <;> first | rfl | (simp at Wv)
 rw[hw,hw]at hr;simp only[SV.den]at hx' hy';have hguard:∀o:BinOp,(eqGuard o ty x y (Value.agg (cs.map (Cell.den κ)).toArray) (Value.agg (ds.map (Cell.den κ)).toArray)).run P w=.ok () w:=by
  intro o;unfold eqGuard;cases o <;> simp[hg,Go.program,Sem.run]
 refine .inl ⟨_,w,?_,[],fun z hz=>(by injection hz with hz;subst hz;rfl),by rw[List.append_nil];exact S⟩;rcases hv with⟨rfl,hv⟩ | ⟨rfl,hv⟩
 ·simp only[execOp,ha.ev hx',ha.ev hy',Sem.run_bind,hguard,Result.andThen_ok,binOp,Op.equal,Op.maxDepth,hr,Sem.run_pure];rw[hv];rfl
 ·simp only[execOp,ha.ev hx',ha.ev hy',Sem.run_bind,hguard,Result.andThen_ok,binOp,Op.equal,Op.maxDepth,hr,Sem.run_pure];rw[hv];rfl
end
end V
end Go.Proofs.YtbgfhaahhdnogaaGreat
