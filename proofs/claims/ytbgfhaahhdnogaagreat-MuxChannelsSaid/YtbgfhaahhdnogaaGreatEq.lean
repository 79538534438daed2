/- '==' on structs of integers and truth values. -/
import Derived.Test.YtbgfhaahhdnogaaGreatMore
import Derived.Laws.StructEq
namespace Go.Proofs.YtbgfhaahhdnogaaGreat
namespace V
def vF:List Bool->Bool
 | []=>true
 | [b]=>b
 | b::r=>b&&vF r
theorem F5 b r:vF (b::r)=(b&&vF r):=by cases r<;>simp[vF]
theorem zG:∀a b,vF (a++b)=(vF a&&vF b)
 | [],b=>by simp[vF]
 | x::a,b=>by rw[List.cons_append,F5,F5,zG a b,Bool.and_assoc]
def UG(P:Program)(tt:TT)(eq:TypeId->List Cell->List Cell->Option (List Bool))(cs ds:List Cell):List Field->Option (List Bool)
 | []=>some []
 | f::fs=>match f.name != "_",jU f.type tt with
   | true,some ti=>(match eq f.type ((cs.drop f.offset).take ti.size) ((ds.drop f.offset).take ti.size),UG P tt eq cs ds fs with
     | some a,some b=>some (a++b)
     | _,_=>none)
   | _,_=>none
def eqT(P:Program)(tt:TT):Nat->TypeId->List Cell->List Cell->Option (List Bool)
 | 0,_,_,_=>none
 | d+1,t,cs,ds=>match jU t tt with
   | some ⟨.int _,_,_,_,_⟩=>(match cs,ds with
     | [.v (.int k a)],[.v (.int k' b)]=>(match keq k k' with
       | true=>some [a==b]
       | false=>none)
     | _,_=>none)
   | some ⟨.bool,_,_,_,_⟩=>(match cs,ds with
     | [.v (.bool a)],[.v (.bool b)]=>some [a==b]
     | _,_=>none)
   | some ⟨.struct fs,_,_,_,_⟩=>(match P.stoodInHeld t with
     | false=>UG P tt (eqT P tt d) cs ds fs.toList
     | true=>none)
   | _=>none
def o8(tt:TT)(t:TypeId)(vs:List Value):Value:=match jU t tt with
 | some ⟨.struct _,_,_,_,_⟩=>.agg vs.toArray
 | _=>(vs[0]?).getD undef
section
variable {P:Program} {N n0:Nat} {fx:Fx} {its aR:List Item} {κ:List Conc} {w:World} {env env':bP} {tt:TT}
theorem Ny(bZ:eu P tt){t:TypeId}{ti}(ht:jU t tt=some ti){vs us:List Value}{off}(hag:ti.agg=(match ti.und with | .struct _=>true | _=>false))(hl:(vs.drop off).take ti.size=us)(hne:ti.agg=false->∃v,us=[v]):(part t vs.toArray off).run P w=.ok (o8 tt t us) w:=by
 have hA:=(bZ.get ht).agg w;have hS:=(bZ.get ht).size w;unfold part;simp only[Sem.run_bind,hA,Result.andThen_ok];cases hb:ti.agg with
 | true=>
   simp only[if_true,Sem.run_bind,hS,Result.andThen_ok,Sem.run_pure];unfold o8;rw[ht];obtain⟨und,a,sz,z,by'⟩:=ti;simp only at hb hag hl;rw[hb]at hag;cases und<;>simp at hag
   simp only
   congr 2;apply Array.ext';rw[<-hl];simp[List.extract,Nat.add_sub_cancel_left]
 | false=>
   obtain⟨v,hv⟩:=hne hb;have hg:vs[off]?=some v:=by
    rw[hv]at hl;have:=congrArg (·[0]?) hl;simp only[List.getElem?_take,List.getElem?_drop,Nat.add_zero,List.getElem?_cons_zero]at this;split at this
    .exact this
    .cases this
   simp only[Bool.false_eq_true,if_false];have:vs.toArray[off]?=some v:=by simpa using hg
   rw[this];unfold o8;rw[ht];obtain⟨und,a,sz,z,by'⟩:=ti;simp only at hb hag;rw[hb]at hag;cases und<;>simp at hag<;>simp[hv]
theorem Oj(bZ:eu P tt){eq:TypeId->List Cell->List Cell->Option (List Bool)}{D}(hag:tt.all (fun p=>EI p.2.agg (match p.2.und with | .struct _=>true | .array _ _=>true | _=>false))=true)
 (heq:∀t cs ds bs,eq t cs ds=some bs->(∀ti,jU t tt=some ti->(∀n e,ti.und≠.array n e)/\(ti.agg=false->∃c d,cs=[c]/\ds=[d]))/\(Op.equalIn D t (o8 tt t (cs.map (Cell.den κ))) (o8 tt t (ds.map (Cell.den κ)))).run P w=.ok (vF bs) w) (cs ds) :
 ∀fs bs,UG P tt eq cs ds fs=some bs->(Op.eqFields D (cs.map (Cell.den κ)).toArray (ds.map (Cell.den κ)).toArray fs).run P w=.ok (vF bs) w
 | [],bs,h=>by
   simp only[UG,Option.some.injEq]at h;subst h;simp[Op.eqFields,vF]
 | f::fs,bs,h=>by
   simp only[UG]at h;split at h
   .rename_i ti hn ht;split at h
    .rename_i a b ha hb;injection h with h;subst h;obtain⟨h1,h2⟩:=heq _ _ _ _ ha;obtain⟨h3,h4⟩:=h1 ti ht;have hg:ti.agg=(match ti.und with | .struct _=>true|_=>false):=by
      have hm:∀{l:TT},jU f.type l=some ti->l.all (fun p=>EI p.2.agg (match p.2.und with | .struct _=>true | .array _ _=>true | _=>false))=true->EI ti.agg (match ti.und with | .struct _=>true | .array _ _=>true | _=>false)=true:=by
       intro l
       induction l with
       | nil=>intro h;cases h
       | cons q l ih=>
         obtain⟨t0,ti0⟩:=q;intro h h';simp only[List.all_cons,Bool.and_eq_true]at h';simp only[jU]at h;cases hb:Nat.beq f.type t0 with
         | true=>rw[hb]at h;simp only[Option.some.injEq]at h;subst h;exact h'.1
         | false=>rw[hb]at h;exact ih h h'.2
      have:=AJ (hm ht hag);rw[this];cases hu:ti.und<;>first|rfl|exact absurd hu (h3 _ _)
     have hn':f.name≠"_":=by simpa using hn
     have p1:=Ny (w:=w) bZ ht (vs:=cs.map (Cell.den κ)) (off:=f.offset) hg rfl (fun hf=>by
      obtain⟨c,d,hc,_⟩:=h4 hf;exact⟨c.den κ,by rw[<-List.map_drop,<-List.map_take,hc];rfl⟩)
     have p2:=Ny (w:=w) bZ ht (vs:=ds.map (Cell.den κ)) (off:=f.offset) hg rfl (fun hf=>by
      obtain⟨c,d,_,hd⟩:=h4 hf;exact⟨d.den κ,by rw[<-List.map_drop,<-List.map_take,hd];rfl⟩)
     rw[<-List.map_drop,<-List.map_take]at p1 p2;simp only[Op.eqFields,hn',ne_eq,not_false_eq_true,if_true,Sem.run_bind,p1,p2,h2,Result.andThen_ok,zG];cases vF a
     .simp
     .simpa using Oj bZ hag heq cs ds fs b hb
    .cases h
   .cases h
theorem UF(bZ:eu P tt)(hag:tt.all (fun p=>EI p.2.agg (match p.2.und with | .struct _=>true | .array _ _=>true | _=>false))=true):∀d D t cs ds bs,eqT P tt d t cs ds=some bs->
 (∀ti,jU t tt=some ti->(∀n e,ti.und≠.array n e)/\(ti.agg=false->∃c d,cs=[c]/\ds=[d]))/\(Op.equalIn (D+d) t (o8 tt t (cs.map (Cell.den κ))) (o8 tt t (ds.map (Cell.den κ)))).run P w=.ok (vF bs) w
 | 0,D,t,cs,ds,bs,h=>by cases h
 | d+1,D,t,cs,ds,bs,h=>by
   unfold eqT at h;split at h
   .rename_i q _ _ _ _ ht;split at h
    .rename_i k a k' b;split at h
     .rename_i hk;have:=uZ hk;subst this;injection h with h;subst h;refine⟨fun ti hti=>?_,?_⟩
      .rw[ht]at hti;injection hti with hti;subst hti;exact⟨fun n e=>by simp,fun _=>⟨_,_,rfl,rfl⟩⟩
      .unfold o8;rw[ht];exact run_equalIn_int w (D+d) t k q a b (bZ.get ht).und
     .cases h
    .cases h
   .rename_i _ _ _ _ ht;split at h
    .rename_i a b;injection h with h;subst h;refine⟨fun ti hti=>?_,?_⟩
     .rw[ht]at hti;injection hti with hti;subst hti;exact⟨fun n e=>by simp,fun _=>⟨_,_,rfl,rfl⟩⟩
     .unfold o8;rw[ht];exact run_equalIn_bool' w (D+d) t a b (bZ.get ht).und
    .cases h
   .rename_i fs ag sz0 z0 by0 ht;split at h
    .rename_i hst;refine⟨fun ti hti=>?_,?_⟩
     .rw[ht]at hti;injection hti with hti;subst hti;refine⟨fun n e=>by simp,fun hf=>?_⟩;exfalso;have hm:∀{l:TT},jU t l=some ⟨.struct fs,ag,sz0,z0,by0⟩->l.all (fun p=>EI p.2.agg (match p.2.und with | .struct _=>true | .array _ _=>true | _=>false))=true->EI ag true=true:=by
       intro l
       induction l with
       | nil=>intro h;cases h
       | cons q l ih=>
         obtain⟨t0,ti0⟩:=q;intro h h';simp only[List.all_cons,Bool.and_eq_true]at h';simp only[jU]at h;cases hb:Nat.beq t t0 with
         | true=>rw[hb]at h;simp only[Option.some.injEq]at h;subst h;exact h'.1
         | false=>rw[hb]at h;exact ih h h'.2
      have:=AJ (hm ht hag);simp only at hf;rw[hf]at this;cases this
     .have hu:=(bZ.get ht).und;have hfs:P.fieldsOf t=fs:=by simp[Program.fieldsOf,hu]
      have hw:∀l:List Cell,o8 tt t (l.map (Cell.den κ))=.agg (l.map (Cell.den κ)).toArray:=fun l=>by
       unfold o8;rw[ht]
      rw[hw,hw];have:=run_equalIn_struct w (D+d) t (cs.map (Cell.den κ)).toArray (ds.map (Cell.den κ)).toArray (by rw[hfs];exact hu) hst;rw[show D+(d+1)=D+d+1 from rfl,this,hfs];exact Oj bZ hag (fun t cs ds bs h=>UF bZ hag d D t cs ds bs h) cs ds fs.toList bs h
    .cases h
   .cases h
theorem agA(bZ:eu P tt){d:Option Nat}{t ps af g op ty mF x y cs ds}bs v(hx:jN env x=some (.g cs))(hy:jN env y=some (.g ds))(hg:P.eqGuardType P.depth ty=false)
 (hag:(tt.all (fun p=>EI p.2.agg (match p.2.und with | .struct _=>true | .array _ _=>true | _=>false)),(jU ty tt).map fun ti=>(match ti.und with | .struct _=>true | _=>false))=(true,some true)) (he:eqT P tt 100 ty cs ds=some bs) (hv:(op=.eql/\vF bs=v)\/(op=.neq/\(!vF bs)=v)) :
 Eff P N n0 fx env its ⟨d,.binOp op ty x y mF,t,ps,af,g⟩ (some (vb v)) its:=fun κ w S a ha=>by
 injection hag with hag1 Ym;have hx':=eD (κ:=κ) hx;have hy':=eD (κ:=κ) hy;have hr:=(UF (κ:=κ) (w:=w) bZ hag1 100 9900 ty cs ds bs he).2;have hw:∀l:List Cell,o8 tt ty (l.map (Cell.den κ))=.agg (l.map (Cell.den κ)).toArray:=fun l=>by
  unfold o8;cases hl:jU ty tt with
  | none=>rw[hl]at Ym;cases Ym
  | some ti=>
    obtain⟨und,_,_,_,_⟩:=ti;rw[hl]at Ym;cases und<;>first|rfl|(simp at Ym)
 rw[hw,hw]at hr;simp only[SV.den]at hx' hy';have hguard:∀o:BinOp,(eqGuard o ty x y (Value.agg (cs.map (Cell.den κ)).toArray) (Value.agg (ds.map (Cell.den κ)).toArray)).run P w=.ok () w:=by
  intro o;unfold eqGuard;cases o<;>simp[hg,Go.program,Sem.run]
 refine .inl ⟨_,w,?_,[],fun z hz=>(by injection hz with hz;subst hz;rfl),by rw[List.append_nil];exact S⟩;rcases hv with⟨rfl,hv⟩|⟨rfl,hv⟩
 .simp only[execOp,ha.ev hx',ha.ev hy',Sem.run_bind,hguard,Result.andThen_ok,binOp,Op.equal,Op.maxDepth,hr,Sem.run_pure];rw[hv];rfl
 .simp only[execOp,ha.ev hx',ha.ev hy',Sem.run_bind,hguard,Result.andThen_ok,binOp,Op.equal,Op.maxDepth,hr,Sem.run_pure];rw[hv];rfl
end
end V
end Go.Proofs.YtbgfhaahhdnogaaGreat
