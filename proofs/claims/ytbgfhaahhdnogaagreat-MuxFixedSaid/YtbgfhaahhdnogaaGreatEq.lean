/- '==' on structs of integers and truth values. -/
import Derived.Test.YtbgfhaahhdnogaaGreatMore
import Derived.Laws.StructEq
namespace Go.Proofs.YtbgfhaahhdnogaaGreat
namespace V
def ug:List Bool→Bool
 | []=>true
 | [b]=>b
 | b::r=>b&&ug r
theorem DY(b:Bool)(r:List Bool):ug (b::r)=(b&&ug r):=by cases r <;> simp[ug]
theorem yh:∀(a b:List Bool),ug (a++b)=(ug a&&ug b)
 | [],b=>by simp[ug]
 | x::a,b=>by rw[List.cons_append,DY,DY,yh a b,Bool.and_assoc]
def QX(P:Program)(tt:TT)(eq:TypeId→List Cell→List Cell→Option (List Bool))(cs ds:List Cell):List Field→Option (List Bool)
 | []=>some []
 | f::fs=>match f.name != "_",jl f.type tt with
   | true,some ti=>(match eq f.type ((cs.drop f.offset).take ti.size) ((ds.drop f.offset).take ti.size),QX P tt eq cs ds fs with
     | some a,some b=>some (a++b)
     | _,_=>none)
   | _,_=>none
def eqT(P:Program)(tt:TT):Nat→TypeId→List Cell→List Cell→Option (List Bool)
 | 0,_,_,_=>none
 | d+1,t,cs,ds=>match jl t tt with
   | some ⟨.int _,_,_,_,_⟩=>(match cs,ds with
     | [.v (.int k a)],[.v (.int k' b)]=>(match keq k k' with
       | true=>some [a==b]
       | false=>none)
     | _,_=>none)
   | some ⟨.bool,_,_,_,_⟩=>(match cs,ds with
     | [.v (.bool a)],[.v (.bool b)]=>some [a==b]
     | _,_=>none)
   | some ⟨.struct fs,_,_,_,_⟩=>(match P.stoodInHeld t with
     | false=>QX P tt (eqT P tt d) cs ds fs.toList
     | true=>none)
   | _=>none
def nS(tt:TT)(t:TypeId)(vs:List Value):Value:=match jl t tt with
 | some ⟨.struct _,_,_,_,_⟩=>.agg vs.toArray
 | _=>(vs[0]?).getD undef
section
variable {P:Program} {N n0:Nat} {fx:Fx} {its aM:List Item} {κ:List Conc} {w:World} {env env':bK} {tt:TT}
theorem Lg(bX:dS P tt){t:TypeId}{ti:TI}(ht:jl t tt=some ti){vs us:List Value}{off:Nat}(hag:ti.agg=(match ti.und with | .struct _=>true | _=>false))(hl:(vs.drop off).take ti.size=us)(hne:ti.agg=false→∃v,us=[v]):(part t vs.toArray off).run P w=.ok (nS tt t us) w:=by
 have hA:=(bX.get ht).agg w
 have hS:=(bX.get ht).size w
 unfold part
 simp only[Sem.run_bind,hA,Result.andThen_ok]
 cases hb:ti.agg with
 | true=>
   simp only[if_true,Sem.run_bind,hS,Result.andThen_ok,Sem.run_pure]
   unfold nS
   rw[ht]
   obtain⟨und,a,sz,z,by'⟩:=ti
   simp only at hb hag hl
   rw[hb]at hag
   cases und <;> simp at hag
   simp only
   congr 2
   apply Array.ext'
   rw[← hl]
   simp[List.extract,Nat.add_sub_cancel_left]
 | false=>
   obtain⟨v,hv⟩:=hne hb
   have hg:vs[off]? = some v:=by
    rw[hv]at hl
    have:=congrArg (·[0]?) hl
    simp only[List.getElem?_take,List.getElem?_drop,Nat.add_zero,List.getElem?_cons_zero]at this
    split at this
    ·exact this
    ·cases this
   simp only[Bool.false_eq_true,if_false]
   have:vs.toArray[off]? = some v:=by simpa using hg
   rw[this]
   unfold nS
   rw[ht]
   obtain⟨und,a,sz,z,by'⟩:=ti
   simp only at hb hag
   rw[hb]at hag
   cases und <;> simp at hag <;> simp[hv]
theorem LW(bX:dS P tt){eq:TypeId→List Cell→List Cell→Option (List Bool)}{D:Nat}(hag:tt.all (fun p=>Cy p.2.agg (match p.2.und with | .struct _=>true | .array _ _=>true | _=>false))=true)
 (heq:∀t cs ds bs,eq t cs ds=some bs→(∀ti,jl t tt=some ti→(∀n e,ti.und≠.array n e)∧(ti.agg=false→∃c d,cs=[c]∧ds=[d]))∧(Op.equalIn D t (nS tt t (cs.map (Cell.den κ))) (nS tt t (ds.map (Cell.den κ)))).run P w=.ok (ug bs) w) (cs ds:List Cell) :
 ∀(fs:List Field) (bs:List Bool),QX P tt eq cs ds fs=some bs→(Op.eqFields D (cs.map (Cell.den κ)).toArray (ds.map (Cell.den κ)).toArray fs).run P w=.ok (ug bs) w
 | [],bs,h=>by
   simp only[QX,Option.some.injEq]at h
   subst h
   simp[Op.eqFields,ug]
 | f::fs,bs,h=>by
   simp only[QX]at h
   split at h
   ·rename_i ti hn ht
    split at h
    ·rename_i a b ha hb
     injection h with h;subst h
     obtain⟨h1,h2⟩:=heq _ _ _ _ ha
     obtain⟨h3,h4⟩:=h1 ti ht
     have hg:ti.agg=(match ti.und with | .struct _=>true | _=>false):=by
      have hm:∀{l:TT},jl f.type l=some ti→l.all (fun p=>Cy p.2.agg (match p.2.und with | .struct _=>true | .array _ _=>true | _=>false))=true→Cy ti.agg (match ti.und with | .struct _=>true | .array _ _=>true | _=>false)=true:=by
       intro l
       induction l with
       | nil=>intro h;cases h
       | cons q l ih=>
         obtain⟨t0,ti0⟩:=q
         intro h h'
         simp only[List.all_cons,Bool.and_eq_true]at h'
         simp only[jl]at h
         cases hb:Nat.beq f.type t0 with
         | true=>rw[hb]at h;simp only[Option.some.injEq]at h;subst h;exact h'.1
         | false=>rw[hb]at h;exact ih h h'.2
      have:=zf (hm ht hag)
      rw[this]
      cases hu:ti.und <;> first | rfl | exact absurd hu (h3 _ _)
     have hn':f.name≠"_":=by simpa using hn
     have p1:=Lg (w:=w) bX ht (vs:=cs.map (Cell.den κ)) (off:=f.offset) hg rfl (fun hf=>by
      obtain⟨c,d,hc,_⟩:=h4 hf
      exact⟨c.den κ,by rw[← List.map_drop,← List.map_take,hc];rfl⟩)
     have p2:=Lg (w:=w) bX ht (vs:=ds.map (Cell.den κ)) (off:=f.offset) hg rfl (fun hf=>by
      obtain⟨c,d,_,hd⟩:=h4 hf
      exact⟨d.den κ,by rw[← List.map_drop,← List.map_take,hd];rfl⟩)
     rw[← List.map_drop,← List.map_take]at p1 p2
     simp only[Op.eqFields,hn',ne_eq,not_false_eq_true,if_true,Sem.run_bind,p1,p2,h2,Result.andThen_ok,yh]
     cases ug a
     ·simp
     ·simpa using LW bX hag heq cs ds fs b hb
    ·cases h
   ·cases h
theorem QW(bX:dS P tt)(hag:tt.all (fun p=>Cy p.2.agg (match p.2.und with | .struct _=>true | .array _ _=>true | _=>false))=true):∀(d D:Nat) (t:TypeId) (cs ds:List Cell) (bs:List Bool),eqT P tt d t cs ds=some bs→
 (∀ti,jl t tt=some ti→(∀n e,ti.und≠.array n e)∧(ti.agg=false→∃c d,cs=[c]∧ds=[d]))∧(Op.equalIn (D+d) t (nS tt t (cs.map (Cell.den κ))) (nS tt t (ds.map (Cell.den κ)))).run P w=.ok (ug bs) w
 | 0,D,t,cs,ds,bs,h=>by cases h
 | d+1,D,t,cs,ds,bs,h=>by
   unfold eqT at h
   split at h
   ·rename_i q _ _ _ _ ht
    split at h
    ·rename_i k a k' b
     split at h
     ·rename_i hk
      have:=tJ hk
      subst this
      injection h with h;subst h
      refine⟨fun ti hti=>?_,?_⟩
      ·rw[ht]at hti
       injection hti with hti
       subst hti
       exact⟨fun n e=>by simp,fun _=>⟨_,_,rfl,rfl⟩⟩
      ·unfold nS
       rw[ht]
       exact run_equalIn_int w (D+d) t k q a b (bX.get ht).und
     ·cases h
    ·cases h
   ·rename_i _ _ _ _ ht
    split at h
    ·rename_i a b
     injection h with h;subst h
     refine⟨fun ti hti=>?_,?_⟩
     ·rw[ht]at hti
      injection hti with hti
      subst hti
      exact⟨fun n e=>by simp,fun _=>⟨_,_,rfl,rfl⟩⟩
     ·unfold nS
      rw[ht]
      exact run_equalIn_bool' w (D+d) t a b (bX.get ht).und
    ·cases h
   ·rename_i fs ag sz0 z0 by0 ht
    split at h
    ·rename_i hst
     refine⟨fun ti hti=>?_,?_⟩
     ·rw[ht]at hti
      injection hti with hti
      subst hti
      refine⟨fun n e=>by simp,fun hf=>?_⟩
      exfalso
      have hm:∀{l:TT},jl t l=some ⟨.struct fs,ag,sz0,z0,by0⟩→l.all (fun p=>Cy p.2.agg (match p.2.und with | .struct _=>true | .array _ _=>true | _=>false))=true→Cy ag true=true:=by
       intro l
       induction l with
       | nil=>intro h;cases h
       | cons q l ih=>
         obtain⟨t0,ti0⟩:=q
         intro h h'
         simp only[List.all_cons,Bool.and_eq_true]at h'
         simp only[jl]at h
         cases hb:Nat.beq t t0 with
         | true=>rw[hb]at h;simp only[Option.some.injEq]at h;subst h;exact h'.1
         | false=>rw[hb]at h;exact ih h h'.2
      have:=zf (hm ht hag)
      simp only at hf
      rw[hf]at this
      cases this
     ·have hu:=(bX.get ht).und
      have hfs:P.fieldsOf t=fs:=by simp[Program.fieldsOf,hu]
      have hw:∀l:List Cell,nS tt t (l.map (Cell.den κ))=.agg (l.map (Cell.den κ)).toArray:=fun l=>by
       unfold nS
       rw[ht]
      rw[hw,hw]
      have:=run_equalIn_struct w (D+d) t (cs.map (Cell.den κ)).toArray (ds.map (Cell.den κ)).toArray (by rw[hfs];exact hu) hst
      rw[show D+(d+1)=D+d+1 from rfl,this,hfs]
      exact LW bX hag (fun t cs ds bs h=>QW bX hag d D t cs ds bs h) cs ds fs.toList bs h
    ·cases h
   ·cases h
theorem adp(bX:dS P tt){d:Option Nat}{t:TypeId}{ps:String}{af:Array Edge}{g:Option (Nat×Bool)}{op:BinOp}{ty lq:TypeId}{x y:Operand}{cs ds:List Cell}(bs:List Bool)(v:Bool)(hx:jd env x=some (.g cs))(hy:jd env y=some (.g ds))(hg:P.eqGuardType P.depth ty=false)
 (hag:(tt.all (fun p=>Cy p.2.agg (match p.2.und with | .struct _=>true | .array _ _=>true | _=>false)),(jl ty tt).map fun ti=>(match ti.und with | .struct _=>true | _=>false))=(true,some true)) (he:eqT P tt 100 ty cs ds=some bs) (hv:(op=.eql∧ug bs=v)∨(op=.neq∧(!ug bs)=v)) :
 Eff P N n0 fx env its ⟨d,.binOp op ty x y lq,t,ps,af,g⟩ (some (vb v)) its:=fun κ w S a ha=>by
 injection hag with hag1 U9
 have hx':=eD (κ:=κ) hx
 have hy':=eD (κ:=κ) hy
 have hr:=(QW (κ:=κ) (w:=w) bX hag1 100 9900 ty cs ds bs he).2
 have hw:∀l:List Cell,nS tt ty (l.map (Cell.den κ))=.agg (l.map (Cell.den κ)).toArray:=fun l=>by
  unfold nS
  cases hl:jl ty tt with
  | none=>rw[hl]at U9;cases U9
  | some ti=>
    obtain⟨und,_,_,_,_⟩:=ti
    rw[hl]at U9
    cases und <;> first | rfl | (simp at U9)
 rw[hw,hw]at hr
 simp only[SV.den]at hx' hy'
 have hguard:∀o:BinOp,(eqGuard o ty x y (Value.agg (cs.map (Cell.den κ)).toArray) (Value.agg (ds.map (Cell.den κ)).toArray)).run P w=.ok () w:=by
  intro o
  unfold eqGuard
  cases o <;> simp[hg,Go.program,Sem.run]
 refine .inl ⟨_,w,?_,[],fun z hz=>(by injection hz with hz;subst hz;rfl),by rw[List.append_nil];exact S⟩
 rcases hv with⟨rfl,hv⟩ | ⟨rfl,hv⟩
 ·simp only[execOp,ha.ev hx',ha.ev hy',Sem.run_bind,hguard,Result.andThen_ok,binOp,Op.equal,Op.maxDepth,hr,Sem.run_pure]
  rw[hv]
  rfl
 ·simp only[execOp,ha.ev hx',ha.ev hy',Sem.run_bind,hguard,Result.andThen_ok,binOp,Op.equal,Op.maxDepth,hr,Sem.run_pure]
  rw[hv]
  rfl
end
end V
end Go.Proofs.YtbgfhaahhdnogaaGreat
