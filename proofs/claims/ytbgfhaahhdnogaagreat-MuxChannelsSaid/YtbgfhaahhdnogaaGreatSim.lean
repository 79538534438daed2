/- What operations without a choice do, computed on description -/
import Derived.Test.YtbgfhaahhdnogaaGreatSym
namespace Go.Proofs.YtbgfhaahhdnogaaGreat
namespace V
structure TI where
 und:TypeDesc
 agg:Bool
 size:Nat
 zero:Option Value
 bytes:Nat
abbrev TT:=List (Nat×TI)
def jU(t:Nat):TT->Option TI
 | []=>none
 | (d,v)::l=>match Nat.beq t d with
  | true=>some v
  | false=>jU t l
structure TOk(P:Program)(t:TypeId)(ti:TI):Prop where
 und:P.underlying t=some ti.und
 agg:∀w,(isAgg t).run P w=.ok ti.agg w
 size:∀w,(sizeOf t).run P w=.ok ti.size w
 info:∃i z,P.info? t=some i/\i.size=ti.size/\i.bytes=ti.bytes/\i.zero=some z/\z.cells.size=ti.size
 zero:∀z,ti.zero=some z->∀w,(zeroValue t).run P w=.ok z w
def eu(P:Program)(tt:TT):Prop:=∀p∈tt,TOk P p.1 p.2
theorem eu.get{P t ti}:∀{tt},eu P tt->jU t tt=some ti->TOk P t ti
 | (d,v)::l,h,h1=>by
  simp only[jU]at h1;cases hb:Nat.beq t d with
  | true=>
    rw[hb]at h1;simp only[Option.some.injEq]at h1;rw[Nat.eq_of_beq_eq_true hb,<-h1];exact h _ (List.mem_cons_self ..)
  | false=>
    rw[hb]at h1;exact eu.get (fun p hp=>h p (List.mem_cons_of_mem _ hp)) h1
def wr(k:IntKind)(x:Int):Int:=match k with
 | .i64=>aL x
 | .u64=>wu64 x
 | .u32=>wu32 x
 | .u16=>kW x
 | .u8=>lg x
 | k=>k.wrap x
theorem I7 k x:k.wrap x=wr k x:=by
 cases k
 case i64=>exact wrap_i64 x
 all_goals rfl
def keq:IntKind->IntKind->Bool
 | .i8,.i8=>true
 | .i16,.i16=>true
 | .i32,.i32=>true
 | .i64,.i64=>true
 | .u8,.u8=>true
 | .u16,.u16=>true
 | .u32,.u32=>true
 | .u64,.u64=>true
 | _,_=>false
theorem uZ:∀{k k'},keq k k'=true->k=k':=by intro k k' h;cases k<;>cases k'<;>first|rfl|cases h
def ac7(k:IntKind)(m n:Int):BinOp->Option SV
 | .add=>some (vi k (wr k (m+n)))
 | .sub=>some (vi k (wr k (m-n)))
 | .mul=>some (vi k (wr k (m*n)))
 | .and=>some (vi k (acu k m n))
 | .or=>some (vi k (vK k m n))
 | .xor=>some (vi k (acn k m n))
 | .andNot=>some (vi k (Ic k m n))
 | .eql=>some (vb (m==n))
 | .neq=>some (vb (m != n))
 | .lss=>some (vb (decide (m<n)))
 | .leq=>some (vb (decide (m<=n)))
 | .gtr=>some (vb (decide (m>n)))
 | .geq=>some (vb (decide (m>=n)))
 | _=>none
def Qb(its:List Item):Cell->Bool
 | .v x=>x.oneCell'
 | .p i _=>match its[i]? with
   | some (.k ..)=>true
   | some (.elt ..)=>true
   | _=>false
 | .s i=>match its[i]? with
   | some (@Item.o _ _ _ _ _ _)=>true
   | some (@Item.d _ _ _ _ _)=>true
   | _=>false
 | .t i=>match its[i]? with
   | some (.str _)=>true
   | _=>false
 | .m i=>match its[i]? with
   | some (@Item.mp _ _ _ _ _ _)=>true
   | _=>false
 | .w _ i _=>match its[i]? with
   | some (.k ..)=>true
   | _=>false
def SV.cells(its:List Item):SV->Option (List Cell)
 | .c x=>match Qb its x with
   | true=>some [x]
   | false=>none
 | .g l=>some l
 | _=>none
def zy(its:List Item)(pl:Nat->Option (Nat×Nat))(cs:List Cell):List (Nat×SV)->Option (List Cell)
 | []=>some cs
 | (i,x)::r=>match pl i,x.cells its with
  | some (off,n),some c=>(match Nat.beq c.length n&&Nat.ble (off+c.length) cs.length with
    | true=>zy its pl (cs.take off++c++cs.drop (off+c.length)) r
    | false=>none)
  | _,_=>none
def plT(tt:TT)(fs:List Field):Option (List (Nat×Nat)):=fs.mapM fun f=>(jU f.type tt).map fun i=>(f.offset,i.size)
def uU(E:Operand->Option SV)(ps:List (Nat×Operand)):Option (List (Nat×SV)):=ps.mapM fun p=>(E p.2).map fun v=>(p.1,v)
def Jl(its:List Item):Cell->Option (List Int)
 | .t i=>match its[i]? with
   | some (.str s)=>some s
   | _=>none
 | .v (.string s)=>some (strOf s)
 | _=>none
def cellOf:SV->Option Cell
 | .c x=>some x
 | _=>none
def TQ(its:List Item)(ld:Nat->Bool)(i o:Nat)(agg:Bool)(n:Nat):Option SV:=
 match ld i,its[i]? with
 | true,some (.k _ cs)=>(match agg with
   | true=>(match Nat.beq ((cs.drop o).take n).length n with
     | true=>some (.g ((cs.drop o).take n))
     | false=>none)
   | false=>(cs[o]?).map .c)
 | true,some (.elt _ _ cs)=>(match agg with
   | true=>(match Nat.beq ((cs.drop o).take n).length n with
     | true=>some (.g ((cs.drop o).take n))
     | false=>none)
   | false=>(cs[o]?).map .c)
 | _,_=>none
def uR(tt:TT)(ld:Nat->Bool)(its:List Item)(E:Operand->Option SV):Op->Option SV
 | .move x=>E x
 | .assign x=>E x
 | .binOp op ty x y _=>match E x,E y with
   | some (.c (.v (.int k m))),some (.c (.v (.int k' n)))=>(match keq k k' with
     | true=>ac7 k m n op
     | false=>none)
   | some (.c (.v (.bool m))),some (.c (.v (.bool n)))=>(match jU ty tt,op with
     | some ⟨.bool,_,_,_,_⟩,.eql=>some (vb (m==n))
     | some ⟨.bool,_,_,_,_⟩,.neq=>some (vb (m != n))
     | _,_=>none)
   | some (.c a),some (.c b)=>(match Jl its a,Jl its b,op with
     | some s,some u,.eql=>some (vb (s==u))
     | some s,some u,.neq=>some (vb (s != u))
     | _,_,_=>none)
   | _,_=>none
 | .unOp .not _ x=>match E x with
   | some (.c (.v (.bool b)))=>some (vb (!b))
   | _=>none
 | .unOp .neg _ x=>match E x with
   | some (.c (.v (.int k m)))=>some (vi k (wr k (0-m)))
   | _=>none
 | .convert src dst x=>match E x,jU src tt,jU dst tt with
   | some (.c (.v (.int _ m))),some _,some ⟨.int k',_,_,_,_⟩=>some (vi k' (wr k' m))
   | _,_,_=>none
 | .extract x i=>match E x with
   | some (.u l)=>(match l[i]? with
     | some (.inl c)=>some (.c c)
     | some (.inr l)=>some (.g l)
     | none=>none)
   | _=>none
 | .nilCheck x=>match E x with
   | some (.c (.p i o))=>(match its[i]? with
     | some (.k ..)=>some (.c (.p i o))
     | some .F6=>some (.c (.p i o))
     | some (.elt ..)=>some (.c (.p i o))
     | _=>none)
   | _=>none
 | .fieldAddr s x f=>match E x,jU s tt with
   | some (.c (.p i o)),some ⟨.struct fs,_,_,_,_⟩=>(match its[i]?,fs[f]? with
     | some (.k ..),some fd=>(match jU fd.type tt with
       | some ti=>(match Nat.beq ti.size 0 with
         | false=>some (.c (.p i (o+fd.offset)))
         | true=>none)
       | none=>none)
     | some .F6,some fd=>(match jU fd.type tt with
       | some ti=>(match Nat.beq ti.size 0 with
         | false=>some (.c (.p i (o+fd.offset)))
         | true=>none)
       | none=>none)
     | some (.elt ..),some fd=>(match jU fd.type tt with
       | some ti=>(match Nat.beq ti.size 0 with
         | false=>some (.c (.p i (o+fd.offset)))
         | true=>none)
       | none=>none)
     | _,_=>none)
   | _,_=>none
 | .indexAddr ty x y=>match E x,E y,jU ty tt with
   | some (.c (.p i o)),some (.c (.v (.int _ iv))),some ⟨.array n e,_,_,_,_⟩=>(match jU e tt,decide (0<=iv)&&decide (iv<n)with
     | some te,true=>(match its[i]? with
       | some (.k ..)=>some (.c (.p i (o+iv.toNat*te.size)))
       | some .F6=>some (.c (.p i (o+iv.toNat*te.size)))
       | _=>none)
     | _,_=>none)
   | _,_,_=>none
 | .load ty x=>match E x,jU ty tt with
   | some (.c (.p i o)),some ti=>TQ its ld i o ti.agg ti.size
   | _,_=>none
 | .field s x f=>match E x,jU s tt with
   | some (.g cs),some ⟨.struct fs,_,_,_,_⟩=>(match fs[f]? with
     | some fd=>(match jU fd.type tt with
       | some ⟨_,true,n,_,_⟩=>some (.g ((cs.drop fd.offset).take n))
       | some ⟨_,false,_,_,_⟩=>(cs[fd.offset]?).map .c
       | none=>none)
     | none=>none)
   | _,_=>none
 | .build s ps=>match jU s tt,uU E ps.toList with
   | some ⟨.struct fs,_,_,some z,_⟩,some xs=>(match plT tt fs.toList with
     | some pl=>(zy its (pl[·]?) (z.cells.toList.map .v) xs).map .g
     | none=>none)
   | some ⟨.array _ e,_,_,some z,_⟩,some xs=>(match jU e tt with
     | some ti=>(zy its (fun i=>some (i*ti.size,ti.size)) (z.cells.toList.map .v) xs).map .g
     | none=>none)
   | _,_=>none
 | .call ⟨.builtin .len,as,ts⟩=>match as.toList,ts.toList with
   | [x],[ty]=>(match E x,jU ty tt with
     | some (.c (.v (.slice none 0 0))),some ⟨.slice _,_,_,_,_⟩=>some (vi .i64 0)
     | some (.c (.s i)),some ⟨.slice _,_,_,_,_⟩=>(match its[i]? with
       | some (@Item.o _ _ _ _ _ l)=>some (vi .i64 (len l))
       | some (@Item.d _ _ _ _ l)=>some (vi .i64 (len l))
       | _=>none)
     | some (.c c),some ⟨.string,_,_,_,_⟩=>(Jl its c).map fun s=>vi .i64 (len s)
     | _,_=>none)
   | _,_=>none
 | .call ⟨.builtin .min,as,_⟩=>match as.toList with
   | [x,y]=>(match E x,E y with
     | some (.c (.v (.int k m))),some (.c (.v (.int k' n)))=>(match keq k k' with
       | true=>some (vi k (cO m n))
       | false=>none)
     | _,_=>none)
   | _=>none
 | .call ⟨.builtin .max,as,_⟩=>match as.toList with
   | [x,y]=>(match E x,E y with
     | some (.c (.v (.int k m))),some (.c (.v (.int k' n)))=>(match keq k k' with
       | true=>some (vi k (imax m n))
       | false=>none)
     | _,_=>none)
   | _=>none
 | .makeFunc (.func f) first cap=>match first.toList,cap.toList.mapM E with
   | [],some xs=>(xs.mapM cellOf).map (.f f)
   | _,_=>none
 | _=>none
section
variable {P:Program} {N n0:Nat} {fx:Fx} {its:List Item} {κ:List Conc} {w:World} {tt:TT} {ld:Nat->Bool} {E:Operand->Option SV} {l:Env}
theorem YZ(ad:Addr):ad.add 0=ad:=by simp[Addr.add]
theorem tZ(S:zJ its κ w){c s}(h:Jl its c=some s):∃b,c.den κ=.string b/\strOf b=s:=by
 cases c with
 | t i=>
   simp only[Jl]at h;split at h
   .rename_i s' he;injection h with h;subst h;obtain⟨c,_,h1,h2⟩:=S _ _ he;cases c with
    | s x=>exact⟨x,by simp[Cell.den,h1],h2⟩
    | _=>exact h2.elim
   .cases h
 | v x=>
   cases x with
   | string b=>simp only[Jl,Option.some.injEq]at h;exact⟨b,rfl,h⟩
   | _=>cases h
 | _=>cases h
theorem uT(S:zJ its κ w){i o it}(h:its[i]?=some it)(hk:(∃T cs,it=.k T cs)\/(∃s ow cs,it=.elt s ow cs)\/it=.F6) :
 ∃ad:Addr,(Cell.p i o).den κ=.pointer (some (ad.add o))/\∀m,(Cell.p i m).den κ=.pointer (some (ad.add m)):=by
 obtain⟨c,_,h1,h2⟩:=S _ _ h;rcases hk with⟨T,cs,rfl⟩|⟨s,ow,cs,rfl⟩|rfl
 .cases c with
  | b n=>exact⟨⟨n,0,none⟩,by simp[Cell.den,h1,add_lit],fun m=>by simp[Cell.den,h1,add_lit]⟩
  | _=>exact h2.elim
 .cases c with
  | a ad=>exact⟨ad,by simp[Cell.den,h1],fun m=>by simp[Cell.den,h1]⟩
  | _=>cases s<;>exact h2.elim
 .cases c with
  | b n=>exact⟨⟨n,0,none⟩,by simp[Cell.den,h1,add_lit],fun m=>by simp[Cell.den,h1,add_lit]⟩
  | _=>exact h2.elim
theorem TP(S:zJ its κ w){i o ti ty}(ht:TOk P ty ti){v x}(hx:ev l x=some ((Cell.p i o).den κ))(h:TQ its ld i o ti.agg ti.size=some v){d:Option Nat}{t ps af g} :
 dQ P N l ⟨d,.load ty x,t,ps,af,g⟩ w (v.den κ):=by
 unfold TQ at h;split at h
 .rename_i T cs _ he;obtain⟨c,_,h1,h2⟩:=S _ _ he;cases c with
  | b n=>
    simp only[Cell.den,h1]at hx;simp only[OK]at h2;split at h
    .rename_i ha;split at h
     .rename_i hl;injection h with h;subst h;exact Sq (by rw[<-ha];exact ht.agg) ht.size hx h2 rfl (by have:=Nat.eq_of_beq_eq_true hl;simpa using this) |> fun q=>by simpa [SV.den]using q
     .cases h
    .rename_i ha;cases ho:cs[o]? with
     | none=>simp[ho]at h
     | some c=>
       simp only[ho,Option.map_some,Option.some.injEq]at h;subst h;exact JB (by rw[<-ha];exact ht.agg) hx h2 (by simp[ho,SV.den])
  | _=>exact h2.elim
 .rename_i src ow cs _ he;obtain⟨c,_,h1,h2⟩:=S _ _ he;cases c with
  | a ad=>
    simp only[Cell.den,h1]at hx;have h3:∃U,At U w ad (cs.map (Cell.den κ)):=by
     cases src with
     | none=>exact⟨_,h2.1⟩
     | some q=>exact⟨_,h2.1⟩
    obtain⟨U,h3⟩:=h3;split at h
    .rename_i ha;split at h
     .rename_i hl;injection h with h;subst h;exact Fh (by rw[<-ha];exact ht.agg) ht.size hx h3 rfl (by have:=Nat.eq_of_beq_eq_true hl;simpa using this) |> fun q=>by simpa [SV.den]using q
     .cases h
    .rename_i ha;cases ho:cs[o]? with
     | none=>simp[ho]at h
     | some c=>
       simp only[ho,Option.map_some,Option.some.injEq]at h;subst h;exact Ph (by rw[<-ha];exact ht.agg) hx h3 (by simp[ho,SV.den])
  | _=>cases src<;>exact h2.elim
 .cases h
theorem Me(S:zJ its κ w){c}(h:Qb its c=true):(c.den κ).oneCell'=true:=by
 cases c with
 | v x=>exact h
 | w fn i o=>rfl
 | p i o=>
   simp only[Qb]at h;split at h
   .rename_i he;obtain⟨ad,h1,_⟩:=uT S (o:=o) he (.inl ⟨_,_,rfl⟩);rw[h1];rfl
   .rename_i he;obtain⟨ad,h1,_⟩:=uT S (o:=o) he (.inr (.inl ⟨_,_,_,rfl⟩));rw[h1];rfl
   .cases h
 | s i=>
   simp only[Qb]at h;split at h
   .rename_i he;obtain⟨c,_,h1,h2⟩:=S _ _ he;cases c with
    | r A n c=>simp[Cell.den,h1,Value.oneCell']
    | _=>exact h2.elim
   .rename_i he;obtain⟨c,_,h1,h2⟩:=S _ _ he;cases c with
    | r A n c=>simp[Cell.den,h1,Value.oneCell']
    | _=>exact h2.elim
   .cases h
 | m i=>
   simp only[Qb]at h;split at h
   .rename_i ow _ he;obtain⟨c,_,h1,h2⟩:=S _ _ he;cases c with
    | m b=>simp[Cell.den,h1,Value.oneCell']
    | _=>cases ow<;>exact h2.elim
   .cases h
 | t i=>
   simp only[Qb]at h;split at h
   .rename_i he;obtain⟨c,_,h1,h2⟩:=S _ _ he;cases c with
    | s x=>simp[Cell.den,h1,Value.oneCell']
    | _=>exact h2.elim
   .cases h
theorem lK(S:zJ its κ w){x:SV}{c}(h:x.cells its=some c):(x.den κ).cells=(c.map (Cell.den κ)).toArray:=by
 cases x with
 | c y=>
   simp only[SV.cells]at h;split at h
   .rename_i ho;injection h with h;subst h;have:=Me S ho;simp only[SV.den];cases hy:y.den κ with
    | agg vs=>rw[hy]at this;cases this
    | _=>simp[Value.cells,hy]
   .cases h
 | g l=>
   simp only[SV.cells,Option.some.injEq]at h;subst h;rfl
 | _=>cases h
theorem Dl(S:zJ its κ w){pl}:∀xs cs r,zy its pl cs xs=some r->Instr.fill pl (cs.map (Cell.den κ)).toArray (xs.map fun p=>(p.1,p.2.den κ))=some (r.map (Cell.den κ)).toArray
 | [],cs,r,h=>by
   simp only[zy,Option.some.injEq]at h;subst h;rfl
 | (i,x)::xs,cs,r,h=>by
  simp only[zy]at h;split at h
  .rename_i off n c hp hc;split at h
   .rename_i hb;simp only[Bool.and_eq_true,Nat.beq_eq,Nat.ble_eq]at hb;have hd:=lK S hc;have ih:=Dl S xs _ r h;have hp2:=Fw (c.map (Cell.den κ)) 0 off (cs.map (Cell.den κ)).toArray (by simp;omega);have hzi:(x.den κ).cells.zipIdx.foldl (fun cs (c,j)=>cs.setIfInBounds (off+j) c) (cs.map (Cell.den κ)).toArray=((c.map (Cell.den κ)).zipIdx 0).foldl (fun cs (x:Value×Nat)=>cs.setIfInBounds (off+x.2) x.1) (cs.map (Cell.den κ)).toArray:=by
     rw[hd,<-Array.foldl_toList,Array.toList_zipIdx]
    simp only[List.map_cons,Instr.fill,hp];rw[if_neg (by simp[hd,hb.1];omega),<-ih,hzi];congr 1;apply Array.ext';rw[hp2];simp[List.map_append,List.map_take,List.map_drop]
   .cases h
  .cases h
theorem Tp(bZ:eu P tt):∀fs {pl},plT tt fs=some pl->M8 P fs=some pl
 | [],pl,h=>by simpa [plT,M8]using h
 | f::fs,pl,h=>by
   simp only[plT,List.mapM_cons]at h;cases hf:jU f.type tt with
   | none=>simp[hf]at h
   | some ti=>
     cases hr:plT tt fs with
     | none=>
       unfold plT at hr;simp[hf,hr]at h
     | some q=>
       have h2:=Tp bZ fs hr;unfold plT at hr;simp[hf,hr]at h;subst h;unfold M8 at h2 |-;obtain⟨info,z,hi,h3,_⟩:=(bZ.get hf).info;simp[List.mapM_cons,hi,h2,h3]
theorem yD(hE:∀x v,E x=some v->ev l x=some (v.den κ)):∀ps {xs},uU E ps=some xs->ps.mapM (fun p=>(ev l p.2).map fun v=>(p.1,v))=some (xs.map fun p=>(p.1,p.2.den κ))
 | [],xs,h=>by simp[uU]at h;subst h;rfl
 | p::ps,xs,h=>by
   simp only[uU,List.mapM_cons]at h;cases hp:E p.2 with
   | none=>simp[hp]at h
   | some v=>
     cases hr:uU E ps with
     | none=>
       unfold uU at hr;simp[hp,hr]at h
     | some q=>
       have ih:=yD hE ps hr;unfold uU at hr;simp[hp,hr]at h;subst h;simp[List.mapM_cons,hE _ _ hp,ih]
theorem NT(hE:∀x v,E x=some v->ev l x=some (v.den κ)):∀(ps:List Operand) {xs},ps.mapM E=some xs->ps.mapM (ev l)=some (xs.map (SV.den κ))
 | [],xs,h=>by simp at h;subst h;rfl
 | p::ps,xs,h=>by
   simp only[List.mapM_cons]at h;cases hp:E p with
   | none=>simp[hp]at h
   | some v=>
     cases hr:ps.mapM E with
     | none=>simp[hp,hr]at h
     | some q=>
       simp[hp,hr]at h;subst h;simp[List.mapM_cons,hE _ _ hp,NT hE ps hr]
end
section
variable {P:Program} {N n0:Nat} {fx:Fx} {env:bP} {its:List Item} {κ:List Conc} {w:World} {tt:TT} {ld:Nat->Bool} {E:Operand->Option SV} {l:Env}
variable {d:Option Nat} {t:TypeId} {ps:String} {af:Array Edge} {g:Option (Nat×Bool)}
theorem YQ{k m n op ty mF x y v}(hx:ev l x=some (.int k m))(hy:ev l y=some (.int k n))(h:ac7 k m n op=some v):dQ P N l ⟨d,.binOp op ty x y mF,t,ps,af,g⟩ w (v.den κ):=by
 cases op<;>simp only[ac7,Option.some.injEq,reduceCtorEq]at h<;>subst h
 .exact abx hx hy (I7 k _)
 .exact abd hx hy (I7 k _)
 .exact abm hx hy (I7 k _)
 .exact abw hx hy
 .exact aeu hx hy
 .exact abb hx hy
 .exact Pq hx hy
 .exact abu hx hy
 .exact abk hx hy
 .exact abp hx hy
 .exact abq hx hy
 .exact abr hx hy
 .exact abt hx hy
theorem Vr(bZ:eu P tt)(S:zJ its κ w)(hE:∀x v,E x=some v->ev l x=some (v.den κ)){op ty mF x y v}(h:uR tt ld its E (.binOp op ty x y mF)=some v):dQ P N l ⟨d,.binOp op ty x y mF,t,ps,af,g⟩ w (v.den κ):=by
 simp only[uR]at h;split at h
 .rename_i k m k' n hx hy;split at h
  .rename_i hk;have:=uZ hk;subst this;exact YQ (hE _ _ hx) (hE _ _ hy) h
  .cases h
 .rename_i m n hx hy;split at h
  .rename_i ht;injection h with h;subst h;exact Xi (bZ.get ht).und (hE _ _ hx) (hE _ _ hy)
  .rename_i ht;injection h with h;subst h;exact Xe (bZ.get ht).und (hE _ _ hx) (hE _ _ hy)
  .cases h
 .rename_i a b _ _ hx hy;split at h
  .rename_i s u hs hu;injection h with h;subst h;obtain⟨b1,h1,h2⟩:=tZ S hs;obtain⟨b2,h3,h4⟩:=tZ S hu;have h5:=hE _ _ hx;have h6:=hE _ _ hy;simp only[SV.den,h1,h3]at h5 h6;exact Pn h2 h4 h5 h6
  .rename_i s u hs hu;injection h with h;subst h;obtain⟨b1,h1,h2⟩:=tZ S hs;obtain⟨b2,h3,h4⟩:=tZ S hu;have h5:=hE _ _ hx;have h6:=hE _ _ hy;simp only[SV.den,h1,h3]at h5 h6;exact Pg h2 h4 h5 h6
  .cases h
 .cases h
theorem Uz(bZ:eu P tt)(hE:∀x v,E x=some v->ev l x=some (v.den κ)){s f x v}(h:uR tt ld its E (.field s x f)=some v):dQ P N l ⟨d,.field s x f,t,ps,af,g⟩ w (v.den κ):=by
 simp only[uR]at h;split at h
 .rename_i cs fs _ _ _ _ hx ht;split at h
  .rename_i fd hf;have hu:=(bZ.get ht).und;split at h
   .rename_i u n z by' hti;injection h with h;subst h;have:=Pk (N:=N) (w:=w) (d:=d) (t:=t) (ps:=ps) (af:=af) (g:=g) hu hf (bZ.get hti).agg (bZ.get hti).size (hE _ _ hx) rfl;simpa [SV.den,List.map_take,List.map_drop]using this
   .rename_i u n z by' hti;cases hc:cs[fd.offset]? with
    | none=>simp[hc]at h
    | some c=>
      simp only[hc,Option.map_some,Option.some.injEq]at h;subst h;exact Pm hu hf (bZ.get hti).agg (hE _ _ hx) (by simp[hc,SV.den])
   .cases h
  .cases h
 .cases h
theorem Vo(bZ:eu P tt)(S:zJ its κ w)(hE:∀x v,E x=some v->ev l x=some (v.den κ)){s as v}(h:uR tt ld its E (.build s as)=some v):dQ P N l ⟨d,.build s as,t,ps,af,g⟩ w (v.den κ):=by
 have hid:∀z:Value,(z.cells.toList.map Cell.v).map (Cell.den κ)=z.cells.toList:=fun z=>by
  rw[List.map_map,show(Cell.den κ ∘ Cell.v)=id from rfl,List.map_id]
 obtain⟨as⟩:=as;simp only[uR]at h;split at h
 .rename_i fs _ _ z _ xs ht hp;split at h
  .rename_i pl hpl;cases hc:zy its (pl[·]?) (z.cells.toList.map .v) xs with
   | none=>simp[hc]at h
   | some r=>
     simp only[hc,Option.map_some,Option.some.injEq]at h;subst h;have h1:=Dl S xs _ r hc;rw[hid]at h1;obtain⟨fs⟩:=fs;exact Sr ((bZ.get ht).zero z rfl) (bZ.get ht).und (Tp bZ fs hpl) (yD hE as hp) (by simpa using h1)
  .cases h
 .rename_i n e _ _ z _ xs ht hp;split at h
  .rename_i ti hti;cases hc:zy its (fun i=>some (i*ti.size,ti.size)) (z.cells.toList.map .v) xs with
   | none=>simp[hc]at h
   | some r=>
     simp only[hc,Option.map_some,Option.some.injEq]at h;subst h;have h1:=Dl S xs _ r hc;rw[hid]at h1;exact JC ((bZ.get ht).zero z rfl) (bZ.get ht).und (bZ.get hti).size (yD hE as hp) (by simpa using h1)
  .cases h
 .cases h
theorem Ih(bZ:eu P tt)(S:zJ its κ w)(hE:∀x v,E x=some v->ev l x=some (v.den κ)){s f x v}(h:uR tt ld its E (.fieldAddr s x f)=some v):dQ P N l ⟨d,.fieldAddr s x f,t,ps,af,g⟩ w (v.den κ):=by
 have key:∀{i o:Nat} {it:Item} {fs:Array Field} {fd:Field} {ti:TI} {a:Bool} {n by':Nat} {z:Option Value},E x=some (.c (.p i o))->its[i]?=some it->((∃T cs,it=.k T cs)\/(∃s ow cs,it=.elt s ow cs)\/it=.F6)->jU s tt=some ⟨.struct fs,a,n,z,by'⟩->fs[f]?=some fd->jU fd.type tt=some ti->Nat.beq ti.size 0=false->
  dQ P N l ⟨d,.fieldAddr s x f,t,ps,af,g⟩ w ((Cell.p i (o+fd.offset)).den κ):=by
  intro i o it fs fd ti a n by' z hx hi hk hs hf ht h0;obtain⟨ad,h1,h2⟩:=uT S (o:=o) hi hk;have h3:=hE _ _ hx;simp only[SV.den,h1]at h3;rw[h2];obtain⟨info,z',EF,hi,_⟩:=(bZ.get ht).info;refine wu (Dm (bZ.get hs).und hf EF (fun e=>?_) rfl) h3 (add_add _ _ _);rw[<-hi,e]at h0;cases h0
 simp only[uR]at h;split at h
 .rename_i i o fs _ _ _ _ hx ht;split at h
  .rename_i Ty cs fd hi hf;split at h
   .rename_i ti hti;split at h
    .rename_i h0;injection h with h;subst h;exact key hx hi (.inl ⟨_,_,rfl⟩) ht hf hti h0
    .cases h
   .cases h
  .rename_i fd hi hf;split at h
   .rename_i ti hti;split at h
    .rename_i h0;injection h with h;subst h;exact key hx hi (.inr (.inr rfl)) ht hf hti h0
    .cases h
   .cases h
  .rename_i Ty ow cs fd hi hf;split at h
   .rename_i ti hti;split at h
    .rename_i h0;injection h with h;subst h;exact key hx hi (.inr (.inl ⟨_,_,_,rfl⟩)) ht hf hti h0
    .cases h
   .cases h
  .cases h
 .cases h
theorem abT(bZ:eu P tt)(S:zJ its κ w)(hE:∀x v,E x=some v->ev l x=some (v.den κ)){as ts v}(h:uR tt ld its E (.call ⟨.builtin .len,as,ts⟩)=some v):dQ P N l ⟨d,.call ⟨.builtin .len,as,ts⟩,t,ps,af,g⟩ w (v.den κ):=by
 obtain⟨as⟩:=as;obtain⟨ts⟩:=ts;simp only[uR]at h;split at h
 .rename_i x ty;split at h
  .rename_i e _ _ _ _ hx ht;injection h with h;subst h;exact LK (dt:=([]:List Unit)) (bZ.get ht).und (hE _ _ hx)
  .rename_i i e _ _ _ _ hx ht;split at h
   .rename_i sz E' R _ l' hi;injection h with h;subst h;obtain⟨c,_,h1,h2⟩:=S _ _ hi;cases c with
    | r A n c=>
      have h3:=hE _ _ hx;simp only[SV.den,Cell.den,h1]at h3;rw[h2.1]at h3;exact LK (bZ.get ht).und h3
    | _=>exact h2.elim
   .rename_i sz R _ l' hi;injection h with h;subst h;obtain⟨c,_,h1,h2⟩:=S _ _ hi;cases c with
    | r A n c=>
      have h3:=hE _ _ hx;simp only[SV.den,Cell.den,h1]at h3;rw[h2.1]at h3;exact LK (bZ.get ht).und h3
    | _=>exact h2.elim
   .cases h
  .rename_i c _ _ _ _ hx ht;cases hs:Jl its c with
   | none=>simp[hs]at h
   | some s=>
     simp only[hs,Option.map_some,Option.some.injEq]at h;subst h;obtain⟨b,h1,h2⟩:=tZ S hs;have h3:=hE _ _ hx;simp only[SV.den,h1]at h3;subst h2;exact Xg (bZ.get ht).und h3
  .cases h
 .cases h
theorem FJ(hE:∀x v,E x=some v->ev l x=some (v.den κ)){as ts v}:(uR tt ld its E (.call ⟨.builtin .min,as,ts⟩)=some v->dQ P N l ⟨d,.call ⟨.builtin .min,as,ts⟩,t,ps,af,g⟩ w (v.den κ))/\(uR tt ld its E (.call ⟨.builtin .max,as,ts⟩)=some v->dQ P N l ⟨d,.call ⟨.builtin .max,as,ts⟩,t,ps,af,g⟩ w (v.den κ)):=by
 obtain⟨as⟩:=as;constructor
 .intro h;simp only[uR]at h;split at h
  .split at h
   .rename_i k m k' n hx hy;split at h
    .rename_i hk;have:=uZ hk;subst this;injection h with h;subst h;exact abn (hE _ _ hx) (hE _ _ hy)
    .cases h
   .cases h
  .cases h
 .intro h;simp only[uR]at h;split at h
  .split at h
   .rename_i k m k' n hx hy;split at h
    .rename_i hk;have:=uZ hk;subst this;injection h with h;subst h;exact abo (hE _ _ hx) (hE _ _ hy)
    .cases h
   .cases h
  .cases h
theorem CU:∀(xs:List SV) {cs},xs.mapM cellOf=some cs->xs.map (SV.den κ)=cs.map (Cell.den κ)
 | [],cs,h=>by simp at h;subst h;rfl
 | x::xs,cs,h=>by
   simp only[List.mapM_cons]at h;cases x with
   | c y=>
     cases hr:xs.mapM cellOf with
     | none=>simp[cellOf,hr]at h
     | some q=>
       simp[cellOf,hr]at h;subst h;simp[CU xs hr,SV.den]
   | _=>simp[cellOf]at h
theorem JZ(hE:∀x v,E x=some v->ev l x=some (v.den κ)){f fi cap v}(h:uR tt ld its E (.makeFunc (.func f) fi cap)=some v):dQ P N l ⟨d,.makeFunc (.func f) fi cap,t,ps,af,g⟩ w (v.den κ):=by
 obtain⟨fi⟩:=fi;obtain⟨cap⟩:=cap;cases fi with
 | cons q fi=>simp only[uR]at h;cases h
 | nil=>
 simp only[uR]at h;split at h
 .rename_i xs hf hc;cases hx:xs.mapM cellOf with
  | none=>simp[hx]at h
  | some cs=>
    simp only[hx,Option.map_some,Option.some.injEq]at h;subst h;have:=JA (P:=P) (N:=N) (w:=w) (d:=d) (t:=t) (ps:=ps) (af:=af) (g:=g) (f:=f) (NT hE cap hc);rw[CU xs hx]at this;exact this
 .cases h
theorem Ua(bZ:eu P tt)(S:zJ its κ w)(hE:∀x v,E x=some v->ev l x=some (v.den κ)){ty x y v}(h:uR tt ld its E (.indexAddr ty x y)=some v):dQ P N l ⟨d,.indexAddr ty x y,t,ps,af,g⟩ w (v.den κ):=by
 have key:∀{i o n:Nat} {k:IntKind} {iv:Int} {it:Item} {e:TypeId} {a:Bool} {z:Nat} {zz:Option Value} {by':Nat} {te:TI},E x=some (.c (.p i o))->E y=some (.c (.v (.int k iv)))->its[i]?=some it->((∃T cs,it=.k T cs)\/(∃s ow cs,it=.elt s ow cs)\/it=.F6)->jU ty tt=some ⟨.array n e,a,z,zz,by'⟩->jU e tt=some te->(decide (0<=iv)&&decide (iv<n))=true->
  dQ P N l ⟨d,.indexAddr ty x y,t,ps,af,g⟩ w ((Cell.p i (o+iv.toNat*te.size)).den κ):=by
  intro i o n k iv it e a z zz by' te hx hy hi hk ht hte hd;simp only[Bool.and_eq_true,decide_eq_true_eq]at hd;obtain⟨ad,h1,h2⟩:=uT S (o:=o) hi hk;have h3:=hE _ _ hx;have h4:=hE _ _ hy;simp only[SV.den,h1]at h3;simp only[SV.den,Cell.den]at h4;rw[h2];have hrun:∀w,(Instr.indexAt ty (.pointer (some (ad.add o))) (.int k iv)).run P w=.ok (.pointer (some (ad.add (o+iv.toNat*te.size)))) w:=fun w=>by
   rw[<-add_add];simp[Instr.indexAt,Instr.sureAddr,asIntOf,run_underlying (bZ.get ht).und,hd.1,hd.2,(bZ.get hte).size]
  intro a' ha;simp only[execOp,ha.ev h3,ha.ev h4,Sem.run_bind,hrun,Result.andThen_ok];rfl
 simp only[uR]at h;split at h
 .rename_i i o k iv n e _ _ _ _ hx hy ht;split at h
  .rename_i te hte hd;split at h
   .rename_i hi;injection h with h;subst h;exact key hx hy hi (.inl ⟨_,_,rfl⟩) ht hte hd
   .rename_i hi;injection h with h;subst h;exact key hx hy hi (.inr (.inr rfl)) ht hte hd
   .cases h
  .cases h
 .cases h
theorem GI(bZ:eu P tt)(S:zJ its κ w)(hE:∀x v,E x=some v->ev l x=some (v.den κ)){op v}(h:uR tt ld its E op=some v):dQ P N l ⟨d,op,t,ps,af,g⟩ w (v.den κ):=by
 cases op with
 | move x=>exact Xf (hE _ _ h)
 | assign x=>exact Pp (hE _ _ h)
 | binOp op ty x y mF=>exact Vr bZ S hE h
 | unOp op ty x=>
   cases op with
   | not=>
     simp only[uR]at h;split at h
     .rename_i b hx;injection h with h;subst h;exact abj (hE _ _ hx)
     .cases h
   | neg=>
     simp only[uR]at h;split at h
     .rename_i k m hx;injection h with h;subst h;exact abl (hE _ _ hx) (I7 k _)
     .cases h
   | _=>cases h
 | convert src dst x=>
   simp only[uR]at h;split at h
   .rename_i k m sd k' _ _ _ _ hx hs hd;injection h with h;subst h;exact Xj (bZ.get hs).und (bZ.get hd).und (hE _ _ hx) (I7 k' _)
   .cases h
 | extract x i=>
   simp only[uR]at h;split at h
   .rename_i u hx;split at h
    .rename_i c hc;injection h with h;subst h;exact BX (hE _ _ hx) (by simp[hc,Lh,SV.den])
    .rename_i c hc;injection h with h;subst h;exact BX (hE _ _ hx) (by simp[hc,Lh,SV.den])
    .cases h
   .cases h
 | nilCheck x=>
   simp only[uR]at h;split at h
   .rename_i i o hx;split at h
    .rename_i hi;injection h with h;subst h;obtain⟨ad,h1,_⟩:=uT S (o:=o) hi (.inl ⟨_,_,rfl⟩);have h3:=hE _ _ hx;simp only[SV.den,h1]at h3 |-;exact sJ h3
    .rename_i hi;injection h with h;subst h;obtain⟨ad,h1,_⟩:=uT S (o:=o) hi (.inr (.inr rfl));have h3:=hE _ _ hx;simp only[SV.den,h1]at h3 |-;exact sJ h3
    .rename_i hi;injection h with h;subst h;obtain⟨ad,h1,_⟩:=uT S (o:=o) hi (.inr (.inl ⟨_,_,_,rfl⟩));have h3:=hE _ _ hx;simp only[SV.den,h1]at h3 |-;exact sJ h3
    .cases h
   .cases h
 | fieldAddr s x f=>exact Ih bZ S hE h
 | indexAddr ty x y=>exact Ua bZ S hE h
 | load ty x=>
   simp only[uR]at h;split at h
   .rename_i i o ti hx ht;exact TP S (bZ.get ht) (hE _ _ hx) h
   .cases h
 | field s x f=>exact Uz bZ hE h
 | build s as=>exact Vo bZ S hE h
 | call c=>
   obtain⟨cal,as,ts⟩:=c;cases cal with
   | builtin b=>
     cases b with
     | len=>exact abT bZ S hE h
     | min=>exact(FJ hE).1 h
     | max=>exact(FJ hE).2 h
     | _=>cases h
   | _=>cases h
 | makeFunc fn fi cap=>
   cases fn with
   | func f=>exact JZ hE h
   | _=>cases h
 | _=>cases h
theorem VF{α:Type}{p}{l:List α}(h:l.all p=true)n:(l.take n).all p=true:=by
 rw[List.all_eq_true]at h |-;exact fun x hx=>h x (List.mem_of_mem_take hx)
theorem VG{α:Type}{p}{l:List α}(h:l.all p=true)n:(l.drop n).all p=true:=by
 rw[List.all_eq_true]at h |-;exact fun x hx=>h x (List.mem_of_mem_drop hx)
end
end V
end Go.Proofs.YtbgfhaahhdnogaaGreat
