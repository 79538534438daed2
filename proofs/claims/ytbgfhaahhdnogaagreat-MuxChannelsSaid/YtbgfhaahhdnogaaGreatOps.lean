/- What single operations without effect on memory yield, in a -/
import Derived.Test.YtbgfhaahhdnogaaGreatLib
import Derived.Laws.Strings
namespace Go.Proofs.YtbgfhaahhdnogaaGreat
namespace V
section
variable {P:Program} {px:Value->World->Prop} {N:Nat} {l:Env} {w:World} {d:Option Nat} {t:TypeId} {ps:String} {af:Array Edge} {g:Option (Nat×Bool)}
theorem Xf{x v}(hx:ev l x=some v):dQ P N l ⟨d,.move x,t,ps,af,g⟩ w v:=fun a ha=>by
 simp only[execOp,ha.ev hx];rfl
theorem Pp{x v}(hx:ev l x=some v):dQ P N l ⟨d,.assign x,t,ps,af,g⟩ w v:=fun a ha=>by
 simp only[execOp,ha.ev hx];rfl
theorem yj{c x y b v}(hc:ev l c=some (.bool b))(hb:b=true)(hx:ev l x=some v):dQ P N l ⟨d,.pick c x y,t,ps,af,g⟩ w v:=fun a ha=>by
 subst hb;simp only[execOp,ha.ev hx,ha.ev hc,asBool];rfl
theorem yt{c x y b v}(hc:ev l c=some (.bool b))(hb:b=false)(hy:ev l y=some v):dQ P N l ⟨d,.pick c x y,t,ps,af,g⟩ w v:=fun a ha=>by
 subst hb;simp only[execOp,ha.ev hy,ha.ev hc,asBool];rfl
theorem rM op ty x y k k' m n:(eqGuard op ty x y (.int k m) (.int k' n)).run P w=.ok () w:=by
 cases op<;>rfl
theorem pJ op ty x y m n:(eqGuard op ty x y (.bool m) (.bool n)).run P w=.ok () w:=by
 cases op<;>rfl
theorem ng op ty x y m n:(eqGuard op ty x y (.string m) (.string n)).run P w=.ok () w:=by
 cases op<;>rfl
theorem j3{op ty mF x y k m n v}(hx:ev l x=some (.int k m))(hy:ev l y=some (.int k n))
 (h:(binOp op ty (.int k m) (.int k n)).run P w=.ok v w):dQ P N l ⟨d,.binOp op ty x y mF,t,ps,af,g⟩ w v:=fun a ha=>by
 simp only[execOp,ha.ev hx,ha.ev hy,Sem.run_bind,rM,Result.andThen_ok,h];rfl
section
variable {ty mF:TypeId} {x y:Operand} {k:IntKind} {m n e:Int}
theorem abx(hx:ev l x=some (.int k m))(hy:ev l y=some (.int k n))(he:k.wrap (m+n)=e):dQ P N l ⟨d,.binOp .add ty x y mF,t,ps,af,g⟩ w (.int k e):=
 j3 hx hy (by subst he;simp[binOp,Op.intArith])
theorem abd(hx:ev l x=some (.int k m))(hy:ev l y=some (.int k n))(he:k.wrap (m-n)=e):dQ P N l ⟨d,.binOp .sub ty x y mF,t,ps,af,g⟩ w (.int k e):=
 j3 hx hy (by subst he;simp[binOp,Op.intArith])
theorem abm(hx:ev l x=some (.int k m))(hy:ev l y=some (.int k n))(he:k.wrap (m*n)=e):dQ P N l ⟨d,.binOp .mul ty x y mF,t,ps,af,g⟩ w (.int k e):=
 j3 hx hy (by subst he;simp[binOp,Op.intArith])
theorem abw(hx:ev l x=some (.int k m))(hy:ev l y=some (.int k n)):dQ P N l ⟨d,.binOp .and ty x y mF,t,ps,af,g⟩ w (.int k (acu k m n)):=
 j3 hx hy (by simp[binOp,Op.intBits,acu])
theorem aeu(hx:ev l x=some (.int k m))(hy:ev l y=some (.int k n)):dQ P N l ⟨d,.binOp .or ty x y mF,t,ps,af,g⟩ w (.int k (vK k m n)):=
 j3 hx hy (by simp[binOp,Op.intBits,vK])
theorem abb(hx:ev l x=some (.int k m))(hy:ev l y=some (.int k n)):dQ P N l ⟨d,.binOp .xor ty x y mF,t,ps,af,g⟩ w (.int k (acn k m n)):=
 j3 hx hy (by simp[binOp,Op.intBits,acn])
theorem Pq(hx:ev l x=some (.int k m))(hy:ev l y=some (.int k n)):dQ P N l ⟨d,.binOp .andNot ty x y mF,t,ps,af,g⟩ w (.int k (Ic k m n)):=
 j3 hx hy (by simp[binOp,Op.intBits,Ic])
theorem abu(hx:ev l x=some (.int k m))(hy:ev l y=some (.int k n)):dQ P N l ⟨d,.binOp .eql ty x y mF,t,ps,af,g⟩ w (.bool (m==n)):=
 j3 hx hy (by simp[binOp,Op.intCmp])
theorem abk(hx:ev l x=some (.int k m))(hy:ev l y=some (.int k n)):dQ P N l ⟨d,.binOp .neq ty x y mF,t,ps,af,g⟩ w (.bool (m != n)):=
 j3 hx hy (by simp[binOp,Op.intCmp])
theorem abp(hx:ev l x=some (.int k m))(hy:ev l y=some (.int k n)):dQ P N l ⟨d,.binOp .lss ty x y mF,t,ps,af,g⟩ w (.bool (decide (m<n))):=
 j3 hx hy (by simp[binOp,Op.intCmp])
theorem abq(hx:ev l x=some (.int k m))(hy:ev l y=some (.int k n)):dQ P N l ⟨d,.binOp .leq ty x y mF,t,ps,af,g⟩ w (.bool (decide (m<=n))):=
 j3 hx hy (by simp[binOp,Op.intCmp])
theorem abr(hx:ev l x=some (.int k m))(hy:ev l y=some (.int k n)):dQ P N l ⟨d,.binOp .gtr ty x y mF,t,ps,af,g⟩ w (.bool (decide (m>n))):=
 j3 hx hy (by simp[binOp,Op.intCmp])
theorem abt(hx:ev l x=some (.int k m))(hy:ev l y=some (.int k n)):dQ P N l ⟨d,.binOp .geq ty x y mF,t,ps,af,g⟩ w (.bool (decide (m>=n))):=
 j3 hx hy (by simp[binOp,Op.intCmp])
theorem abh(hx:ev l x=some (.int k m))(hy:ev l y=some (.int k n))(he:acr k m n=some e):dQ P N l ⟨d,.binOp .quo ty x y mF,t,ps,af,g⟩ w (.int k e):=
 j3 hx hy (by
  unfold acr at he;split at he
  .cases he
  .rename_i h0;simp only[Option.some.injEq]at he;subst he;simp[binOp,Op.intDiv,h0])
theorem abg(hx:ev l x=some (.int k m))(hy:ev l y=some (.int k n))(he:acp m n=some e):dQ P N l ⟨d,.binOp .rem ty x y mF,t,ps,af,g⟩ w (.int k e):=
 j3 hx hy (by
  unfold acp at he;split at he
  .cases he
  .rename_i h0;simp only[Option.some.injEq]at he;subst he;simp[binOp,Op.intDiv,h0])
theorem Jz{op k2 v}(hx:ev l x=some (.int k m))(hy:ev l y=some (.int k2 n))(h:(binOp op ty (.int k m) (.int k2 n)).run P w=.ok v w) :
 dQ P N l ⟨d,.binOp op ty x y mF,t,ps,af,g⟩ w v:=fun a ha=>by
 simp only[execOp,ha.ev hx,ha.ev hy,Sem.run_bind,rM,Result.andThen_ok,h];rfl
theorem abf{k2}(hx:ev l x=some (.int k m))(hy:ev l y=some (.int k2 n))(he:Kh k m n=some e):dQ P N l ⟨d,.binOp .shl ty x y mF,t,ps,af,g⟩ w (.int k e):=
 Jz hx hy (by
  unfold Kh at he;split at he
  .cases he
  .rename_i h0;simp only[Option.some.injEq]at he;subst he;simp[binOp,Op.shift,h0])
theorem abe{k2}(hx:ev l x=some (.int k m))(hy:ev l y=some (.int k2 n))(he:Kg k m n=some e):dQ P N l ⟨d,.binOp .shr ty x y mF,t,ps,af,g⟩ w (.int k e):=
 Jz hx hy (by
  unfold Kg at he;split at he
  .cases he
  .rename_i h0;simp only[Option.some.injEq]at he;subst he;simp[binOp,Op.shift,h0])
theorem abj{b}(hx:ev l x=some (.bool b)):dQ P N l ⟨d,.unOp .not ty x,t,ps,af,g⟩ w (.bool (!b)):=fun a ha=>by
 simp only[execOp,ha.ev hx,Op.unary];rfl
theorem abl(hx:ev l x=some (.int k m))(he:k.wrap (0-m)=e):dQ P N l ⟨d,.unOp .neg ty x,t,ps,af,g⟩ w (.int k e):=fun a ha=>by
 subst he;simp only[execOp,ha.ev hx,Op.unary,Op.intArith];rfl
end
theorem run_equalIn_bool{ty}(hu:P.underlying ty=some .bool)dp m n:(Op.equalIn (dp+1) ty (.bool m) (.bool n)).run P w=.ok (m==n) w:=by
 simp only[Op.equalIn,Sem.run_bind,run_underlying hu,Result.andThen_ok,Sem.run_pure]
theorem Xi{ty mF x y m n}(hu:P.underlying ty=some .bool)(hx:ev l x=some (.bool m))(hy:ev l y=some (.bool n)):dQ P N l ⟨d,.binOp .eql ty x y mF,t,ps,af,g⟩ w (.bool (m==n)):=fun a ha=>by
 have h:=run_equalIn_bool (P:=P) (w:=w) hu 9999 m n;simp only[execOp,ha.ev hx,ha.ev hy,Sem.run_bind,pJ,Result.andThen_ok,binOp,Op.equal,Op.maxDepth,h,Sem.run_pure]
theorem Xe{ty mF x y m n}(hu:P.underlying ty=some .bool)(hx:ev l x=some (.bool m))(hy:ev l y=some (.bool n)):dQ P N l ⟨d,.binOp .neq ty x y mF,t,ps,af,g⟩ w (.bool (m != n)):=fun a ha=>by
 have h:=run_equalIn_bool (P:=P) (w:=w) hu 9999 m n;simp only[execOp,ha.ev hx,ha.ev hy,Sem.run_bind,pJ,Result.andThen_ok,binOp,Op.equal,Op.maxDepth,h,Sem.run_pure];rfl
def strOf(s:ByteArray):List Int:=s.toList.map fun b=>(b.toNat:Int)
theorem EW s u:(s.toList==u.toList)=(strOf s==strOf u):=by
 have inj:∀a b:List UInt8,(a.map fun b=>(b.toNat:Int))=(b.map fun b=>(b.toNat:Int))->a=b:=by
  intro a
  induction a with
  | nil=>intro b h;cases b<;>simp_all
  | cons x xs ih=>
    intro b h;cases b with
    | nil=>simp at h
    | cons y ys=>
      simp only[List.map_cons,List.cons.injEq]at h;rw[ih ys h.2,UInt8.toNat_inj.1 (by omega:x.toNat=y.toNat)]
 rw[Bool.eq_iff_iff];simp only[beq_iff_eq,strOf];exact⟨fun h=>by rw[h],fun h=>inj _ _ h⟩
theorem Xh{ty mF x y s u}(hx:ev l x=some (.string s))(hy:ev l y=some (.string u)):dQ P N l ⟨d,.binOp .eql ty x y mF,t,ps,af,g⟩ w (.bool (strOf s==strOf u)):=fun a ha=>by
 simp only[execOp,ha.ev hx,ha.ev hy,Sem.run_bind,ng,Result.andThen_ok,binOp,Op.stringOp,Sem.run_pure,EW]
theorem Xd{ty mF x y s u}(hx:ev l x=some (.string s))(hy:ev l y=some (.string u)):dQ P N l ⟨d,.binOp .neq ty x y mF,t,ps,af,g⟩ w (.bool (strOf s != strOf u)):=fun a ha=>by
 simp only[execOp,ha.ev hx,ha.ev hy,Sem.run_bind,ng,Result.andThen_ok,binOp,Op.stringOp,Sem.run_pure,EW];rfl
theorem Xj{src dst x k k' sd m e}(hs:P.underlying src=some sd)(hu:P.underlying dst=some (.int k'))(hx:ev l x=some (.int k m))(he:k'.wrap m=e) :
 dQ P N l ⟨d,.convert src dst x,t,ps,af,g⟩ w (.int k' e):=fun a ha=>by
 subst he;simp only[execOp,ha.ev hx,convert,Sem.run_bind,run_underlying hs,run_underlying hu,Result.andThen_ok,Conv.intToInt,Sem.run_pure]
theorem LK{α ty e x A c}{dt:List α}(hu:P.underlying ty=some (.slice e))(hx:ev l x=some (.slice A dt.length c)) :
 dQ P N l ⟨d,.call {callee:=.builtin .len,args:=#[x],argTypes:=#[ty]},t,ps,af,g⟩ w (.int .i64 (V.len dt)):=fun a ha=>by
 simp[execOp,resolve,invoke,builtin,ha.ev hx,Builtin.len_,run_underlying hu,goInt,V.len]
theorem Xg{ty x s}(hu:P.underlying ty=some .string)(hx:ev l x=some (.string s)) :
 dQ P N l ⟨d,.call {callee:=.builtin .len,args:=#[x],argTypes:=#[ty]},t,ps,af,g⟩ w (.int .i64 (V.len (strOf s))):=fun a ha=>by
 have hl:s.toList.length=s.size:=by rw[Go.ByteArray.toList_eq];exact Array.length_toList
 simp[execOp,resolve,invoke,builtin,ha.ev hx,Builtin.len_,run_underlying hu,goInt,strOf,V.len,hl]
theorem abn{ats x y k m n}(hx:ev l x=some (.int k m))(hy:ev l y=some (.int k n)) :
 dQ P N l ⟨d,.call {callee:=.builtin .min,args:=#[x,y],argTypes:=ats},t,ps,af,g⟩ w (.int k (cO m n)):=fun a ha=>by
 simp[execOp,resolve,invoke,builtin,ha.ev hx,ha.ev hy,Builtin.min_,Builtin.min2,cO]
theorem abo{ats x y k m n}(hx:ev l x=some (.int k m))(hy:ev l y=some (.int k n)) :
 dQ P N l ⟨d,.call {callee:=.builtin .max,args:=#[x,y],argTypes:=ats},t,ps,af,g⟩ w (.int k (imax m n)):=fun a ha=>by
 simp[execOp,resolve,invoke,builtin,ha.ev hx,ha.ev hy,Builtin.max_,Builtin.max2,imax]
theorem BX{x vs i v}(hx:ev l x=some (.tuple vs))(hv:vs[i]?=some v):dQ P N l ⟨d,.extract x i,t,ps,af,g⟩ w v:=fun a ha=>by
 simp[execOp,ha.ev hx,Instr.extract,hv]
theorem sJ{x ad}(hx:ev l x=some (.pointer (some ad))):dQ P N l ⟨d,.nilCheck x,t,ps,af,g⟩ w (.pointer (some ad)):=fun a ha=>by
 simp[execOp,ha.ev hx]
def OQ(P:Program)(s:TypeId)(f off:Nat):Prop:=∀(w:World) (a:Addr),(Instr.fieldAt s (.pointer (some a)) f).run P w=.ok (.pointer (some (a.add off))) w
theorem Dm{s f off fs fd i}(hu:P.underlying s=some (.struct fs))(hf:fs[f]?=some fd)(hi:P.info? fd.type=some i)(hs:i.size≠0)(ho:fd.offset=off):OQ P s f off:=fun w a=>by
 subst ho;simp[Instr.fieldAt,run_underlying hu,hf,Instr.sureAddr,fieldPlace,sizeOf,typeInfo,hi,hs]
theorem wu{s x f off ad ad'}(hf:OQ P s f off)(hx:ev l x=some (.pointer (some ad)))(he:ad.add off=ad'):dQ P N l ⟨d,.fieldAddr s x f,t,ps,af,g⟩ w (.pointer (some ad')):=fun a ha=>by
 subst he;simp only[execOp,ha.ev hx,Sem.run_bind,hf w ad,Result.andThen_ok];rfl
theorem Pm{s x f fs fd}{cs:List Value}{v}(hu:P.underlying s=some (.struct fs))(hf:fs[f]?=some fd)(ha1:∀w,(isAgg fd.type).run P w=.ok false w)
 (hx:ev l x=some (.agg cs.toArray)) (hv:cs[fd.offset]?=some v):dQ P N l ⟨d,.field s x f,t,ps,af,g⟩ w v:=fun a ha=>by
 simp[execOp,ha.ev hx,Instr.field,run_underlying hu,hf,asAgg,part,ha1,hv]
theorem Pk{s x f n fs fd}{cs vs:List Value}(hu:P.underlying s=some (.struct fs))(hf:fs[f]?=some fd)(ha1:∀w,(isAgg fd.type).run P w=.ok true w)(hn:∀w,(sizeOf fd.type).run P w=.ok n w)
 (hx:ev l x=some (.agg cs.toArray)) (hv:(cs.drop fd.offset).take n=vs):dQ P N l ⟨d,.field s x f,t,ps,af,g⟩ w (.agg vs.toArray):=fun a ha=>by
 subst hv;simp[execOp,ha.ev hx,Instr.field,run_underlying hu,hf,asAgg,part,ha1,hn,List.extract_toArray,List.extract_eq_take_drop]
theorem Pj{s e x i n k iv cs v}(hu:P.underlying s=some (.array n e))(ha1:∀w,(isAgg e).run P w=.ok false w)(hs:∀w,(sizeOf e).run P w=.ok 1 w)
 (hx:ev l x=some (.agg cs.toArray)) (hi:ev l i=some (.int k iv)) (hn:cs.length=n) (hv:idx cs iv=some v):dQ P N l ⟨d,.index s x i,t,ps,af,g⟩ w v:=fun a ha=>by
 unfold idx at hv;split at hv
 .rename_i h0;have hlt:iv.toNat<n:=by
   obtain⟨h,_⟩:=List.getElem?_eq_some_iff.1 hv;omega
  have h2:iv<(n:Int):=by omega
  simp[execOp,ha.ev hx,ha.ev hi,Instr.index,run_underlying hu,asIntOf,h0,h2,part,ha1,hs,hv]
 .cases hv
def M8(P:Program)(fs:List Field):Option (List (Nat×Nat)):=fs.mapM fun f=>(P.info? f.type).map fun i=>(f.offset,i.size)
theorem run_places fs:∀pl,M8 P fs=some pl->(fs.mapM (m:=Sem) fun f=>do pure (f.offset,<-sizeOf f.type)).run P w=.ok pl w:=by
 induction fs with
 | nil=>intro pl h;simp[M8]at h;subst h;rfl
 | cons f fs ih=>
   intro pl h;simp only[M8,List.mapM_cons]at h;cases hi:P.info? f.type with
   | none=>simp[hi]at h
   | some i=>
     cases hr:List.mapM (fun f=>(P.info? f.type).map fun i=>(f.offset,i.size)) fs with
     | none=>simp[hi,hr]at h
     | some r=>
       simp[hi,hr]at h;subst h;have:=ih r hr;simp[List.mapM_cons,sizeOf,typeInfo,hi]at this |-;simp[this]
theorem Sr{s fs z pl}{parts:List (Nat×Operand)}{vs}{cs:List Value}(hz:∀w,(zeroValue s).run P w=.ok z w)(hu:P.underlying s=some (.struct fs.toArray))(hpl:M8 P fs=some pl)
 (hv:parts.mapM (fun p=>(ev l p.2).map fun v=>(p.1,v))=some vs) (hf:Instr.fill (pl[·]?) z.cells vs=some cs.toArray):dQ P N l ⟨d,.build s parts.toArray,t,ps,af,g⟩ w (.agg cs.toArray):=fun a ha=>by
 have hvs:∀(parts:List (Nat×Operand)) vs,parts.mapM (fun p=>(ev l p.2).map fun v=>(p.1,v))=some vs->parts.map (fun p=>(p.1,a.eval p.2))=vs:=by
  intro parts
  induction parts with
  | nil=>intro vs h;simp at h;subst h;rfl
  | cons p ps ih=>
    intro vs h;simp only[List.mapM_cons]at h;cases he:ev l p.2 with
    | none=>simp[he]at h
    | some v=>
      cases hr:List.mapM (fun p=>(ev l p.2).map fun v=>(p.1,v)) ps with
      | none=>simp[he,hr]at h
      | some r=>
        simp[he,hr]at h;subst h;simp[ha.ev he,ih r hr]
 have h1:=hvs parts vs hv;have h2:=run_places (P:=P) (w:=w) fs pl hpl;have h2':(List.mapM (fun f=>Prod.mk f.offset <$> sizeOf f.type) fs:Sem _).run P w=.ok pl w:=h2;simp[execOp,Instr.build,hz,run_underlying hu,h1,h2',hf]
theorem Yy{a}(ha:Holds N l a):∀(parts:List (Nat×Operand)) vs,parts.mapM (fun p=>(ev l p.2).map fun v=>(p.1,v))=some vs->parts.map (fun p=>(p.1,a.eval p.2))=vs:=by
 intro parts
 induction parts with
 | nil=>intro vs h;simp at h;subst h;rfl
 | cons p ps ih=>
   intro vs h;simp only[List.mapM_cons]at h;cases he:ev l p.2 with
   | none=>simp[he]at h
   | some v=>
     cases hr:List.mapM (fun p=>(ev l p.2).map fun v=>(p.1,v)) ps with
     | none=>simp[he,hr]at h
     | some r=>
       simp[he,hr]at h;subst h;simp[ha.ev he,ih r hr]
theorem JC{s e n sz z}{parts:List (Nat×Operand)}{vs}{cs:List Value}(hz:∀w,(zeroValue s).run P w=.ok z w)(hu:P.underlying s=some (.array n e))(hs:∀w,(sizeOf e).run P w=.ok sz w)
 (hv:parts.mapM (fun p=>(ev l p.2).map fun v=>(p.1,v))=some vs) (hf:Instr.fill (fun i=>some (i*sz,sz)) z.cells vs=some cs.toArray):dQ P N l ⟨d,.build s parts.toArray,t,ps,af,g⟩ w (.agg cs.toArray):=fun a ha=>by
 have h1:=Yy ha parts vs hv;simp[execOp,Instr.build,hz,run_underlying hu,h1,hs,hf]
theorem JA{f}{cap:List Operand}{vs}(hv:cap.mapM (ev l)=some vs):dQ P N l ⟨d,.makeFunc (.func f) #[] cap.toArray,t,ps,af,g⟩ w (.func (.func f) #[] vs.toArray):=fun a ha=>by
 have:∀(cap:List Operand) vs,cap.mapM (ev l)=some vs->cap.map a.eval=vs:=by
  intro cap
  induction cap with
  | nil=>intro vs h;simp at h;subst h;rfl
  | cons p ps ih=>
    intro vs h;simp only[List.mapM_cons]at h;cases he:ev l p with
    | none=>simp[he]at h
    | some v=>
      cases hr:ps.mapM (ev l)with
      | none=>simp[he,hr]at h
      | some r=>
        simp[he,hr]at h;subst h;simp[ha.ev he,ih r hr]
 simp[execOp,Instr.makeFunc,this cap vs hv]
theorem MK{a}(ha:Holds N l a):∀(cap:List Operand) vs,cap.mapM (ev l)=some vs->cap.map a.eval=vs:=by
 intro cap
 induction cap with
 | nil=>intro vs h;simp at h;subst h;rfl
 | cons p ps ih=>
   intro vs h;simp only[List.mapM_cons]at h;cases he:ev l p with
   | none=>simp[he]at h
   | some v=>
     cases hr:ps.mapM (ev l)with
     | none=>simp[he,hr]at h
     | some r=>
       simp[he,hr]at h;subst h;simp[ha.ev he,ih r hr]
theorem Xt{f}{args:List Operand}{ats vs}(hc:∀args w,(callFunc f args).run P w=.ok (.enter f args) w)(hv:args.mapM (ev l)=some vs) :
 Y9 P N l ⟨d,.call {callee:=.value (.func f),args:=args.toArray,argTypes:=ats},t,ps,af,g⟩ w f vs.toArray:=fun a ha=>by
 simp[execOp,resolve,invoke,Deferred.ofValue,Act.eval,hc,MK ha args vs hv]
theorem Tg{f s}{args:List Operand}{ats vs cap}(hc:∀args w,(callFunc f args).run P w=.ok (.enter f args) w)(hs:lk s l=some (.func (.func f) #[] cap.toArray))(hv:args.mapM (ev l)=some vs) :
 Y9 P N l ⟨d,.call {callee:=.value (.tmp s),args:=args.toArray,argTypes:=ats},t,ps,af,g⟩ w f (vs++cap).toArray:=fun a ha=>by
 have h1:a.eval (.tmp s)=.func (.func f) #[] cap.toArray:=ha.ev (x:=.tmp s) hs;simp[execOp,resolve,invoke,Deferred.ofValue,h1,hc,MK ha args vs hv]
theorem Xr{f s}{args:List Operand}{ats vs p}(hc:∀args w,(callFunc f args).run P w=.ok (.enter f args) w)(hs:lk s l=some (.func (.func f) #[p] #[]))(hv:args.mapM (ev l)=some vs) :
 Y9 P N l ⟨d,.call {callee:=.value (.tmp s),args:=args.toArray,argTypes:=ats},t,ps,af,g⟩ w f (p::vs).toArray:=fun a ha=>by
 have h1:a.eval (.tmp s)=.func (.func f) #[p] #[]:=ha.ev (x:=.tmp s) hs;simp[execOp,resolve,invoke,Deferred.ofValue,h1,hc,MK ha args vs hv]
end
def enumFrom(i:Nat):List Value->Env
 | []=>[]
 | v::vs=>(i,v)::enumFrom (i+1) vs
theorem NV:∀vs i t v,lk t (enumFrom i vs)=some v->i<=t/\vs[t-i]?=some v
 | [],i,t,v,h=>by cases h
 | u::vs,i,t,v,h=>by
   simp only[enumFrom,lk]at h;cases hb:Nat.beq t i with
   | true=>
     rw[hb]at h;simp only[Option.some.injEq]at h;subst h;have:=Nat.eq_of_beq_eq_true hb;subst this;simp
   | false=>
     rw[hb]at h;obtain⟨h1,h2⟩:=NV vs (i+1) t v h;refine⟨by omega,?_⟩;have:t-i=(t-(i+1))+1:=by omega
     rw[this];simpa using h2
def adl(P:Program)(fn:Func)(R:Ending->World->Prop)(a:Act)(w:World):Prop:=a.defers=[]/\∃v,(results fn a.tmps).run P w=.ok v w/\R (.returned v) w
theorem KS{P px f fn c vs w R}{N:Nat}(hf:P.funcs[f]?=some fn)(hb:fn.body=some c)(hN:fn.ntmps=N)(hle:Nat.ble vs.length N=true)(hpx:∀v w,px v w->R (.panicked [pe v]) w)
 (h:WC P px c (adl P fn R) (fun _ _ _=>False) (adl P fn R) N (enumFrom 0 vs) w):Calls P f vs.toArray w R:=by
 subst hN;have hle':vs.length<=fn.ntmps:=Nat.le_of_ble_eq_true hle;refine calls_of_wp hf hb (wp_mono (h _ ⟨?_,rfl,?_⟩) fun e a w hq=>?_)
 .simp;omega
 .intro t v hv;obtain⟨_,h2⟩:=NV vs 0 t v hv;simp only[Nat.sub_zero]at h2;have hlt:=(List.getElem?_eq_some_iff.1 h2).1;rw[Array.getElem?_append_left (by simpa using hlt)];simpa using h2
 .cases e<;>first|exact hq|exact hq.elim|(obtain⟨v,rfl,hd,hq⟩:=hq;exact⟨hd,hpx v w hq⟩)
def yB(tmps:Array Value):ResultVar->Sem Value
 | .tmp t=>pure (tmps.getD t undef)
 | .cell p t=>do loadVar t (<-asAddr (tmps.getD p undef))
def RV1(P:Program)(N:Nat)(l:Env)(w:World)(rv:ResultVar)(v:Value):Prop:=
 ∀a,Holds N l a->(yB a.tmps rv).run P w=.ok v w
def RVs(P:Program)(N:Nat)(l:Env)(w:World):List ResultVar->List Value->Prop
 | [],[]=>True
 | r::rs,v::vs=>RV1 P N l w r v/\RVs P N l w rs vs
 | _,_=>False
theorem Xk{P N l w t v}(h:lk t l=some v):RV1 P N l w (.tmp t) v:=fun a ha=>by
 simp[yB,ha.get t v h]
def sM:List Value->Value
 | [v]=>v
 | vs=>.tuple vs.toArray
theorem JD{P N l w fn rs vs}(hr:fn.results=rs.toArray)(h:RVs P N l w rs vs){a}(ha:Holds N l a):(results fn a.tmps).run P w=.ok (sM vs) w:=by
 have key:∀(rs:List ResultVar) (vs:List Value),RVs P N l w rs vs->(rs.mapM (yB a.tmps)).run P w=.ok vs w:=by
  intro rs
  induction rs with
  | nil=>intro vs h;cases vs with
    | nil=>rfl
    | cons v vs=>exact h.elim
  | cons r rs ih=>
    intro vs h;cases vs with
    | nil=>exact h.elim
    | cons v vs=>
      have h1:=h.1 a ha;have h2:=ih vs h.2;simp only[List.mapM_cons,Sem.run_bind,h1,h2,Result.andThen_ok,Sem.run_pure]
 have h1:=key rs vs h;have e:results fn a.tmps=(do let vs <-rs.toArray.mapM (yB a.tmps);pure (if h:vs.size=1 then vs[0]else .tuple vs)):=by
  unfold results;rw[hr];congr 1
 rw[e];simp only[List.mapM_toArray,Sem.run_bind,Sem.run_map,h1,Result.andThen_ok,Sem.run_pure]
 match vs with
 | []=>simp[sM]
 | [v]=>simp[sM]
 | v::u::vs=>simp[sM]
end V
end Go.Proofs.YtbgfhaahhdnogaaGreat
