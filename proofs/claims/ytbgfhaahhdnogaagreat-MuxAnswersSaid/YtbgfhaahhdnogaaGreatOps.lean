/- What single operations without effect on memory yield, in a -/
import Derived.Test.YtbgfhaahhdnogaaGreatLib
import Derived.Laws.Strings
namespace Go.Proofs.YtbgfhaahhdnogaaGreat
namespace V
section
variable {P:Program} {px:Value->World->Prop} {N:Nat} {l:Env} {w:World} {d:Option Nat} {t:TypeId} {ps:String} {af:Array Edge} {g:Option (Nat×Bool)}
theorem Vk{x:Operand}{v:Value}(hx:ev l x=some v):dM P N l ⟨d,.move x,t,ps,af,g⟩ w v:=fun a ha=>by
 simp only[execOp,ha.ev hx];rfl
theorem Oc{x:Operand}{v:Value}(hx:ev l x=some v):dM P N l ⟨d,.assign x,t,ps,af,g⟩ w v:=fun a ha=>by
 simp only[execOp,ha.ev hx];rfl
theorem xC{c x y:Operand}{b:Bool}{v:Value}(hc:ev l c=some (.bool b))(hb:b=true)(hx:ev l x=some v):dM P N l ⟨d,.pick c x y,t,ps,af,g⟩ w v:=fun a ha=>by
 subst hb;simp only[execOp,ha.ev hx,ha.ev hc,asBool];rfl
theorem xD{c x y:Operand}{b:Bool}{v:Value}(hc:ev l c=some (.bool b))(hb:b=false)(hy:ev l y=some v):dM P N l ⟨d,.pick c x y,t,ps,af,g⟩ w v:=fun a ha=>by
 subst hb;simp only[execOp,ha.ev hy,ha.ev hc,asBool];rfl
theorem qI(op:BinOp)(ty:TypeId)(x y:Operand)(k k':IntKind)(m n:Int):(eqGuard op ty x y (.int k m) (.int k' n)).run P w=.ok () w:=by
 cases op <;> rfl
theorem oQ(op:BinOp)(ty:TypeId)(x y:Operand)(m n:Bool):(eqGuard op ty x y (.bool m) (.bool n)).run P w=.ok () w:=by
 cases op <;> rfl
theorem mR(op:BinOp)(ty:TypeId)(x y:Operand)(m n:ByteArray):(eqGuard op ty x y (.string m) (.string n)).run P w=.ok () w:=by
 cases op <;> rfl
theorem jS{op:BinOp}{ty l9:TypeId}{x y:Operand}{k:IntKind}{m n:Int}{v:Value}(hx:ev l x=some (.int k m))(hy:ev l y=some (.int k n))
 (h:(binOp op ty (.int k m) (.int k n)).run P w=.ok v w):dM P N l ⟨d,.binOp op ty x y l9,t,ps,af,g⟩ w v:=fun a ha=>by
 simp only[execOp,ha.ev hx,ha.ev hy,Sem.run_bind,qI,Result.andThen_ok,h];rfl
section
variable {ty l9:TypeId} {x y:Operand} {k:IntKind} {m n e:Int}
theorem Z0(hx:ev l x=some (.int k m))(hy:ev l y=some (.int k n))(he:k.wrap (m+n)=e):dM P N l ⟨d,.binOp .add ty x y l9,t,ps,af,g⟩ w (.int k e):=
 jS hx hy (by subst he;simp[binOp,Op.intArith])
theorem ZG(hx:ev l x=some (.int k m))(hy:ev l y=some (.int k n))(he:k.wrap (m-n)=e):dM P N l ⟨d,.binOp .sub ty x y l9,t,ps,af,g⟩ w (.int k e):=
 jS hx hy (by subst he;simp[binOp,Op.intArith])
theorem ZO(hx:ev l x=some (.int k m))(hy:ev l y=some (.int k n))(he:k.wrap (m*n)=e):dM P N l ⟨d,.binOp .mul ty x y l9,t,ps,af,g⟩ w (.int k e):=
 jS hx hy (by subst he;simp[binOp,Op.intArith])
theorem ZY(hx:ev l x=some (.int k m))(hy:ev l y=some (.int k n)):dM P N l ⟨d,.binOp .and ty x y l9,t,ps,af,g⟩ w (.int k (aaU k m n)):=
 jS hx hy (by simp[binOp,Op.intBits,aaU])
theorem acT(hx:ev l x=some (.int k m))(hy:ev l y=some (.int k n)):dM P N l ⟨d,.binOp .or ty x y l9,t,ps,af,g⟩ w (.int k (uQ k m n)):=
 jS hx hy (by simp[binOp,Op.intBits,uQ])
theorem ZF(hx:ev l x=some (.int k m))(hy:ev l y=some (.int k n)):dM P N l ⟨d,.binOp .xor ty x y l9,t,ps,af,g⟩ w (.int k (aaQ k m n)):=
 jS hx hy (by simp[binOp,Op.intBits,aaQ])
theorem Od(hx:ev l x=some (.int k m))(hy:ev l y=some (.int k n)):dM P N l ⟨d,.binOp .andNot ty x y l9,t,ps,af,g⟩ w (.int k (Gv k m n)):=
 jS hx hy (by simp[binOp,Op.intBits,Gv])
theorem ZW(hx:ev l x=some (.int k m))(hy:ev l y=some (.int k n)):dM P N l ⟨d,.binOp .eql ty x y l9,t,ps,af,g⟩ w (.bool (m==n)):=
 jS hx hy (by simp[binOp,Op.intCmp])
theorem ZM(hx:ev l x=some (.int k m))(hy:ev l y=some (.int k n)):dM P N l ⟨d,.binOp .neq ty x y l9,t,ps,af,g⟩ w (.bool (m != n)):=
 jS hx hy (by simp[binOp,Op.intCmp])
theorem ZR(hx:ev l x=some (.int k m))(hy:ev l y=some (.int k n)):dM P N l ⟨d,.binOp .lss ty x y l9,t,ps,af,g⟩ w (.bool (decide (m<n))):=
 jS hx hy (by simp[binOp,Op.intCmp])
theorem ZT(hx:ev l x=some (.int k m))(hy:ev l y=some (.int k n)):dM P N l ⟨d,.binOp .leq ty x y l9,t,ps,af,g⟩ w (.bool (decide (m<=n))):=
 jS hx hy (by simp[binOp,Op.intCmp])
theorem ZU(hx:ev l x=some (.int k m))(hy:ev l y=some (.int k n)):dM P N l ⟨d,.binOp .gtr ty x y l9,t,ps,af,g⟩ w (.bool (decide (m>n))):=
 jS hx hy (by simp[binOp,Op.intCmp])
theorem ZV(hx:ev l x=some (.int k m))(hy:ev l y=some (.int k n)):dM P N l ⟨d,.binOp .geq ty x y l9,t,ps,af,g⟩ w (.bool (decide (m≥n))):=
 jS hx hy (by simp[binOp,Op.intCmp])
theorem ZK(hx:ev l x=some (.int k m))(hy:ev l y=some (.int k n))(he:aaT k m n=some e):dM P N l ⟨d,.binOp .quo ty x y l9,t,ps,af,g⟩ w (.int k e):=
 jS hx hy (by
  unfold aaT at he;split at he
  ·cases he
  ·rename_i h0;simp only[Option.some.injEq]at he;subst he;simp[binOp,Op.intDiv,h0])
theorem ZJ(hx:ev l x=some (.int k m))(hy:ev l y=some (.int k n))(he:aaS m n=some e):dM P N l ⟨d,.binOp .rem ty x y l9,t,ps,af,g⟩ w (.int k e):=
 jS hx hy (by
  unfold aaS at he;split at he
  ·cases he
  ·rename_i h0;simp only[Option.some.injEq]at he;subst he;simp[binOp,Op.intDiv,h0])
theorem IK{op:BinOp}{k2:IntKind}{v:Value}(hx:ev l x=some (.int k m))(hy:ev l y=some (.int k2 n))(h:(binOp op ty (.int k m) (.int k2 n)).run P w=.ok v w) :
 dM P N l ⟨d,.binOp op ty x y l9,t,ps,af,g⟩ w v:=fun a ha=>by
 simp only[execOp,ha.ev hx,ha.ev hy,Sem.run_bind,qI,Result.andThen_ok,h];rfl
theorem ZI{k2:IntKind}(hx:ev l x=some (.int k m))(hy:ev l y=some (.int k2 n))(he:Jo k m n=some e):dM P N l ⟨d,.binOp .shl ty x y l9,t,ps,af,g⟩ w (.int k e):=
 IK hx hy (by
  unfold Jo at he;split at he
  ·cases he
  ·rename_i h0;simp only[Option.some.injEq]at he;subst he;simp[binOp,Op.shift,h0])
theorem ZH{k2:IntKind}(hx:ev l x=some (.int k m))(hy:ev l y=some (.int k2 n))(he:Jm k m n=some e):dM P N l ⟨d,.binOp .shr ty x y l9,t,ps,af,g⟩ w (.int k e):=
 IK hx hy (by
  unfold Jm at he;split at he
  ·cases he
  ·rename_i h0;simp only[Option.some.injEq]at he;subst he;simp[binOp,Op.shift,h0])
theorem ZL{b:Bool}(hx:ev l x=some (.bool b)):dM P N l ⟨d,.unOp .not ty x,t,ps,af,g⟩ w (.bool (!b)):=fun a ha=>by
 simp only[execOp,ha.ev hx,Op.unary];rfl
theorem ZN(hx:ev l x=some (.int k m))(he:k.wrap (0-m)=e):dM P N l ⟨d,.unOp .neg ty x,t,ps,af,g⟩ w (.int k e):=fun a ha=>by
 subst he;simp only[execOp,ha.ev hx,Op.unary,Op.intArith];rfl
end
theorem run_equalIn_bool{ty:TypeId}(hu:P.underlying ty=some .bool)(dp:Nat)(m n:Bool):(Op.equalIn (dp+1) ty (.bool m) (.bool n)).run P w=.ok (m==n) w:=by
 simp only[Op.equalIn,Sem.run_bind,run_underlying hu,Result.andThen_ok,Sem.run_pure]
theorem Vn{ty l9:TypeId}{x y:Operand}{m n:Bool}(hu:P.underlying ty=some .bool)(hx:ev l x=some (.bool m))(hy:ev l y=some (.bool n)):dM P N l ⟨d,.binOp .eql ty x y l9,t,ps,af,g⟩ w (.bool (m==n)):=fun a ha=>by
 have h:=run_equalIn_bool (P:=P) (w:=w) hu 9999 m n;simp only[execOp,ha.ev hx,ha.ev hy,Sem.run_bind,oQ,Result.andThen_ok,binOp,Op.equal,Op.maxDepth,h,Sem.run_pure]
theorem Vj{ty l9:TypeId}{x y:Operand}{m n:Bool}(hu:P.underlying ty=some .bool)(hx:ev l x=some (.bool m))(hy:ev l y=some (.bool n)):dM P N l ⟨d,.binOp .neq ty x y l9,t,ps,af,g⟩ w (.bool (m != n)):=fun a ha=>by
 have h:=run_equalIn_bool (P:=P) (w:=w) hu 9999 m n;simp only[execOp,ha.ev hx,ha.ev hy,Sem.run_bind,oQ,Result.andThen_ok,binOp,Op.equal,Op.maxDepth,h,Sem.run_pure];rfl
def strOf(s:ByteArray):List Int:=s.toList.map fun b=>(b.toNat:Int)
theorem DF(s u:ByteArray):(s.toList==u.toList)=(strOf s==strOf u):=by
 have inj:∀a b:List UInt8,(a.map fun b=>(b.toNat:Int))=(b.map fun b=>(b.toNat:Int))->a=b:=by
  intro a
  induction a with
  | nil=>intro b h;cases b <;> simp_all
  | cons x xs ih=>
    intro b h;cases b with
    | nil=>simp at h
    | cons y ys=>
      simp only[List.map_cons,List.cons.injEq]at h;rw[ih ys h.2,UInt8.toNat_inj.1 (by omega:x.toNat=y.toNat)]
 rw[Bool.eq_iff_iff];simp only[beq_iff_eq,strOf];exact⟨fun h=>by rw[h],fun h=>inj _ _ h⟩
theorem Vm{ty l9:TypeId}{x y:Operand}{s u:ByteArray}(hx:ev l x=some (.string s))(hy:ev l y=some (.string u)):dM P N l ⟨d,.binOp .eql ty x y l9,t,ps,af,g⟩ w (.bool (strOf s==strOf u)):=fun a ha=>by
 simp only[execOp,ha.ev hx,ha.ev hy,Sem.run_bind,mR,Result.andThen_ok,binOp,Op.stringOp,Sem.run_pure,DF]
theorem Vi{ty l9:TypeId}{x y:Operand}{s u:ByteArray}(hx:ev l x=some (.string s))(hy:ev l y=some (.string u)):dM P N l ⟨d,.binOp .neq ty x y l9,t,ps,af,g⟩ w (.bool (strOf s != strOf u)):=fun a ha=>by
 simp only[execOp,ha.ev hx,ha.ev hy,Sem.run_bind,mR,Result.andThen_ok,binOp,Op.stringOp,Sem.run_pure,DF];rfl
theorem Vo{src dst:TypeId}{x:Operand}{k k':IntKind}{sd:TypeDesc}{m e:Int}(hs:P.underlying src=some sd)(hu:P.underlying dst=some (.int k'))(hx:ev l x=some (.int k m))(he:k'.wrap m=e) :
 dM P N l ⟨d,.convert src dst x,t,ps,af,g⟩ w (.int k' e):=fun a ha=>by
 subst he;simp only[execOp,ha.ev hx,convert,Sem.run_bind,run_underlying hs,run_underlying hu,Result.andThen_ok,Conv.intToInt,Sem.run_pure]
theorem KL{α:Type}{ty e:TypeId}{x:Operand}{A:Option Addr}{c:Nat}{dt:List α}(hu:P.underlying ty=some (.slice e))(hx:ev l x=some (.slice A dt.length c)) :
 dM P N l ⟨d,.call { callee:=.builtin .len,args:=#[x],argTypes:=#[ty] },t,ps,af,g⟩ w (.int .i64 (V.len dt)):=fun a ha=>by
 simp[execOp,resolve,invoke,builtin,ha.ev hx,Builtin.len_,run_underlying hu,goInt,V.len]
theorem Vl{ty:TypeId}{x:Operand}{s:ByteArray}(hu:P.underlying ty=some .string)(hx:ev l x=some (.string s)) :
 dM P N l ⟨d,.call { callee:=.builtin .len,args:=#[x],argTypes:=#[ty] },t,ps,af,g⟩ w (.int .i64 (V.len (strOf s))):=fun a ha=>by
 have hl:s.toList.length=s.size:=by rw[Go.ByteArray.toList_eq];exact Array.length_toList
 simp[execOp,resolve,invoke,builtin,ha.ev hx,Builtin.len_,run_underlying hu,goInt,strOf,V.len,hl]
theorem ZP{ats:Array TypeId}{x y:Operand}{k:IntKind}{m n:Int}(hx:ev l x=some (.int k m))(hy:ev l y=some (.int k n)) :
 dM P N l ⟨d,.call { callee:=.builtin .min,args:=#[x,y],argTypes:=ats },t,ps,af,g⟩ w (.int k (cZ m n)):=fun a ha=>by
 simp[execOp,resolve,invoke,builtin,ha.ev hx,ha.ev hy,Builtin.min_,Builtin.min2,cZ]
theorem ZQ{ats:Array TypeId}{x y:Operand}{k:IntKind}{m n:Int}(hx:ev l x=some (.int k m))(hy:ev l y=some (.int k n)) :
 dM P N l ⟨d,.call { callee:=.builtin .max,args:=#[x,y],argTypes:=ats },t,ps,af,g⟩ w (.int k (imax m n)):=fun a ha=>by
 simp[execOp,resolve,invoke,builtin,ha.ev hx,ha.ev hy,Builtin.max_,Builtin.max2,imax]
theorem AL{x:Operand}{vs:Array Value}{i:Nat}{v:Value}(hx:ev l x=some (.tuple vs))(hv:vs[i]? = some v):dM P N l ⟨d,.extract x i,t,ps,af,g⟩ w v:=fun a ha=>by
 simp[execOp,ha.ev hx,Instr.extract,hv]
theorem rJ{x:Operand}{ad:Addr}(hx:ev l x=some (.pointer (some ad))):dM P N l ⟨d,.nilCheck x,t,ps,af,g⟩ w (.pointer (some ad)):=fun a ha=>by
 simp[execOp,ha.ev hx]
def Nz(P:Program)(s:TypeId)(f off:Nat):Prop:=∀(w:World) (a:Addr),(Instr.fieldAt s (.pointer (some a)) f).run P w=.ok (.pointer (some (a.add off))) w
theorem Ct{s:TypeId}{f off:Nat}{fs:Array Field}{fd:Field}{i:TypeInfo}(hu:P.underlying s=some (.struct fs))(hf:fs[f]? = some fd)(hi:P.info? fd.type=some i)(hs:i.size≠0)(ho:fd.offset=off):Nz P s f off:=fun w a=>by
 subst ho;simp[Instr.fieldAt,run_underlying hu,hf,Instr.sureAddr,fieldPlace,sizeOf,typeInfo,hi,hs]
theorem vw{s:TypeId}{x:Operand}{f off:Nat}{ad ad':Addr}(hf:Nz P s f off)(hx:ev l x=some (.pointer (some ad)))(he:ad.add off=ad'):dM P N l ⟨d,.fieldAddr s x f,t,ps,af,g⟩ w (.pointer (some ad')):=fun a ha=>by
 subst he;simp only[execOp,ha.ev hx,Sem.run_bind,hf w ad,Result.andThen_ok];rfl
theorem Oa{s:TypeId}{x:Operand}{f:Nat}{fs:Array Field}{fd:Field}{cs:List Value}{v:Value}(hu:P.underlying s=some (.struct fs))(hf:fs[f]? = some fd)(ha1:∀w,(isAgg fd.type).run P w=.ok false w)
 (hx:ev l x=some (.agg cs.toArray)) (hv:cs[fd.offset]? = some v):dM P N l ⟨d,.field s x f,t,ps,af,g⟩ w v:=fun a ha=>by
 simp[execOp,ha.ev hx,Instr.field,run_underlying hu,hf,asAgg,part,ha1,hv]
theorem N9{s:TypeId}{x:Operand}{f n:Nat}{fs:Array Field}{fd:Field}{cs vs:List Value}(hu:P.underlying s=some (.struct fs))(hf:fs[f]? = some fd)(ha1:∀w,(isAgg fd.type).run P w=.ok true w)(hn:∀w,(sizeOf fd.type).run P w=.ok n w)
 (hx:ev l x=some (.agg cs.toArray)) (hv:(cs.drop fd.offset).take n=vs):dM P N l ⟨d,.field s x f,t,ps,af,g⟩ w (.agg vs.toArray):=fun a ha=>by
 subst hv;simp[execOp,ha.ev hx,Instr.field,run_underlying hu,hf,asAgg,part,ha1,hn,List.extract_toArray,List.extract_eq_take_drop]
theorem N8{s e:TypeId}{x i:Operand}{n:Nat}{k:IntKind}{iv:Int}{cs:List Value}{v:Value}(hu:P.underlying s=some (.array n e))(ha1:∀w,(isAgg e).run P w=.ok false w)(hs:∀w,(sizeOf e).run P w=.ok 1 w)
 (hx:ev l x=some (.agg cs.toArray)) (hi:ev l i=some (.int k iv)) (hn:cs.length=n) (hv:idx cs iv=some v):dM P N l ⟨d,.index s x i,t,ps,af,g⟩ w v:=fun a ha=>by
 unfold idx at hv;split at hv
 ·rename_i h0;have hlt:iv.toNat<n:=by
   obtain⟨h,_⟩:=List.getElem?_eq_some_iff.1 hv;omega
  have h2:iv<(n:Int):=by omega
  simp[execOp,ha.ev hx,ha.ev hi,Instr.index,run_underlying hu,asIntOf,h0,h2,part,ha1,hs,hv]
 ·cases hv
def LK(P:Program)(fs:List Field):Option (List (Nat×Nat)):=fs.mapM fun f=>(P.info? f.type).map fun i=>(f.offset,i.size)
theorem run_places(fs:List Field):∀pl,LK P fs=some pl->(fs.mapM (m:=Sem) fun f=>do pure (f.offset,← sizeOf f.type)).run P w=.ok pl w:=by
 induction fs with
 | nil=>intro pl h;simp[LK]at h;subst h;rfl
 | cons f fs ih=>
   intro pl h;simp only[LK,List.mapM_cons]at h;cases hi:P.info? f.type with
   | none=>simp[hi]at h
   | some i=>
     cases hr:List.mapM (fun f=>(P.info? f.type).map fun i=>(f.offset,i.size)) fs with
     | none=>simp[hi,hr]at h
     | some r=>
       simp[hi,hr]at h;subst h;have:=ih r hr;simp[List.mapM_cons,sizeOf,typeInfo,hi]at this ⊢;simp[this]
theorem QK{s:TypeId}{fs:List Field}{z:Value}{pl:List (Nat×Nat)}{parts:List (Nat×Operand)}{vs:List (Nat×Value)}{cs:List Value}(hz:∀w,(zeroValue s).run P w=.ok z w)(hu:P.underlying s=some (.struct fs.toArray))(hpl:LK P fs=some pl)
 (hv:parts.mapM (fun p=>(ev l p.2).map fun v=>(p.1,v))=some vs) (hf:Instr.fill (pl[·]?) z.cells vs=some cs.toArray):dM P N l ⟨d,.build s parts.toArray,t,ps,af,g⟩ w (.agg cs.toArray):=fun a ha=>by
 have hvs:∀(parts:List (Nat×Operand)) vs,parts.mapM (fun p=>(ev l p.2).map fun v=>(p.1,v))=some vs->parts.map (fun p=>(p.1,a.eval p.2))=vs:=by
  intro parts
  induction parts with
  | nil=>intro vs h;simp at h;subst h;rfl
  | cons p ps ih=>
    intro vs h;simp only[List.mapM_cons]at h;cases he:ev l p.2 with
    | none=>simp[he]at h
    | some v=>
      cases hr:List.mapM (fun p=>(ev l p.2).map fun v=>(p.1,v)) ps with
      | none=>simp[he,hr]at h
      | some r=>
        simp[he,hr]at h;subst h;simp[ha.ev he,ih r hr]
 have h1:=hvs parts vs hv;have h2:=run_places (P:=P) (w:=w) fs pl hpl;have h2':((List.mapM (fun f=>Prod.mk f.offset <$> sizeOf f.type) fs:Sem _)).run P w=.ok pl w:=h2;simp[execOp,Instr.build,hz,run_underlying hu,h1,h2',hf]
theorem WM{a:Act}(ha:Holds N l a):∀(parts:List (Nat×Operand)) vs,parts.mapM (fun p=>(ev l p.2).map fun v=>(p.1,v))=some vs->parts.map (fun p=>(p.1,a.eval p.2))=vs:=by
 intro parts
 induction parts with
 | nil=>intro vs h;simp at h;subst h;rfl
 | cons p ps ih=>
   intro vs h;simp only[List.mapM_cons]at h;cases he:ev l p.2 with
   | none=>simp[he]at h
   | some v=>
     cases hr:List.mapM (fun p=>(ev l p.2).map fun v=>(p.1,v)) ps with
     | none=>simp[he,hr]at h
     | some r=>
       simp[he,hr]at h;subst h;simp[ha.ev he,ih r hr]
theorem IU{s e:TypeId}{n sz:Nat}{z:Value}{parts:List (Nat×Operand)}{vs:List (Nat×Value)}{cs:List Value}(hz:∀w,(zeroValue s).run P w=.ok z w)(hu:P.underlying s=some (.array n e))(hs:∀w,(sizeOf e).run P w=.ok sz w)
 (hv:parts.mapM (fun p=>(ev l p.2).map fun v=>(p.1,v))=some vs) (hf:Instr.fill (fun i=>some (i*sz,sz)) z.cells vs=some cs.toArray):dM P N l ⟨d,.build s parts.toArray,t,ps,af,g⟩ w (.agg cs.toArray):=fun a ha=>by
 have h1:=WM ha parts vs hv;simp[execOp,Instr.build,hz,run_underlying hu,h1,hs,hf]
theorem IL{f:FuncId}{cap:List Operand}{vs:List Value}(hv:cap.mapM (ev l)=some vs):dM P N l ⟨d,.makeFunc (.func f) #[] cap.toArray,t,ps,af,g⟩ w (.func (.func f) #[] vs.toArray):=fun a ha=>by
 have:∀(cap:List Operand) vs,cap.mapM (ev l)=some vs->cap.map a.eval=vs:=by
  intro cap
  induction cap with
  | nil=>intro vs h;simp at h;subst h;rfl
  | cons p ps ih=>
    intro vs h;simp only[List.mapM_cons]at h;cases he:ev l p with
    | none=>simp[he]at h
    | some v=>
      cases hr:ps.mapM (ev l)with
      | none=>simp[he,hr]at h
      | some r=>
        simp[he,hr]at h;subst h;simp[ha.ev he,ih r hr]
 simp[execOp,Instr.makeFunc,this cap vs hv]
theorem Li{a:Act}(ha:Holds N l a):∀(cap:List Operand) vs,cap.mapM (ev l)=some vs->cap.map a.eval=vs:=by
 intro cap
 induction cap with
 | nil=>intro vs h;simp at h;subst h;rfl
 | cons p ps ih=>
   intro vs h;simp only[List.mapM_cons]at h;cases he:ev l p with
   | none=>simp[he]at h
   | some v=>
     cases hr:ps.mapM (ev l)with
     | none=>simp[he,hr]at h
     | some r=>
       simp[he,hr]at h;subst h;simp[ha.ev he,ih r hr]
theorem Vx{f:FuncId}{args:List Operand}{ats:Array TypeId}{vs:List Value}(hc:∀args w,(callFunc f args).run P w=.ok (.enter f args) w)(hv:args.mapM (ev l)=some vs) :
 XJ P N l ⟨d,.call { callee:=.value (.func f),args:=args.toArray,argTypes:=ats },t,ps,af,g⟩ w f vs.toArray:=fun a ha=>by
 simp[execOp,resolve,invoke,Deferred.ofValue,Act.eval,hc,Li ha args vs hv]
theorem Q8{f:FuncId}{s:Nat}{args:List Operand}{ats:Array TypeId}{vs cap:List Value}(hc:∀args w,(callFunc f args).run P w=.ok (.enter f args) w)(hs:lk s l=some (.func (.func f) #[] cap.toArray))(hv:args.mapM (ev l)=some vs) :
 XJ P N l ⟨d,.call { callee:=.value (.tmp s),args:=args.toArray,argTypes:=ats },t,ps,af,g⟩ w f (vs++cap).toArray:=fun a ha=>by
 have h1:a.eval (.tmp s)=.func (.func f) #[] cap.toArray:=ha.ev (x:=.tmp s) hs;simp[execOp,resolve,invoke,Deferred.ofValue,h1,hc,Li ha args vs hv]
theorem Vw{f:FuncId}{s:Nat}{args:List Operand}{ats:Array TypeId}{vs:List Value}{p:Value}(hc:∀args w,(callFunc f args).run P w=.ok (.enter f args) w)(hs:lk s l=some (.func (.func f) #[p] #[]))(hv:args.mapM (ev l)=some vs) :
 XJ P N l ⟨d,.call { callee:=.value (.tmp s),args:=args.toArray,argTypes:=ats },t,ps,af,g⟩ w f (p::vs).toArray:=fun a ha=>by
 have h1:a.eval (.tmp s)=.func (.func f) #[p] #[]:=ha.ev (x:=.tmp s) hs;simp[execOp,resolve,invoke,Deferred.ofValue,h1,hc,Li ha args vs hv]
end
def enumFrom(i:Nat):List Value->Env
 | []=>[]
 | v::vs=>(i,v)::enumFrom (i+1) vs
theorem ML:∀(vs:List Value) (i t:Nat) (v:Value),lk t (enumFrom i vs)=some v->i<=t/\vs[t-i]? = some v
 | [],i,t,v,h=>by cases h
 | u::vs,i,t,v,h=>by
   simp only[enumFrom,lk]at h;cases hb:Nat.beq t i with
   | true=>
     rw[hb]at h;simp only[Option.some.injEq]at h;subst h;have:=Nat.eq_of_beq_eq_true hb;subst this;simp
   | false=>
     rw[hb]at h;obtain⟨h1,h2⟩:=ML vs (i+1) t v h;refine⟨by omega,?_⟩;have:t-i=(t-(i+1))+1:=by omega
     rw[this];simpa using h2
def abH(P:Program)(fn:Func)(R:Ending->World->Prop)(a:Act)(w:World):Prop:=a.defers=[]/\∃v,(results fn a.tmps).run P w=.ok v w/\R (.returned v) w
theorem JO{P:Program}{px:Value->World->Prop}{f:FuncId}{fn:Func}{c:Code}{vs:List Value}{w:World}{R:Ending->World->Prop}{N:Nat}(hf:P.funcs[f]? = some fn)(hb:fn.body=some c)(hN:fn.ntmps=N)(hle:Nat.ble vs.length N=true)(hpx:∀v w,px v w->R (.panicked [pe v]) w)
 (h:WC P px c (abH P fn R) (fun _ _ _=>False) (abH P fn R) N (enumFrom 0 vs) w):Calls P f vs.toArray w R:=by
 subst hN;have hle':vs.length<=fn.ntmps:=Nat.le_of_ble_eq_true hle;refine calls_of_wp hf hb (wp_mono (h _ ⟨?_,rfl,?_⟩) fun e a w hq=>?_)
 ·simp;omega
 ·intro t v hv;obtain⟨_,h2⟩:=ML vs 0 t v hv;simp only[Nat.sub_zero]at h2;have hlt:=(List.getElem?_eq_some_iff.1 h2).1;rw[Array.getElem?_append_left (by simpa using hlt)];simpa using h2
 ·cases e <;> first | exact hq | exact hq.elim | (obtain⟨v,rfl,hd,hq⟩:=hq;exact⟨hd,hpx v w hq⟩)
def xK(tmps:Array Value):ResultVar->Sem Value
 | .tmp t=>pure (tmps.getD t undef)
 | .cell p t=>do loadVar t (← asAddr (tmps.getD p undef))
def RV1(P:Program)(N:Nat)(l:Env)(w:World)(rv:ResultVar)(v:Value):Prop:=
 ∀a,Holds N l a->(xK a.tmps rv).run P w=.ok v w
def RVs(P:Program)(N:Nat)(l:Env)(w:World):List ResultVar->List Value->Prop
 | [],[]=>True
 | r::rs,v::vs=>RV1 P N l w r v/\RVs P N l w rs vs
 | _,_=>False
theorem Vp{P:Program}{N:Nat}{l:Env}{w:World}{t:Nat}{v:Value}(h:lk t l=some v):RV1 P N l w (.tmp t) v:=fun a ha=>by
 simp[xK,ha.get t v h]
def rO:List Value->Value
 | [v]=>v
 | vs=>.tuple vs.toArray
theorem IV{P:Program}{N:Nat}{l:Env}{w:World}{fn:Func}{rs:List ResultVar}{vs:List Value}(hr:fn.results=rs.toArray)(h:RVs P N l w rs vs){a:Act}(ha:Holds N l a):(results fn a.tmps).run P w=.ok (rO vs) w:=by
 have key:∀(rs:List ResultVar) (vs:List Value),RVs P N l w rs vs->(rs.mapM (xK a.tmps)).run P w=.ok vs w:=by
  intro rs
  induction rs with
  | nil=>intro vs h;cases vs with
    | nil=>rfl
    | cons v vs=>exact h.elim
  | cons r rs ih=>
    intro vs h;cases vs with
    | nil=>exact h.elim
    | cons v vs=>
      have h1:=h.1 a ha;have h2:=ih vs h.2;simp only[List.mapM_cons,Sem.run_bind,h1,h2,Result.andThen_ok,Sem.run_pure]
 have h1:=key rs vs h;have e:results fn a.tmps=(do let vs ← rs.toArray.mapM (xK a.tmps);pure (if h:vs.size=1 then vs[0]else .tuple vs)):=by
  unfold results;rw[hr];congr 1
 rw[e];simp only[List.mapM_toArray,Sem.run_bind,Sem.run_map,h1,Result.andThen_ok,Sem.run_pure]
 match vs with
 | []=>simp[rO]
 | [v]=>simp[rO]
 | v::u::vs=>simp[rO]
end V
end Go.Proofs.YtbgfhaahhdnogaaGreat
