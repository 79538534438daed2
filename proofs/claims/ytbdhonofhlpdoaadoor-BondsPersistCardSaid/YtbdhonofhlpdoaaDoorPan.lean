/- Functions that panic. -/
import Derived.Test.YtbdhonofhlpdoaaDoorLab
import Derived.Defers
import Derived.Recover
namespace Go.Proofs.YtbdhonofhlpdoaaDoor
namespace V
section
variable {P:Program} {N n0:Nat} {fx:Fx} {env:Env'} {its itsK:List Item} {κ1:List Conc} {ops:Array Oper} {rest:List Oper} {Kn:Act→World→Prop} {Ke:Nat→Act→World→Prop} {Kr:Act→World→Prop} {fuel:Nat} {bs:List Bool}
theorem SL.pan {f:FuncId} {o:Oper} {b:Bool} {v:Value} (hg:o.guard=none) (hc:∀args w,(callFunc f args).run P w = .ok (.enter f args) w) (h:calE env o.op=some (f,[vb b])) (hb:b=false)
    (hn:∀w,Calls P f #[.bool false] w fun e w'=>e = .panicked [pe v]∧w'=w) (hp:∀κ w,St n0 fx env its κ w→fx.px v w):SL P ops (o::rest) Kn N n0 fx env its:=fun κ w S a ha=>by
  subst hb
  unfold wpList
  rw [if_pos (by simp [Region.wanted,hg])]
  refine .inl ?_
  unfold Oper.wp
  rw [call_run hc h a ha]
  simp only [Oper.upon]
  refine (hn w).mono ?_
  rintro e w' ⟨rfl,rfl⟩
  exact .inr ⟨v,rfl,ha.defers,hp κ _ S⟩
theorem SW.pan {ks:List Bool} {i:Nat} {f:FuncId} {o:Oper} {b:Bool} {v:Value} (hi:ops[i]? = some o) (hg:o.guard=none) (hc:∀args w,(callFunc f args).run P w = .ok (.enter f args) w) (h:calE env o.op=some (f,[vb b])) (hb:b=false)
    (hn:∀w,Calls P f #[.bool false] w fun e w'=>e = .panicked [pe v]∧w'=w) (hp:∀κ w,St n0 fx env its κ w→fx.px v w):SW P ops Kn ks itsK κ1 fuel bs N n0 fx env its i:=fun κx w S a ha=>by
  subst hb
  unfold wpOp
  have hw:Region.wanted o (yielded ops a.tmps)=true:=by simp [Region.wanted,hg]
  simp only [hi,hw,if_true]
  refine .inl ?_
  unfold Oper.wp
  rw [call_run hc h a ha]
  simp only [Oper.upon]
  refine (hn w).mono ?_
  rintro e w' ⟨rfl,rfl⟩
  exact .inr ⟨v,rfl,ha.defers,hp _ _ S⟩
theorem px_at {itsP:List Item} {v:Value} (hpx:∀κ w,St n0 fx [] itsP κ w→fx.px v w) (js:List Jx) (e:(renIs js itsP,vwB n0 its.length js [] itsP (some []) (srcs its js itsP))=(srcs its js itsP,true)):∀κ w,St n0 fx env its κ w→fx.px v w:=fun κ w S=>by
  injection e with h1 h2
  exact hpx _ w (S.view h1 h2)
end
def SpecP (P:Program) (f:FuncId) (xs:List SV) (its:List Item) (v:Value):Prop:=
  ∀U0 κ w (gl:Globs U0 (Lof its κ) w),St its.length ⟨U0,Lof its κ,w,κ,gl,fun _ _=>False⟩ (enumS 0 xs) its κ w→Calls P f (xs.map (SV.den κ)).toArray w fun e w'=>e = .panicked [pe v]∧St its.length ⟨U0,Lof its κ,w,κ,gl,fun _ _=>False⟩ [] its κ w'
theorem SpecP.enter {P:Program} {f:FuncId} {fn:Func} {c:Code} {xs:List SV} {its:List Item} {v:Value} {N m:Nat} (hf:P.funcs[f]? = some fn) (hb:fn.body=some c) (hN:fn.ntmps=N) (hle:Nat.ble xs.length N=true) (hm:its.length=m)
    (h:∀fx,(∀κ w,St m fx [] its κ w→fx.px v w)→SC P c (fun _ _=>False) (fun _ _ _=>False) (fun _ _=>False) N m fx (enumS 0 xs) its):SpecP P f xs its v:=fun U0 κ w gl S=>by
  subst hm
  obtain⟨px,hpx⟩:∃px:Value→World→Prop,px=fun v' w'=>v'=v∧St its.length ⟨U0,Lof its κ,w,κ,gl,fun _ _=>False⟩ [] its κ w':=⟨_,rfl⟩
  have S':St its.length ⟨U0,Lof its κ,w,κ,gl,px⟩ (enumS 0 xs) its κ w:=⟨S.len,S.pre,S.n0,S.sce,S.sci,S.ctx,S.ok⟩
  have hx:∀κ' w',St its.length ⟨U0,Lof its κ,w,κ,gl,px⟩ [] its κ' w'→px v w':=fun κ' w' T=>by
    have h1:=T.pre
    rw [List.take_of_length_le (Nat.le_of_eq T.len)] at h1
    subst h1
    rw [hpx]
    exact⟨rfl,⟨T.len,T.pre,T.n0,T.sce,T.sci,T.ctx,T.ok⟩⟩
  have h0:=h ⟨U0,Lof its κ,w,κ,gl,px⟩ hx κ w S'
  rw [denE_enumS] at h0
  refine calls_enter (px:=px) (R:=fun e w'=>e = .panicked [pe v]∧St its.length ⟨U0,Lof its κ,w,κ,gl,fun _ _=>False⟩ [] its κ w') hf hb hN (by simpa using hle) (fun v' w' hv=>?_) (fun a ha=>wp_mono (h0 a ha) fun e a w hq=>?_)
  · rw [hpx] at hv
    obtain⟨rfl,hv⟩:=hv
    exact⟨rfl,hv⟩
  · cases e <;> first | exact hq.elim | exact hq
end V
end Go.Proofs.YtbdhonofhlpdoaaDoor
