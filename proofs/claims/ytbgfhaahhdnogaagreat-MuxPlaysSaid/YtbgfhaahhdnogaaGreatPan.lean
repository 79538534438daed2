/- Functions that panic. -/
import Derived.Test.YtbgfhaahhdnogaaGreatLab
import Derived.Defers
import Derived.Recover
namespace Go.Proofs.YtbgfhaahhdnogaaGreat
namespace V
section
variable {P:Program} {N n0:Nat} {fx:Fx} {env:bO} {its:List Item} {aX:KI} {κ1:List Conc} {ops:Array Oper} {rest:List Oper} {Kn:Act→World→Prop} {Ke:Nat→Act→World→Prop} {Kr:Act→World→Prop} {fuel:Nat} {bs:List Bool}
end
def Qy(P:Program)(f:FuncId)(xs:List SV)(its:List Item)(v:Value):Prop:=
 ∀U0 κ w (gl:sw U0 (dD its κ) w),St its.length ⟨U0,dD its κ,w,κ,gl,fun _ _=>False⟩ (mD 0 xs) its κ w→Calls P f (xs.map (SV.den κ)).toArray w fun e w'=>e = .panicked [pe v]∧St its.length ⟨U0,dD its κ,w,κ,gl,fun _ _=>False⟩ [] its κ w'
theorem Qy.enter{P:Program}{f:FuncId}{fn:Func}{c:Code}{xs:List SV}{its:List Item}{v:Value}{N m:Nat}(hf:P.funcs[f]? = some fn)(hb:fn.body=some c)(hN:fn.ntmps=N)(hle:Nat.ble xs.length N=true)(hm:its.length=m)
 (h:∀fx,(∀κ w,St m fx [] its κ w→fx.px v w)→Z P c (fun _ _=>False) (fun _ _ _=>False) (fun _ _=>False) N m fx (mD 0 xs) its):Qy P f xs its v:=fun U0 κ w gl S=>by
 subst hm
 obtain⟨px,hpx⟩:∃px:Value→World→Prop,px=fun v' w'=>v'=v∧St its.length ⟨U0,dD its κ,w,κ,gl,fun _ _=>False⟩ [] its κ w':=⟨_,rfl⟩
 have S':St its.length ⟨U0,dD its κ,w,κ,gl,px⟩ (mD 0 xs) its κ w:=⟨S.len,S.pre,S.n0,S.l9,S.BL,S.ctx,S.ok⟩
 have hx:∀κ' w',St its.length ⟨U0,dD its κ,w,κ,gl,px⟩ [] its κ' w'→px v w':=fun κ' w' T=>by
  have h1:=T.pre
  rw[List.take_of_length_le (Nat.le_of_eq T.len)]at h1
  subst h1
  rw[hpx]
  exact⟨rfl,⟨T.len,T.pre,T.n0,T.l9,T.BL,T.ctx,T.ok⟩⟩
 have h0:=h ⟨U0,dD its κ,w,κ,gl,px⟩ hx κ w S'
 rw[pO]at h0
 refine uS (px:=px) (R:=fun e w'=>e = .panicked [pe v]∧St its.length ⟨U0,dD its κ,w,κ,gl,fun _ _=>False⟩ [] its κ w') hf hb hN (by simpa using hle) (fun v' w' hv=>?_) (fun a ha=>wp_mono (h0 a ha) fun e a w hq=>?_)
 ·rw[hpx]at hv
  obtain⟨rfl,hv⟩:=hv
  exact⟨rfl,hv⟩
 ·cases e <;> first | exact hq.elim | exact hq
end V
end Go.Proofs.YtbgfhaahhdnogaaGreat
