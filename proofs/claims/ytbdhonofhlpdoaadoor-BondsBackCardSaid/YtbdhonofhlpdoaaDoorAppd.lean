/- 'append(l[:a], l[a+1:]...)' at a row of the call's own, in a -/
import Derived.Test.YtbdhonofhlpdoaaDoorDel
import Derived.Test.YtbdhonofhlpdoaaDoorTsub
namespace Go.Proofs.YtbdhonofhlpdoaaDoor
namespace V
section
variable {P:Program} {α:Type} {sz:Nat} {R:RT α} [GRep R] {N:Nat} {U0:Nat→Prop} {X0:List (Option Nat)} {w0 w:World} {L:List (Option Nat)}
theorem rw_appdel {ty E:TypeId} {l:Env} {d:Option Nat} {t:TypeId} {ps:String} {af:Array Edge} {g:Option (Nat×Bool)} {x y:Operand} {i c a b:Nat} {A:Option Addr} {dt:List α} (hu:P.underlying ty=some (.slice E)) (hs:∀w,(sizeOf E).run P w = .ok sz w) (hpos:0<sz)
    (hx:ev l x=some (.slice (if c=0 then A else A.map (·.add (0 * sz))) a (c - 0))) (hy:ev l y=some (.slice (if c=b then A else A.map (·.add (b * sz))) (dt.length - b) (c - b))) (h1:a≤b) (h2:b≤dt.length)
    (h:Own sz E R (Mu U0 L) w A c dt) (hL:L[i]? = some (ob A)) (C:Ctx U0 X0 w0 L w) :
    RunW P N l ⟨d,.call { callee:=.builtin .append,args:=#[x,y],argTypes:=#[ty,ty] },t,ps,af,g⟩ w (OwnNew sz E R U0 X0 w0 L w [ob A] (L.set i) (dt.take a++dt.drop b)):=fun ac haa=>by
  have hex:=haa.ev hx
  have hey:=haa.ev hy
  have hlen:(dt.take a++dt.drop b).length=a+(dt.length - b):=by
    rw [List.length_append,List.length_take,List.length_drop,Nat.min_eq_left (by omega)]
  rcases own_form h with ⟨rfl,rfl,rfl⟩ | ⟨q,pre,cur,post,fz,rfl,hfz,hg,hle,hm,hsz,he⟩
  · have hb:b=0:=by simpa using h2
    have ha:a=0:=by omega
    subst hb
    subst ha
    have hset:L.set i (ob none)=L:=set_same hL
    refine ⟨.slice none 0 0,w,?_,none,0,rfl,?_,?_,?_⟩
    · simp only [execOp,resolve,invoke,builtin,Sem.run_bind,Sem.run_pure,Result.andThen_ok,List.map_toArray,List.map_cons,List.map_nil,hex,hey]
      simp [Builtin.append_,run_underlying hu,hs,Builtin.lenOf,Builtin.firstCells]
    · rw [hset]; exact h
    · rw [hset]; exact C
    · rw [hset]
      exact⟨Nat.le_refl _,fun _ _ _=>rfl,fun b e=>(by rw [List.mem_singleton] at e; rw [e]; exact List.mem_of_getElem? hL),fun _ _ h=>h⟩
  · have hbc:b≤c:=by omega
    have hcur:(pre++cur++post).drop pre.length=cur++post:=by rw [List.append_assoc,List.drop_left]
    obtain⟨news,hnews⟩:∃news,news=(cur.take (dt.length * sz)).drop (b * sz):=⟨_,rfl⟩
    have hcl:dt.length * sz≤cur.length:=by rw [hsz]; exact Nat.mul_le_mul_right _ hle
    have hnl:news.length=(dt.length - b) * sz:=by
      rw [hnews,List.length_drop,List.length_take,Nat.min_eq_left hcl,Nat.sub_mul]
    have hA1:(if c=0 then (some ⟨q,pre.length,none⟩:Option Addr) else (some (⟨q,pre.length,none⟩:Addr)).map (·.add (0 * sz)))=some ⟨q,pre.length,none⟩:=by
      rw [Nat.zero_mul]
      split
      · rfl
      · rw [Option.map_some,add_lit]; rfl
    obtain⟨ad,hA2,hsrc⟩:∃ad:Addr,(if c=b then (some ⟨q,pre.length,none⟩:Option Addr) else (some (⟨q,pre.length,none⟩:Addr)).map (·.add (b * sz)))=some ad∧∀j u,news[j]? = some u→w.cell? (ad.add j)=some u:=by
      by_cases hc:c=b
      · refine ⟨_,if_pos hc,fun j u hu=>?_⟩
        have h0:news.length=0:=by
          rw [hnl,show dt.length - b=0 by omega,Nat.zero_mul]
        rw [List.length_eq_zero_iff.1 h0] at hu
        simp at hu
      · refine ⟨⟨q,pre.length+b * sz,none⟩,by rw [if_neg hc,Option.map_some,add_lit],fun j u hu=>?_⟩
        rw [hnews,List.getElem?_drop,List.getElem?_take] at hu
        split at hu
        · rw [add_lit]
          have h5:=(List.getElem?_eq_some_iff.1 hu).1
          simp only [World.cell?,hg]
          have:(pre++cur++post)[pre.length+b * sz+j]? = some u:=by
            rw [List.append_assoc,List.getElem?_append_right (by omega),List.getElem?_append_left (by omega),← hu]
            congr 1
            omega
          simpa using this
        · cases hu
    rw [hA1] at hex
    rw [hA2] at hey
    have hone:=Els.one _ _ he
    have hrun:=run_append_room_z (P:=P) w ty t E sz hu hs q pre.length a (c - 0) (pre++cur++post).toArray fz (by simpa using hfz) hg ad (dt.length - b) (c - b) news hnl hsrc (fun u hu=>hone u (by rw [hnews] at hu; exact List.mem_of_mem_drop hu)) (by omega) (by
      have:a * sz+news.length≤dt.length * sz:=by
        rw [hnl,← Nat.add_mul]
        exact Nat.mul_le_mul_right _ (by omega)
      simp only [List.size_toArray,List.length_append]
      omega)
    have hasz:a * sz≤cur.length:=Nat.le_trans (Nat.mul_le_mul_right _ (by omega)) hcl
    have hans:a * sz+news.length≤dt.length * sz:=by
      rw [hnl,← Nat.add_mul]
      exact Nat.mul_le_mul_right _ (by omega)
    have hrow:(pre++cur++post).take (pre.length+a * sz)++news++(pre++cur++post).drop (pre.length+a * sz+news.length)=pre++(cur.take (a * sz)++news++cur.drop (a * sz+news.length))++post:=by
      have e1:(pre++cur++post).take (pre.length+a * sz)=pre++cur.take (a * sz):=by
        rw [List.append_assoc,List.take_append,List.take_of_length_le (by omega),Nat.add_sub_cancel_left,List.take_append,show a * sz - cur.length=0 by omega,List.take_zero,List.append_nil]
      have e2:(pre++cur++post).drop (pre.length+a * sz+news.length)=cur.drop (a * sz+news.length)++post:=by
        rw [List.append_assoc,List.drop_append,List.drop_of_length_le (by omega),List.nil_append,show pre.length+a * sz+news.length - pre.length=a * sz+news.length by omega,List.drop_append,show a * sz+news.length - cur.length=0 by omega,List.drop_zero]
      rw [e1,e2]
      simp only [List.append_assoc]
    obtain⟨w',hw'⟩:∃w',w'=w.setRow q (pre++(cur.take (a * sz)++news++cur.drop (a * sz+news.length))++post).toArray:=⟨_,rfl⟩
    have hrow':((pre++cur++post).toArray.toList.take (pre.length+a * sz)++news++(pre++cur++post).toArray.toList.drop (pre.length+a * sz+news.length))=pre++(cur.take (a * sz)++news++cur.drop (a * sz+news.length))++post:=hrow
    rw [hrow',← hw'] at hrun
    have hg':w'.heap[q]? = some (.cells (pre++(cur.take (a * sz)++news++cur.drop (a * sz+news.length))++post).toArray E fz):=by
      rw [hw']
      exact setRow_heap w q _ _ E fz hg
    have hother:∀k,q≠k→w'.heap[k]? = w.heap[k]?:=fun k hne=>by
      rw [hw']
      exact setRow_other _ q k _ (fun e=>hne e.symm)
    have hT:=C.turn (w':=w') (y:=some q) (L':=L.set i (some q)) hL (by rw [hw']; rfl) (by rw [hw']; rfl) (by rw [hw']; rfl) (by rw [hw']; simp) (fun k _ hne=>hother k (fun e=>hne (by rw [e]; rfl))) (.inl rfl) rfl
    have hcl2:(cur.take (a * sz)++news++cur.drop (a * sz+news.length)).length=cur.length:=by
      rw [List.length_append,List.length_append,List.length_take,List.length_drop]
      omega
    refine ⟨.slice (some ⟨q,pre.length,none⟩) (a+(dt.length - b)) (c - 0),w',?_,some ⟨q,pre.length,none⟩,c,by rw [hlen]; rfl,?_,hT.1,hT.2⟩
    · simp only [execOp,resolve,invoke,builtin,Sem.run_bind,Sem.run_pure,Result.andThen_ok,List.map_toArray,List.map_cons,List.map_nil,hex,hey,hrun]
    · refine own_mk2 (cur:=cur.take (a * sz)++news++cur.drop (a * sz+news.length)) (post:=post) (fz:=fz) ?_ hg' (by rw [hlen]; omega) hm (by rw [hcl2,hsz]) ?_
      · rw [List.length_append,List.length_append,hcl2,← List.length_append,← List.length_append]
        exact hfz
      · have e0:(cur.take (a * sz)++news++cur.drop (a * sz+news.length)).take ((dt.take a++dt.drop b).length * sz)=cur.take (a * sz)++news:=by
          have:(dt.take a++dt.drop b).length * sz=(cur.take (a * sz)++news).length:=by
            rw [hlen,List.length_append,List.length_take,hnl,Nat.min_eq_left hasz,Nat.add_mul]
          rw [this]
          exact List.take_left
        have e1:=Els.take a dt _ he
        have e2:=Els.drop b dt _ he
        rw [List.take_take,Nat.min_eq_left (Nat.mul_le_mul_right _ (by omega))] at e1
        rw [← hnews] at e2
        rw [e0]
        exact Els.step hT.2.h1 hT.2.mono _ _ (Els.append _ _ _ _ e1 e2)
end
theorem lk_none {κ:List Conc} {d:Nat}:∀{env:Env'},(env.all fun p=>!(Nat.beq d p.1))=true→∀v,lk d (denE κ env)≠some v
  | [],_,v=>by intro h; cases h
  | (t,x)::env,h,v=>by
    rw [List.all_cons,Bool.and_eq_true] at h
    intro e
    have e':lk d ((t,x.den κ)::denE κ env)=some v:=e
    simp only [lk] at e'
    have h1:Nat.beq d t=false:=by simpa using h.1
    rw [h1] at e'
    exact lk_none h.2 v e'
theorem mapM_ev {l:Env} {o:Operand} {v:Value} (h:ev l o=some v):(some o).mapM (ev l)=some (some v):=by simp [h]
theorem Holds.drop1 {N:Nat} {d:Nat} {v:Value} {l:Env} {a:Act} (h:Holds N ((d,v)::l) a) (hd:∀u,lk d l≠some u):Holds N l a:=
  ⟨h.size,h.defers,fun t u hu=>h.get t u (by
    simp only [lk]
    cases hb:Nat.beq t d with
    | true=>
      rw [Nat.eq_of_beq_eq_true hb] at hu
      exact absurd hu (hd u)
    | false=>exact hu)⟩
section
variable {P:Program} {N n0:Nat} {fx:Fx} {env:Env'} {its itsK:List Item} {κ1:List Conc} {tt:TT} {ops:Array Oper} {Kn:Act→World→Prop} {fuel fuel':Nat} {bs:List Bool} {α:Type} {sz:Nat} {R:RT α} [GRep R]
theorem SD.appd {ks:List Bool} (htt:TTOk P tt) (D:DK ks itsK κ1) {i2 i6 i7 d2 d6 d7 by_ j:Nat} {t2 t6 t7:TypeId} {ps2 ps6 ps7:String} {af2 af6 af7:Array Edge} {ty E:TypeId} {x y hi lo:Operand} {a:Int} {l l1 l2 l':List α} (bs1 bs2 bs3:List Bool)
    (h2:ops[i2]? = some ⟨some d2,.slice ty x none (some hi) none,t2,ps2,af2,none⟩) (h6:ops[i6]? = some ⟨some d6,.slice ty y (some lo) none none,t6,ps6,af6,none⟩) (h7:ops[i7]? = some ⟨some d7,.call { callee:=.builtin .append,args:=#[.tmp d2,.tmp d6],argTypes:=#[ty,ty] },t7,ps7,af7,none⟩)
    (hx:evS env x=some (vs j)) (hy:evS env y=some (vs j)) (hj:its[j]? = some (.own sz E R l)) (hhi:evS env hi=some (vi .i64 a)) (hlo:evS env lo=some (vi .i64 (w64 (a+1))))
    (hs1:V.sub l 0 a=some l1) (hs2:V.sub l (w64 (a+1)) (len l)=some l2) (hap:app by_ l1 l2=some l') (hf:fuel=fuel'+1+1+1)
    (hB:(Region.noSelect ops&&(Nat.blt d2 N&&(Nat.blt d6 N&&(Nat.blt d7 N&&(Region.free .any ops bs.toArray i2&&((Region.ready .any ops bs.toArray).contains i2&&(Region.free .any ops bs1.toArray i6&&((Region.ready .any ops bs1.toArray).contains i6&&(!(Nat.beq d2 d6)&&((env.all fun p=>!(Nat.beq d2 p.1))&&(env.all fun p=>!(Nat.beq d6 p.1))))))))))))=true)
    (hr7:Region.ready .any ops bs2.toArray=[i7]) (hb1:bs.set i2 true=bs1) (hb2:bs1.set i6 true=bs2) (hb3:bs2.set i7 true=bs3) (hT:(TRow tt ty E sz by_ && !its.any Item.ow)=true) (hK:mask ks its=itsK) (hK':mask ks (its.set j .gone++[.own sz E R l'])=itsK)
    (hk:SD P ops Kn ks itsK κ1 fuel' bs3 N n0 fx ((d7,vs its.length)::env) (its.set j .gone++[.own sz E R l'])):SD P ops Kn ks itsK κ1 fuel bs N n0 fx env its:=fun κx w S=>by
  subst hf
  simp only [Bool.and_eq_true,Bool.not_eq_true'] at hB hT
  obtain⟨hns,hN2,hN6,hN7,hfr2,hrd2,hfr6,hrd6,hne,hd2,hd6⟩:=hB
  obtain⟨hT,how⟩:=hT
  obtain⟨hu,_,hpos,hsz⟩:=trow_get htt hT
  have hpos':0<sz:=by simpa [Nat.blt_eq] using hpos
  obtain⟨cc,hc,hok⟩:=S.conc hj
  cases cc with
  | r A n c=>
    obtain⟨hn,ho⟩:=hok
    subst hn
    have hx':=evS_den (κ:=κ1++κx) hx
    have hy':=evS_den (κ:=κ1++κx) hy
    simp only [SV.den,Cell.den,hc] at hx' hy'
    have hhi':=evS_den (κ:=κ1++κx) hhi
    have hlo':=evS_den (κ:=κ1++κx) hlo
    simp only [SV.den,Cell.den] at hhi' hlo'
    have hcb:l.length≤c∧c≤maxLen:=by
      rcases own_form ho with ⟨_,rfl,rfl⟩ | ⟨_,_,_,_,_,_,_,_,h1,h2,_⟩
      · exact⟨Nat.le_refl _,Nat.zero_le _⟩
      · exact⟨h1,h2⟩
    obtain⟨p1,p2,p3,rfl⟩:=sub_some hs1
    obtain⟨q1,q2,q3,rfl⟩:=sub_some hs2
    obtain⟨_,_,rfl⟩:=app_some hap
    have hmx:c≤9223372036854775807:=hcb.2
    have hln:len l=(l.length:Int):=rfl
    have hw:w64 (a+1)=a+1:=by
      by_cases h:a+1<9223372036854775808
      · exact w64_id (by omega) h
      · unfold w64 at q1
        omega
    have r2:∀w,RunV P N (denE (κ1++κx) env) ⟨some d2,.slice ty x none (some hi) none,t2,ps2,af2,none⟩ w _:=fun w=>sl_run (N:=N) (w:=w) (a:=0) (b:=a) (lov:=none) (hiv:=some (.int .i64 a)) hu hsz hx' rfl (mapM_ev hhi') (.inl ⟨rfl,rfl⟩) (.inr ⟨_,rfl⟩) hcb.1 hcb.2 hs1
    refine WA.take h2 hns hfr2 hrd2 (fun w _=>r2 w) (S.knoK hK D.len D.sc) hN2 hb1 ?_
    have up:∀(o:Operand) (v:Value) (sv:SV),evS env o=some sv→ev (denE (κ1++κx) env) o=some v→ev ((d2,.slice (if c=(0:Int).toNat then A else A.map (·.add ((0:Int).toNat * sz))) (List.drop (0:Int).toNat (List.take a.toNat l)).length (c - (0:Int).toNat))::denE (κ1++κx) env) o=some v:=fun o v sv _ h=>by
      cases o with
      | tmp t=>
        simp only [ev,lk] at h ⊢
        cases hb:Nat.beq t d2 with
        | true=>
          rw [Nat.eq_of_beq_eq_true hb] at h
          exact absurd h (lk_none hd2 v)
        | false=>exact h
      | const u=>exact h
      | global g=>exact h
      | func f=>exact h
    have r6:∀w,RunV P N _ ⟨some d6,.slice ty y (some lo) none none,t6,ps6,af6,none⟩ w _:=fun w=>sl_run (N:=N) (w:=w) (a:=w64 (a+1)) (b:=len l) (lov:=some (.int .i64 (w64 (a+1)))) (hiv:=none) hu hsz (up _ _ _ hy hy') (mapM_ev (up _ _ _ hlo hlo')) rfl (.inr ⟨_,rfl⟩) (.inl ⟨rfl,rfl⟩) hcb.1 hcb.2 hs2
    refine WA.take h6 hns hfr6 hrd6 (fun w _=>r6 w) (S.knoK hK D.len D.sc) hN6 hb2 ?_
    have hL:(Lof its (κ1++κx))[j]? = some (ob A):=Lof_get hj hc
    refine WA.all1 hr7 ?_
    have e62:Nat.beq d6 d6=true:=Nat.beq_refl _
    have hnat:(w64 (a+1)).toNat=a.toNat+1:=by rw [hw]; omega
    have hl1:(List.drop (0:Int).toNat (List.take a.toNat l)).length=a.toNat:=by
      rw [show (0:Int).toNat=0 from rfl,List.drop_zero,List.length_take]
      omega
    have hl2:(List.drop (w64 (a+1)).toNat (List.take (len l).toNat l)).length=l.length - (a.toNat+1):=by
      rw [hnat,List.length_drop,List.length_take,hln,Int.toNat_natCast]
      omega
    have hll:List.drop (0:Int).toNat (List.take a.toNat l)++List.drop (w64 (a+1)).toNat (List.take (len l).toNat l)=l.take a.toNat++l.drop (a.toNat+1):=by
      rw [hnat,hln,Int.toNat_natCast,List.take_length,show (0:Int).toNat=0 from rfl,List.drop_zero]
    rw [hll] at hk hK'
    refine WS.world h7 (rw_appdel (i:=j) (c:=c) (a:=a.toNat) (b:=a.toNat+1) (A:=A) (dt:=l) hu hsz hpos' ?_ ?_ (by omega) (by omega) ho hL S.ctx) hN7 hb3 (fun u w' hv=>?_)
    · show lk d2 ((d6,_)::(d2,_)::_)=_
      simp only [lk,hne,Nat.beq_refl,hl1]
      rfl
    · show lk d6 ((d6,_)::(d2,_)::_)=_
      simp only [lk,Nat.beq_refl]
      rw [hl2,hnat]
    · obtain⟨κy,e1,S'⟩:=appended_st S how hj hc hv
      have e1:=e1 _ rfl
      injection e1 with e1
      subst e1
      rw [List.append_assoc] at S'
      refine ⟨S'.knoK hK' D.len D.sc,?_⟩
      have hsce:=S'.sce
      have h3:=hk (κx++κy) w' (S'.env (by
        unfold scE at hsce ⊢
        rw [List.all_cons,hsce]
        simp [SV.lt,Cell.lt,Nat.blt_eq]))
      have h2:denE (κ1++(κx++κy)) ((d7,vs its.length)::env)=(d7,(vs its.length).den (κ1++κx++κy))::denE (κ1++κx) env:=by
        rw [← List.append_assoc]
        show (d7,_)::denE (κ1++κx++κy) env=_
        rw [denE_app (by rw [S.len]; exact S.sce)]
      rw [h2] at h3
      intro ac hac
      refine h3 ac ⟨hac.size,hac.defers,fun t v hv=>hac.get t v ?_⟩
      simp only [lk] at hv ⊢
      cases hb:Nat.beq t d7 with
      | true=>rw [hb] at hv; exact hv
      | false=>
        rw [hb] at hv
        cases hb6:Nat.beq t d6 with
        | true=>
          rw [Nat.eq_of_beq_eq_true hb6] at hv
          exact absurd hv (lk_none hd6 v)
        | false=>
          cases hb2:Nat.beq t d2 with
          | true=>
            rw [Nat.eq_of_beq_eq_true hb2] at hv
            exact absurd hv (lk_none hd2 v)
          | false=>exact hv
  | _=>exact hok.elim
end
end V
end Go.Proofs.YtbdhonofhlpdoaaDoor
