/- The state behind a call, however it ends. -/
import Derived.Test.YtbdhonofhlpdoaaDoorPan
import Derived.LoopN
import Derived.WalkKit
import Derived.Laws.Pointers
namespace Go.Proofs.YtbdhonofhlpdoaaDoor
namespace V
section
variable {P:Program} {N n0:Nat} {fx:Fx} {its its':List Item} {κ:List Conc} {w:World} {env env':Env'} {js:List Jx} {tt:TT} {ops:Array Oper} {rest:List Oper} {Kn:Act→World→Prop} {Ke:Nat→Act→World→Prop} {Kr:Act→World→Prop}
theorem call_st {asC:List SV} {itsC itsC':List Item} {js:List Jx} (S:St n0 fx env its κ w) (hI:renIs js itsC=srcs its js itsC) (hB:cB its js asC itsC=true) (hB2:(match backI js itsC itsC' its with
    | some l=>scI l.length l
    | none=>false)=true) (hF:hasL js=false∨FlatA itsC.length itsC') :
    ∃U0c glc,St itsC.length ⟨U0c,Lof itsC (js.map (cJ κ)),w,js.map (cJ κ),glc,fun _ _=>False⟩ (enumS 0 asC) itsC (js.map (cJ κ)) w∧∀envC κx w',St itsC.length ⟨U0c,Lof itsC (js.map (cJ κ)),w,js.map (cJ κ),glc,fun _ _=>False⟩ envC itsC' (js.map (cJ κ)++κx) w'→St n0 fx env ((backI js itsC itsC' its).getD []) (κ++κx) w':=by
  simp only [cB,Bool.and_eq_true,Bool.not_eq_true'] at hB
  obtain⟨b1,b2,b3,b4,b5,how,b7⟩:=hB
  obtain⟨r,hr⟩:=Option.isSome_iff_exists.1 b5
  rw [hr] at hI
  obtain⟨hlen,hget⟩:=srcs_get hr hI
  simp only [okG,Bool.and_eq_true] at b2
  obtain⟨hnd,hfz⟩:=b2
  cases hback:backI js itsC itsC' its with
  | none=>rw [hback] at hB2; cases hB2
  | some its2=>
  rw [hback] at hB2
  have hsci2:=hB2
  simp only [Option.getD_some]
  unfold backI at hback
  split at hback
  case h_2=>cases hback
  rename_i aa bb hturn hshs
  injection hback with hback
  subst hback
  rw [← hlen] at hturn hshs
  obtain⟨t1,t2,t3⟩:=turnG_get hturn hnd
  obtain⟨s1,s2⟩:=shIs_get hshs
  have hbk:∀(j i:Nat),js[j]? = some (.g i)∨js[j]? = some (.l i)∨js[j]? = some (.z i)→i<its.length:=bndJ_ok b1
  let Lc:=Lof itsC (js.map (cJ κ))
  let L':List (Option Nat):=(List.range its.length).map fun i=>if i∈ownG js itsC∨i∈frzG js then none else ((Lof its κ)[i]?).join
  have hview:∀(j b:Nat),Lc[j]? = some (some b)→∃i t,js[j]? = some (.g i)∧itsC[j]? = some t∧t.owned=true∧(Lof its κ)[i]? = some (some b):=fun j b h=>view_own hr hI b1 S.len h
  have hL'mem:∀b,some b∈L'→∃i,i∉ownG js itsC∧i∉frzG js∧(Lof its κ)[i]? = some (some b):=by
    intro b hb
    obtain⟨i,hi,he⟩:=List.mem_map.1 hb
    split at he
    · cases he
    · rename_i hn
      exact⟨i,fun h=>hn (.inl h),fun h=>hn (.inr h),join_some he⟩
  have hL'sub:∀b,some b∈L'→some b∈Lof its κ:=fun b hb=>by
    obtain⟨i,_,_,h⟩:=hL'mem b hb
    exact List.mem_of_getElem? h
  have hLc:∀b,some b∈Lc→some b∈Lof its κ∧some b∉L':=by
    intro b hb
    obtain⟨j,hj⟩:=List.getElem?_of_mem hb
    obtain⟨i,t,g1,g2,g3,g4⟩:=hview j b hj
    refine ⟨List.mem_of_getElem? g4,fun h=>?_⟩
    obtain⟨i',h1,_,h3⟩:=hL'mem b h
    by_cases e:i=i'
    · subst e; exact h1 (ownG_mem g1 g2 g3)
    · exact S.ctx.sep i i' b e g4 h3
  have hLcsep:∀(i j b:Nat),i≠j→Lc[i]? = some (some b)→Lc[j]? = some (some b)→False:=by
    intro j k b hjk hj hk
    obtain⟨i,t,g1,g2,g3,g4⟩:=hview j b hj
    obtain⟨i',t',g1',g2',g3',g4'⟩:=hview k b hk
    by_cases e:i=i'
    · subst e
      exact hjk (ownG_inj hnd g1 g2 g3 g1' g2' g3')
    · exact S.ctx.sep i i' b e g4 g4'
  have C0:=S.ctx.sub hL'sub hLc hLcsep
  have hsub:∀b,some b∈Lc++L'→some b∈Lof its κ:=fun b hb=>(List.mem_append.1 hb).elim (fun h=>(hLc b h).1) (hL'sub b)
  have hzz:∀(k i b:Nat),(js[k]? = some (.z i)∨js[k]? = some (.l i))→(Lof its κ)[i]? = some (some b)→some b∉Lc++L':=by
    intro k i b hk hi hb
    rcases List.mem_append.1 hb with h | h
    · obtain⟨j,hj⟩:=List.getElem?_of_mem h
      obtain⟨i',t,g1,g2,g3,g4⟩:=hview j b hj
      have e:i=i':=by
        by_cases e:i=i'
        · exact e
        · exact (S.ctx.sep i i' b e hi g4).elim
      subst e
      rw [List.all_eq_true] at hfz
      have:=hfz i (frzG_mem hk)
      rw [memN_iff.2 (ownG_mem g1 g2 g3)] at this
      cases this
    · obtain⟨i',h1,h2,h3⟩:=hL'mem b h
      by_cases e:i=i'
      · subst e; exact h2 (frzG_mem hk)
      · exact S.ctx.sep i i' b e hi h3
  have hUeq:∀b,Mu (Mu fx.U0 L') Lc b→Mu fx.U0 (Lc++L') b:=by
    rintro b ((h | h) | h)
    · exact .inl h
    · exact .inr (List.mem_append.2 (.inr h))
    · exact .inr (List.mem_append.2 (.inl h))
  have glc:Globs (Mu fx.U0 L') Lc w:=fun p hp=>by
    obtain⟨g0,g1,g2,g3⟩:=fx.gl.now S.ctx p hp
    exact⟨g0,fun h=>h.elim g1 fun hm=>g2 (hL'sub p.1 hm),fun hm=>g2 (hLc p.1 hm).1,g3⟩
  have SC0:St itsC.length ⟨Mu fx.U0 L',Lc,w,js.map (cJ κ),glc,fun _ _=>False⟩ (enumS 0 asC) itsC (js.map (cJ κ)) w:=by
    refine ⟨by rw [List.length_map]; exact hlen,by rw [← hlen,← List.length_map (f:=cJ κ)]; exact List.take_length,by rw [List.length_map,hlen]; exact Nat.le_refl _,b3,b4,C0,fun j t c h1 h2=>?_⟩
    obtain⟨jx,x,g1,g2,g3⟩:=hget j t h1
    rw [List.getElem?_map,g1] at h2
    simp only [Option.map_some,Option.some.injEq] at h2
    subst h2
    have h4:=view_ok S b1 hsub hzz g1 g2 g3
    have hlt:t.lt (js.map (cJ κ)).length=true:=by
      rw [List.length_map,hlen]
      unfold scI at b4
      rw [List.all_eq_true] at b4
      exact b4 _ (List.mem_of_getElem? h1)
    have h5:=OK.ext (κx:=[]) hlt hUeq h4
    rwa [List.append_nil] at h5
  refine ⟨Mu fx.U0 L',glc,SC0,fun envC κx w' S'=>?_⟩
  have hlen2:(js.map (cJ κ)++κx).length=itsC'.length:=S'.len
  have hm:js.length≤itsC'.length:=by rw [← hlen2,List.length_append,List.length_map]; omega
  have hbbl:bb.length=κx.length:=by
    rw [s1,List.length_drop,← hlen2,List.length_append,List.length_map]
    omega
  let R:=Lof itsC' (js.map (cJ κ)++κx)
  have D:Ctx (Mu fx.U0 L') Lc w R w':=S'.ctx
  have item:∀(p:Nat) (it:Item) (c:Conc),(aa++bb)[p]? = some it→(κ++κx)[p]? = some c→
      (p<its.length∧p∉ownG js itsC∧its[p]? = some it∧κ[p]? = some c)∨∃(k:Nat) (u:Item),itsC'[k]? = some u∧(js.map (cJ κ)++κx)[k]? = some c∧((p<its.length∧js[k]? = some (.g p)∧shO its.length js.length js u=some it)∨(its.length≤p∧k=js.length+(p - its.length)∧shI its.length js.length js u=some it)):=by
    intro p it c h1 h2
    rcases Nat.lt_or_ge p its.length with hlt | hge
    · rw [List.getElem?_append_left (by rw [t1]; exact hlt)] at h1
      rw [List.getElem?_append_left (by rw [S.len]; exact hlt)] at h2
      by_cases ho:p∈ownG js itsC
      · right
        have:∃(k:Nat) (t:Item),js[k]? = some (.g p)∧itsC[k]? = some t∧t.owned=true:=by
          have gen:∀{js:List Jx} {ts:List Item},p∈ownG js ts→∃(k:Nat) (t:Item),js[k]? = some (.g p)∧ts[k]? = some t∧t.owned=true:=by
            intro js
            induction js with
            | nil=>intro ts h; cases ts <;> cases h
            | cons j js ih=>
              intro ts h
              cases ts with
              | nil=>cases j <;> cases h
              | cons t ts=>
                have rec_:p∈ownG js ts→∃(k:Nat) (t':Item),(j::js)[k]? = some (.g p)∧(t::ts)[k]? = some t'∧t'.owned=true:=fun h=>by
                  obtain⟨k,t',h1,h2,h3⟩:=ih h
                  exact⟨k+1,t',by simpa using h1,by simpa using h2,h3⟩
                cases j with
                | g q=>
                  simp only [ownG] at h
                  split at h
                  · rename_i ho
                    rcases List.mem_cons.1 h with rfl | h
                    · exact⟨0,t,rfl,rfl,ho⟩
                    · exact rec_ h
                  · exact rec_ h
                | _=>exact rec_ h
          exact gen ho
        obtain⟨k,t,g1,g2,g3⟩:=this
        have hk:k<js.length:=(List.getElem?_eq_some_iff.1 g1).1
        have hu:itsC'[k]? = some itsC'[k]:=List.getElem?_eq_getElem (by omega)
        obtain⟨u',g4,g5⟩:=t3 k p t _ g1 g2 g3 hu hlt
        rw [g5] at h1
        injection h1 with h1
        subst h1
        refine ⟨k,_,hu,?_,.inl ⟨hlt,g1,g4⟩⟩
        rw [List.getElem?_append_left (by rw [List.length_map]; exact hk),List.getElem?_map,g1]
        simp [cJ,h2]
      · left
        rw [t2 p ho] at h1
        exact⟨hlt,ho,h1,h2⟩
    · right
      rw [List.getElem?_append_right (by rw [t1]; exact hge),t1] at h1
      rw [List.getElem?_append_right (by rw [S.len]; exact hge),S.len] at h2
      obtain⟨u0,g1,g2⟩:=s2 _ it h1
      rw [List.getElem?_drop] at g1
      refine ⟨_,u0,g1,?_,.inr ⟨hge,rfl,g2⟩⟩
      rw [List.getElem?_append_right (by rw [List.length_map]; omega),List.length_map]
      rw [show js.length+(p - its.length) - js.length=p - its.length from by omega]
      exact h2
  have hfrz:hasL js=false→frzG js=[]:=by
    have gen:∀{js:List Jx},hasL js=false→noZ js=true→frzG js=[]:=by
      intro js
      induction js with
      | nil=>intro _ _; rfl
      | cons j js ih=>intro h1 h2; cases j <;> first | exact ih h1 h2 | cases h1 | cases h2
    exact fun h=>gen h b7
  have shown:∀(k:Nat) (u it:Item) (c:Conc) (Lf:List (Option Nat)),(∀b,some b∈Lf→some b∈R∨∃i:Nat,i∉ownG js itsC∧(Lof its κ)[i]? = some (some b))→itsC'[k]? = some u→(js.map (cJ κ)++κx)[k]? = some c→(shI its.length js.length js u=some it∧js.length≤k∨shO its.length js.length js u=some it)→
      OK (κ++κx) (Mu fx.U0 Lf) w' it c∧(∀b,own1 it c=some b→own1 u c=some b)∧it.ow=false:=by
    intro k u it c Lf hLf h1 h2 h3
    have hU:hasL js=false→∀b,Mu fx.U0 Lf b→Mu (Mu fx.U0 L') R b:=by
      intro hF b hM
      rcases hM with h | h
      · exact .inl (.inl h)
      · rcases hLf b h with h | ⟨i,h5,h6⟩
        · exact .inr h
        · refine .inl (.inr ?_)
          have hi:i<its.length:=by
            have:=(List.getElem?_eq_some_iff.1 h6).1
            simp only [Lof,List.length_zipWith] at this
            omega
          refine List.mem_map.2 ⟨i,List.mem_range.2 hi,?_⟩
          rw [hfrz hF,if_neg (by simp [h5]),h6]
          rfl
    have main:shI its.length js.length js u=some it→(NoRd u∨js.length≤k)→OK (κ++κx) (Mu fx.U0 Lf) w' it c∧(∀b,own1 it c=some b→own1 u c=some b)∧it.ow=false:=by
      intro h3 h4
      have:=sh_ok S.len b1 h3 (S'.ok k u c h1 h2) (U':=Mu fx.U0 Lf) (by
        rcases hF with hF | hF
        · exact .inl (hU hF)
        · have h5:=FlatA_get hF k u h1
          exact .inr ⟨h5.1,h4.elim id fun h=>h5.2 (by rw [← hlen]; exact h)⟩)
      exact⟨this.1,fun b hb=>by rw [← this.2.1]; exact hb,this.2.2⟩
    rcases h3 with ⟨h3,h4⟩ | h3
    · exact main h3 (.inr h4)
    · cases u with
      | rd sz R0 l=>
        simp only [shO,Option.some.injEq] at h3
        subst h3
        exact⟨by cases c <;> trivial,fun b hb=>(by cases c <;> cases hb),rfl⟩
      | mp kk R0 ow l=>
        simp only [shO,Option.some.injEq] at h3
        subst h3
        exact⟨by cases c <;> trivial,fun b hb=>(by cases c <;> cases hb),rfl⟩
      | elt s ow cs=>cases h3
      | blk T cs=>exact main h3 (.inl trivial)
      | own sz E R0 l=>exact main h3 (.inl trivial)
      | str s=>exact main h3 (.inl trivial)
      | adr=>exact main h3 (.inl trivial)
      | gone=>exact main h3 (.inl trivial)
  have hLf:∀(p b:Nat),(Lof (aa++bb) (κ++κx))[p]? = some (some b)→(p∉ownG js itsC∧(Lof its κ)[p]? = some (some b))∨∃k:Nat,R[k]? = some (some b)∧((js[k]? = some (.g p)∧p<its.length)∨(its.length≤p∧k=js.length+(p - its.length))):=by
    intro p b h
    obtain⟨it,c,h1,h2,h3⟩:=Lof_inv h
    rcases item p it c h1 h2 with ⟨g1,g2,g3,g4⟩ | ⟨k,u,g1,g2,g3⟩
    · left
      refine ⟨g2,?_⟩
      rw [Lof_get g3 g4,h3]
    · right
      have h4:=shown k u it c R (fun b hb=>.inl hb) g1 g2 (by
        rcases g3 with ⟨_,_,h⟩ | ⟨_,hk,h⟩
        · exact .inr h
        · exact .inl ⟨h,by omega⟩)
      refine ⟨k,?_,?_⟩
      · rw [Lof_get g1 g2,h4.2.1 b h3]
      · rcases g3 with ⟨g3,g4,_⟩ | ⟨g3,g4,_⟩
        · exact .inl ⟨g4,g3⟩
        · exact .inr ⟨g3,g4⟩
  have hLfmem:∀b,some b∈Lof (aa++bb) (κ++κx)→some b∈R∨∃i:Nat,i∉ownG js itsC∧(Lof its κ)[i]? = some (some b):=by
    intro b hb
    obtain⟨p,hp⟩:=List.getElem?_of_mem hb
    rcases hLf p b hp with ⟨h1,h2⟩ | ⟨k,h1,_⟩
    · exact .inr ⟨p,h1,h2⟩
    · exact .inl (List.mem_of_getElem? h1)
  have apart':∀(k p b:Nat),R[k]? = some (some b)→p∉ownG js itsC→(Lof its κ)[p]? = some (some b)→False:=by
    intro k p b h1 h2 h3
    rcases (D.live b (List.mem_of_getElem? h1)).2.2 with h | h
    · have:=(S.ctx.live b (List.mem_of_getElem? h3)).1
      have h':w.heap.size≤b:=h
      omega
    · obtain⟨j,hj⟩:=List.getElem?_of_mem h
      obtain⟨i,t,g1,g2,g3,g4⟩:=hview j b hj
      by_cases e:p=i
      · subst e; exact h2 (ownG_mem g1 g2 g3)
      · exact S.ctx.sep p i b e h3 g4
  obtain⟨CF,TF⟩:=S.ctx.back D (fun b hb=>(hLc b hb).1) (Lf:=Lof (aa++bb) (κ++κx)) (fun b hb=>(hLfmem b hb).imp id fun ⟨i,_,h⟩=>List.mem_of_getElem? h) (by
    intro p q b hpq hp hq
    rcases hLf p b hp with ⟨h1,h2⟩ | ⟨k,h1,h2⟩ <;> rcases hLf q b hq with ⟨h3,h4⟩ | ⟨k',h3,h4⟩
    · exact S.ctx.sep p q b hpq h2 h4
    · exact apart' k' p b h3 h1 h2
    · exact apart' k q b h1 h3 h4
    · by_cases e:k=k'
      · subst e
        rcases h2 with ⟨h2,h5⟩ | ⟨h2,h5⟩ <;> rcases h4 with ⟨h4,h6⟩ | ⟨h4,h6⟩
        · rw [h2] at h4
          injection h4 with h4
          injection h4 with h4
          exact hpq h4
        · have:=(List.getElem?_eq_some_iff.1 h2).1
          omega
        · have:=(List.getElem?_eq_some_iff.1 h4).1
          omega
        · omega
      · exact D.sep k k' b e h1 h3)
  refine S.next (fun p=>p∈ownG js itsC) (by rw [List.length_append,List.length_append,S.len,t1,hbbl]) (by rw [List.length_append,t1]; exact scE_mono (by omega) S.sce) hsci2 CF TF ?_ ?_
  · intro p it hp hnp hit
    have hκ:(κ++κx)[p]? = some (κ[p]'(by rw [S.len]; exact hp)):=by rw [List.getElem?_append_left (by rw [S.len]; exact hp)]; exact List.getElem?_eq_getElem (by rw [S.len]; exact hp)
    rcases item p it _ hit hκ with ⟨g1,g2,g3,g4⟩ | ⟨k,u,g1,g2,g3⟩
    · refine ⟨g3,noOw how _ (List.mem_of_getElem? g3),fun c b hc hb hm=>?_⟩
      obtain⟨j,hj⟩:=List.getElem?_of_mem hm
      obtain⟨i,t,q1,q2,q3,q4⟩:=hview j b hj
      have h5:=Lof_get g3 hc
      rw [hb] at h5
      by_cases e:p=i
      · subst e; exact g2 (ownG_mem q1 q2 q3)
      · exact S.ctx.sep p i b e h5 q4
    · rw [List.getElem?_append_left (by rw [t1]; exact hp),t2 p hnp] at hit
      refine ⟨hit,noOw how _ (List.mem_of_getElem? hit),fun c b hc hb hm=>?_⟩
      obtain⟨j,hj⟩:=List.getElem?_of_mem hm
      obtain⟨i,t,q1,q2,q3,q4⟩:=hview j b hj
      have h5:=Lof_get hit hc
      rw [hb] at h5
      by_cases e:p=i
      · subst e; exact hnp (ownG_mem q1 q2 q3)
      · exact S.ctx.sep p i b e h5 q4
  · intro p it c hp hit hc
    rcases item p it c hit hc with ⟨g1,g2,_,_⟩ | ⟨k,u,g1,g2,g3⟩
    · rcases hp with hp | hp
      · omega
      · exact absurd hp g2
    · refine (shown k u it c _ hLfmem g1 g2 ?_).1
      rcases g3 with ⟨_,_,h⟩ | ⟨_,hk,h⟩
      · exact .inr h
      · exact .inl ⟨h,by omega⟩
end
end V
end Go.Proofs.YtbdhonofhlpdoaaDoor
