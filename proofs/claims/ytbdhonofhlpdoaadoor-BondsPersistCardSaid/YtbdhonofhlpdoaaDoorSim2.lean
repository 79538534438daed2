/- What operations without a choice do: that the computed descr -/
import Derived.Test.YtbdhonofhlpdoaaDoorSim
namespace Go.Proofs.YtbdhonofhlpdoaaDoor
namespace V
section
variable {P:Program} {N n0:Nat} {fx:Fx} {env:Env'} {its:List Item} {κ:List Conc} {w:World} {tt:TT} {ld:Nat→Bool} {E:Operand→Option SV} {l:Env}
variable {d:Option Nat} {t:TypeId} {ps:String} {af:Array Edge} {g:Option (Nat×Bool)}
theorem bin1_ok {k:IntKind} {m n:Int} {op:BinOp} {ty ty2:TypeId} {x y:Operand} {v:SV} (hx:ev l x=some (.int k m)) (hy:ev l y=some (.int k n)) (h:bin1 k m n op=some v):RunV P N l ⟨d,.binOp op ty x y ty2,t,ps,af,g⟩ w (v.den κ):=by
  cases op <;> simp only [bin1,Option.some.injEq,reduceCtorEq] at h <;> subst h
  · exact rv_add hx hy (wr_eq k _)
  · exact rv_sub hx hy (wr_eq k _)
  · exact rv_mul hx hy (wr_eq k _)
  · exact rv_and hx hy
  · exact rv_or hx hy
  · exact rv_xor hx hy
  · exact rv_andNot hx hy
  · exact rv_eql hx hy
  · exact rv_neq hx hy
  · exact rv_lss hx hy
  · exact rv_leq hx hy
  · exact rv_gtr hx hy
  · exact rv_geq hx hy
theorem binOp_ok (htt:TTOk P tt) (S:Kno its κ w) (hE:∀x v,E x=some v→ev l x=some (v.den κ)) {op:BinOp} {ty ty2:TypeId} {x y:Operand} {v:SV} (h:sv1 tt ld its E (.binOp op ty x y ty2)=some v):RunV P N l ⟨d,.binOp op ty x y ty2,t,ps,af,g⟩ w (v.den κ):=by
  simp only [sv1] at h
  split at h
  · rename_i k m k' n hx hy
    split at h
    · rename_i hk
      have:=keq_eq hk
      subst this
      exact bin1_ok (hE _ _ hx) (hE _ _ hy) h
    · cases h
  · rename_i m n hx hy
    split at h
    · rename_i ht
      injection h with h; subst h
      exact rv_eqlb (htt.get ht).und (hE _ _ hx) (hE _ _ hy)
    · rename_i ht
      injection h with h; subst h
      exact rv_neqb (htt.get ht).und (hE _ _ hx) (hE _ _ hy)
    · cases h
  · rename_i a b _ _ hx hy
    split at h
    · rename_i s u hs hu
      injection h with h; subst h
      obtain⟨b1,h1,h2⟩:=strC_ok S hs
      obtain⟨b2,h3,h4⟩:=strC_ok S hu
      have h5:=hE _ _ hx
      have h6:=hE _ _ hy
      simp only [SV.den,h1,h3] at h5 h6
      exact rv_eqlss' h2 h4 h5 h6
    · rename_i s u hs hu
      injection h with h; subst h
      obtain⟨b1,h1,h2⟩:=strC_ok S hs
      obtain⟨b2,h3,h4⟩:=strC_ok S hu
      have h5:=hE _ _ hx
      have h6:=hE _ _ hy
      simp only [SV.den,h1,h3] at h5 h6
      exact rv_neqss' h2 h4 h5 h6
    · cases h
  · cases h
theorem field_ok (htt:TTOk P tt) (hE:∀x v,E x=some v→ev l x=some (v.den κ)) {s:TypeId} {f:Nat} {x:Operand} {v:SV} (h:sv1 tt ld its E (.field s x f)=some v):RunV P N l ⟨d,.field s x f,t,ps,af,g⟩ w (v.den κ):=by
  simp only [sv1] at h
  split at h
  · rename_i cs fs _ _ _ _ hx ht
    split at h
    · rename_i fd hf
      have hu:=(htt.get ht).und
      split at h
      · rename_i u n z by' hti
        injection h with h; subst h
        have:=rv_fieldN (N:=N) (w:=w) (d:=d) (t:=t) (ps:=ps) (af:=af) (g:=g) hu hf (htt.get hti).agg (htt.get hti).size (hE _ _ hx) rfl
        simpa [SV.den,List.map_take,List.map_drop] using this
      · rename_i u n z by' hti
        cases hc:cs[fd.offset]? with
        | none=>simp [hc] at h
        | some c=>
          simp only [hc,Option.map_some,Option.some.injEq] at h; subst h
          exact rv_field1 hu hf (htt.get hti).agg (hE _ _ hx) (by simp [hc,SV.den])
      · cases h
    · cases h
  · cases h
theorem build_ok (htt:TTOk P tt) (S:Kno its κ w) (hE:∀x v,E x=some v→ev l x=some (v.den κ)) {s:TypeId} {as:Array (Nat×Operand)} {v:SV} (h:sv1 tt ld its E (.build s as)=some v):RunV P N l ⟨d,.build s as,t,ps,af,g⟩ w (v.den κ):=by
  have hid:∀z:Value,(z.cells.toList.map Cell.v).map (Cell.den κ)=z.cells.toList:=fun z=>by
    rw [List.map_map,show (Cell.den κ ∘ Cell.v)=id from rfl,List.map_id]
  obtain⟨as⟩:=as
  simp only [sv1] at h
  split at h
  · rename_i fs _ _ z _ xs ht hp
    split at h
    · rename_i pl hpl
      cases hc:fillC its (pl[·]?) (z.cells.toList.map .v) xs with
      | none=>simp [hc] at h
      | some r=>
        simp only [hc,Option.map_some,Option.some.injEq] at h; subst h
        have h1:=fillC_ok S xs _ r hc
        rw [hid] at h1
        obtain⟨fs⟩:=fs
        exact rv_build ((htt.get ht).zero z rfl) (htt.get ht).und (plT_ok htt fs hpl) (partsE_ok hE as hp) (by simpa using h1)
    · cases h
  · rename_i n e _ _ z _ xs ht hp
    split at h
    · rename_i ti hti
      cases hc:fillC its (fun i=>some (i * ti.size,ti.size)) (z.cells.toList.map .v) xs with
      | none=>simp [hc] at h
      | some r=>
        simp only [hc,Option.map_some,Option.some.injEq] at h; subst h
        have h1:=fillC_ok S xs _ r hc
        rw [hid] at h1
        exact rv_buildArr ((htt.get ht).zero z rfl) (htt.get ht).und (htt.get hti).size (partsE_ok hE as hp) (by simpa using h1)
    · cases h
  · cases h
theorem fieldAddr_ok (htt:TTOk P tt) (S:Kno its κ w) (hE:∀x v,E x=some v→ev l x=some (v.den κ)) {s:TypeId} {f:Nat} {x:Operand} {v:SV} (h:sv1 tt ld its E (.fieldAddr s x f)=some v):RunV P N l ⟨d,.fieldAddr s x f,t,ps,af,g⟩ w (v.den κ):=by
  have key:∀{i o:Nat} {it:Item} {fs:Array Field} {fd:Field} {ti:TI} {a:Bool} {n by':Nat} {z:Option Value},E x=some (.c (.p i o))→its[i]? = some it→((∃T cs,it = .blk T cs)∨(∃s ow cs,it = .elt s ow cs)∨it = .adr)→lkT s tt=some ⟨.struct fs,a,n,z,by'⟩→fs[f]? = some fd→lkT fd.type tt=some ti→Nat.beq ti.size 0=false→
      RunV P N l ⟨d,.fieldAddr s x f,t,ps,af,g⟩ w ((Cell.p i (o+fd.offset)).den κ):=by
    intro i o it fs fd ti a n by' z hx hi hk hs hf ht h0
    obtain⟨ad,h1,h2⟩:=ptr_ok S (o:=o) hi hk
    have h3:=hE _ _ hx
    simp only [SV.den,h1] at h3
    rw [h2]
    obtain⟨info,z',hinf,hi,_⟩:=(htt.get ht).info
    refine rv_fieldAddr (fieldAt_of (htt.get hs).und hf hinf (fun e=>?_) rfl) h3 (add_add _ _ _)
    rw [← hi,e] at h0
    cases h0
  simp only [sv1] at h
  split at h
  · rename_i i o fs _ _ _ _ hx ht
    split at h
    · rename_i Ty cs fd hi hf
      split at h
      · rename_i ti hti
        split at h
        · rename_i h0
          injection h with h; subst h
          exact key hx hi (.inl ⟨_,_,rfl⟩) ht hf hti h0
        · cases h
      · cases h
    · rename_i fd hi hf
      split at h
      · rename_i ti hti
        split at h
        · rename_i h0
          injection h with h; subst h
          exact key hx hi (.inr (.inr rfl)) ht hf hti h0
        · cases h
      · cases h
    · rename_i Ty ow cs fd hi hf
      split at h
      · rename_i ti hti
        split at h
        · rename_i h0
          injection h with h; subst h
          exact key hx hi (.inr (.inl ⟨_,_,_,rfl⟩)) ht hf hti h0
        · cases h
      · cases h
    · cases h
  · cases h
theorem len_ok (htt:TTOk P tt) (S:Kno its κ w) (hE:∀x v,E x=some v→ev l x=some (v.den κ)) {as:Array Operand} {ts:Array TypeId} {v:SV} (h:sv1 tt ld its E (.call ⟨.builtin .len,as,ts⟩)=some v):RunV P N l ⟨d,.call ⟨.builtin .len,as,ts⟩,t,ps,af,g⟩ w (v.den κ):=by
  obtain⟨as⟩:=as
  obtain⟨ts⟩:=ts
  simp only [sv1] at h
  split at h
  · rename_i x ty
    split at h
    · rename_i e _ _ _ _ hx ht
      injection h with h; subst h
      exact rv_len (dt:=([]:List Unit)) (htt.get ht).und (hE _ _ hx)
    · rename_i i e _ _ _ _ hx ht
      split at h
      · rename_i sz E' R _ l' hi
        injection h with h; subst h
        obtain⟨c,_,h1,h2⟩:=S _ _ hi
        cases c with
        | r A n c=>
          have h3:=hE _ _ hx
          simp only [SV.den,Cell.den,h1] at h3
          rw [h2.1] at h3
          exact rv_len (htt.get ht).und h3
        | _=>exact h2.elim
      · rename_i sz R _ l' hi
        injection h with h; subst h
        obtain⟨c,_,h1,h2⟩:=S _ _ hi
        cases c with
        | r A n c=>
          have h3:=hE _ _ hx
          simp only [SV.den,Cell.den,h1] at h3
          rw [h2.1] at h3
          exact rv_len (htt.get ht).und h3
        | _=>exact h2.elim
      · cases h
    · rename_i c _ _ _ _ hx ht
      cases hs:strC its c with
      | none=>simp [hs] at h
      | some s=>
        simp only [hs,Option.map_some,Option.some.injEq] at h; subst h
        obtain⟨b,h1,h2⟩:=strC_ok S hs
        have h3:=hE _ _ hx
        simp only [SV.den,h1] at h3
        subst h2
        exact rv_lens (htt.get ht).und h3
    · cases h
  · cases h
theorem minmax_ok (hE:∀x v,E x=some v→ev l x=some (v.den κ)) {as:Array Operand} {ts:Array TypeId} {v:SV}:(sv1 tt ld its E (.call ⟨.builtin .min,as,ts⟩)=some v→RunV P N l ⟨d,.call ⟨.builtin .min,as,ts⟩,t,ps,af,g⟩ w (v.den κ))∧(sv1 tt ld its E (.call ⟨.builtin .max,as,ts⟩)=some v→RunV P N l ⟨d,.call ⟨.builtin .max,as,ts⟩,t,ps,af,g⟩ w (v.den κ)):=by
  obtain⟨as⟩:=as
  constructor
  · intro h
    simp only [sv1] at h
    split at h
    · split at h
      · rename_i k m k' n hx hy
        split at h
        · rename_i hk
          have:=keq_eq hk
          subst this
          injection h with h; subst h
          exact rv_min (hE _ _ hx) (hE _ _ hy)
        · cases h
      · cases h
    · cases h
  · intro h
    simp only [sv1] at h
    split at h
    · split at h
      · rename_i k m k' n hx hy
        split at h
        · rename_i hk
          have:=keq_eq hk
          subst this
          injection h with h; subst h
          exact rv_max (hE _ _ hx) (hE _ _ hy)
        · cases h
      · cases h
    · cases h
theorem mapCell_ok:∀(xs:List SV) {cs:List Cell},xs.mapM cellOf=some cs→xs.map (SV.den κ)=cs.map (Cell.den κ)
  | [],cs,h=>by simp at h; subst h; rfl
  | x::xs,cs,h=>by
    simp only [List.mapM_cons] at h
    cases x with
    | c y=>
      cases hr:xs.mapM cellOf with
      | none=>simp [cellOf,hr] at h
      | some q=>
        simp [cellOf,hr] at h
        subst h
        simp [mapCell_ok xs hr,SV.den]
    | _=>simp [cellOf] at h
theorem makeFunc_ok (hE:∀x v,E x=some v→ev l x=some (v.den κ)) {f:FuncId} {fi cap:Array Operand} {v:SV} (h:sv1 tt ld its E (.makeFunc (.func f) fi cap)=some v):RunV P N l ⟨d,.makeFunc (.func f) fi cap,t,ps,af,g⟩ w (v.den κ):=by
  obtain⟨fi⟩:=fi
  obtain⟨cap⟩:=cap
  cases fi with
  | cons q fi=>simp only [sv1] at h; cases h
  | nil=>
  simp only [sv1] at h
  split at h
  · rename_i xs hf hc
    cases hx:xs.mapM cellOf with
    | none=>simp [hx] at h
    | some cs=>
      simp only [hx,Option.map_some,Option.some.injEq] at h
      subst h
      have:=rv_makeFunc (P:=P) (N:=N) (w:=w) (d:=d) (t:=t) (ps:=ps) (af:=af) (g:=g) (f:=f) (mapE_ok hE cap hc)
      rw [mapCell_ok xs hx] at this
      exact this
  · cases h
theorem sv1_ok (htt:TTOk P tt) (S:Kno its κ w) (hE:∀x v,E x=some v→ev l x=some (v.den κ)) {op:Op} {v:SV} (h:sv1 tt ld its E op=some v):RunV P N l ⟨d,op,t,ps,af,g⟩ w (v.den κ):=by
  cases op with
  | move x=>exact rv_move (hE _ _ h)
  | assign x=>exact rv_assign (hE _ _ h)
  | binOp op ty x y ty2=>exact binOp_ok htt S hE h
  | unOp op ty x=>
    cases op with
    | not=>
      simp only [sv1] at h
      split at h
      · rename_i b hx
        injection h with h; subst h
        exact rv_not (hE _ _ hx)
      · cases h
    | neg=>
      simp only [sv1] at h
      split at h
      · rename_i k m hx
        injection h with h; subst h
        exact rv_neg (hE _ _ hx) (wr_eq k _)
      · cases h
    | _=>cases h
  | convert src dst x=>
    simp only [sv1] at h
    split at h
    · rename_i k m sd k' _ _ _ _ hx hs hd
      injection h with h; subst h
      exact rv_conv (htt.get hs).und (htt.get hd).und (hE _ _ hx) (wr_eq k' _)
    · cases h
  | extract x i=>
    simp only [sv1] at h
    split at h
    · rename_i u hx
      split at h
      · rename_i c hc
        injection h with h; subst h
        exact rv_extract (hE _ _ hx) (by simp [hc,tel,SV.den])
      · rename_i c hc
        injection h with h; subst h
        exact rv_extract (hE _ _ hx) (by simp [hc,tel,SV.den])
      · cases h
    · cases h
  | nilCheck x=>
    simp only [sv1] at h
    split at h
    · rename_i i o hx
      split at h
      · rename_i hi
        injection h with h; subst h
        obtain⟨ad,h1,_⟩:=ptr_ok S (o:=o) hi (.inl ⟨_,_,rfl⟩)
        have h3:=hE _ _ hx
        simp only [SV.den,h1] at h3 ⊢
        exact rv_nilCheck h3
      · rename_i hi
        injection h with h; subst h
        obtain⟨ad,h1,_⟩:=ptr_ok S (o:=o) hi (.inr (.inr rfl))
        have h3:=hE _ _ hx
        simp only [SV.den,h1] at h3 ⊢
        exact rv_nilCheck h3
      · rename_i hi
        injection h with h; subst h
        obtain⟨ad,h1,_⟩:=ptr_ok S (o:=o) hi (.inr (.inl ⟨_,_,_,rfl⟩))
        have h3:=hE _ _ hx
        simp only [SV.den,h1] at h3 ⊢
        exact rv_nilCheck h3
      · cases h
    · cases h
  | fieldAddr s x f=>exact fieldAddr_ok htt S hE h
  | load ty x=>
    simp only [sv1] at h
    split at h
    · rename_i i o ti hx ht
      exact load1_ok S (htt.get ht) (hE _ _ hx) h
    · cases h
  | field s x f=>exact field_ok htt hE h
  | build s as=>exact build_ok htt S hE h
  | call c=>
    obtain⟨cal,as,ts⟩:=c
    cases cal with
    | builtin b=>
      cases b with
      | len=>exact len_ok htt S hE h
      | min=>exact (minmax_ok hE).1 h
      | max=>exact (minmax_ok hE).2 h
      | _=>cases h
    | _=>cases h
  | makeFunc fn fi cap=>
    cases fn with
    | func f=>exact makeFunc_ok hE h
    | _=>cases h
  | _=>cases h
theorem all_take {α:Type} {p:α→Bool} {l:List α} (h:l.all p=true) (n:Nat):(l.take n).all p=true:=by
  rw [List.all_eq_true] at h ⊢
  exact fun x hx=>h x (List.mem_of_mem_take hx)
theorem all_drop {α:Type} {p:α→Bool} {l:List α} (h:l.all p=true) (n:Nat):(l.drop n).all p=true:=by
  rw [List.all_eq_true] at h ⊢
  exact fun x hx=>h x (List.mem_of_mem_drop hx)
end
end V
end Go.Proofs.YtbdhonofhlpdoaaDoor
