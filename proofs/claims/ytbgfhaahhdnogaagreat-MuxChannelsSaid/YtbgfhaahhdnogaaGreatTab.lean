/- Tables: rows of the call's own that lie behind each other, o -/
import Derived.Test.YtbgfhaahhdnogaaGreatStf
import Derived.Test.YtbgfhaahhdnogaaGreatMap
namespace Go.Proofs.YtbgfhaahhdnogaaGreat
namespace V
def tS(b:Nat):List Cell:=[.s (b+0),.s (b+1),.s (b+2),.s (b+3),.s (b+4),.s (b+5),.s (b+6),.s (b+7),.s (b+8),.s (b+9),.s (b+10),.s (b+11),.s (b+12),.s (b+13),.s (b+14),.s (b+15),.s (b+16),.s (b+17),.s (b+18),.s (b+19),.s (b+20),.s (b+21),.s (b+22),.s (b+23),.s (b+24),.s (b+25),.s (b+26),.s (b+27),.s (b+28),.s (b+29),.s (b+30),.s (b+31),.s (b+32),.s (b+33),.s (b+34),.s (b+35),.s (b+36),.s (b+37),.s (b+38),.s (b+39),.s (b+40),.s (b+41),.s (b+42),.s (b+43),.s (b+44),.s (b+45),.s (b+46),.s (b+47),.s (b+48),.s (b+49),.s (b+50),.s (b+51),.s (b+52),.s (b+53),.s (b+54),.s (b+55),.s (b+56),.s (b+57),.s (b+58),.s (b+59),.s (b+60),.s (b+61),.s (b+62),.s (b+63),.s (b+64),.s (b+65),.s (b+66),.s (b+67),.s (b+68),.s (b+69),.s (b+70),.s (b+71),.s (b+72),.s (b+73),.s (b+74),.s (b+75),.s (b+76),.s (b+77),.s (b+78),.s (b+79),.s (b+80),.s (b+81),.s (b+82),.s (b+83),.s (b+84),.s (b+85),.s (b+86),.s (b+87),.s (b+88),.s (b+89),.s (b+90),.s (b+91),.s (b+92),.s (b+93),.s (b+94),.s (b+95),.s (b+96),.s (b+97),.s (b+98),.s (b+99),.s (b+100),.s (b+101),.s (b+102),.s (b+103),.s (b+104),.s (b+105),.s (b+106),.s (b+107),.s (b+108),.s (b+109),.s (b+110),.s (b+111),.s (b+112),.s (b+113),.s (b+114),.s (b+115),.s (b+116),.s (b+117),.s (b+118),.s (b+119),.s (b+120),.s (b+121),.s (b+122),.s (b+123),.s (b+124),.s (b+125),.s (b+126),.s (b+127)]
def tB(C:Nat->Bool):List Cell:=[cb (C 0),cb (C 1),cb (C 2),cb (C 3),cb (C 4),cb (C 5),cb (C 6),cb (C 7),cb (C 8),cb (C 9),cb (C 10),cb (C 11),cb (C 12),cb (C 13),cb (C 14),cb (C 15),cb (C 16),cb (C 17),cb (C 18),cb (C 19),cb (C 20),cb (C 21),cb (C 22),cb (C 23),cb (C 24),cb (C 25),cb (C 26),cb (C 27),cb (C 28),cb (C 29),cb (C 30),cb (C 31),cb (C 32),cb (C 33),cb (C 34),cb (C 35),cb (C 36),cb (C 37),cb (C 38),cb (C 39),cb (C 40),cb (C 41),cb (C 42),cb (C 43),cb (C 44),cb (C 45),cb (C 46),cb (C 47),cb (C 48),cb (C 49),cb (C 50),cb (C 51),cb (C 52),cb (C 53),cb (C 54),cb (C 55),cb (C 56),cb (C 57),cb (C 58),cb (C 59),cb (C 60),cb (C 61),cb (C 62),cb (C 63),cb (C 64),cb (C 65),cb (C 66),cb (C 67),cb (C 68),cb (C 69),cb (C 70),cb (C 71),cb (C 72),cb (C 73),cb (C 74),cb (C 75),cb (C 76),cb (C 77),cb (C 78),cb (C 79),cb (C 80),cb (C 81),cb (C 82),cb (C 83),cb (C 84),cb (C 85),cb (C 86),cb (C 87),cb (C 88),cb (C 89),cb (C 90),cb (C 91),cb (C 92),cb (C 93),cb (C 94),cb (C 95),cb (C 96),cb (C 97),cb (C 98),cb (C 99),cb (C 100),cb (C 101),cb (C 102),cb (C 103),cb (C 104),cb (C 105),cb (C 106),cb (C 107),cb (C 108),cb (C 109),cb (C 110),cb (C 111),cb (C 112),cb (C 113),cb (C 114),cb (C 115),cb (C 116),cb (C 117),cb (C 118),cb (C 119),cb (C 120),cb (C 121),cb (C 122),cb (C 123),cb (C 124),cb (C 125),cb (C 126),cb (C 127)]
def tO{α:Type}(sz:Nat)(E:TypeId)(R:RT α)[dM R](S:Nat->List α):List Item:=[.o sz E R (S 0),.o sz E R (S 1),.o sz E R (S 2),.o sz E R (S 3),.o sz E R (S 4),.o sz E R (S 5),.o sz E R (S 6),.o sz E R (S 7),.o sz E R (S 8),.o sz E R (S 9),.o sz E R (S 10),.o sz E R (S 11),.o sz E R (S 12),.o sz E R (S 13),.o sz E R (S 14),.o sz E R (S 15),.o sz E R (S 16),.o sz E R (S 17),.o sz E R (S 18),.o sz E R (S 19),.o sz E R (S 20),.o sz E R (S 21),.o sz E R (S 22),.o sz E R (S 23),.o sz E R (S 24),.o sz E R (S 25),.o sz E R (S 26),.o sz E R (S 27),.o sz E R (S 28),.o sz E R (S 29),.o sz E R (S 30),.o sz E R (S 31),.o sz E R (S 32),.o sz E R (S 33),.o sz E R (S 34),.o sz E R (S 35),.o sz E R (S 36),.o sz E R (S 37),.o sz E R (S 38),.o sz E R (S 39),.o sz E R (S 40),.o sz E R (S 41),.o sz E R (S 42),.o sz E R (S 43),.o sz E R (S 44),.o sz E R (S 45),.o sz E R (S 46),.o sz E R (S 47),.o sz E R (S 48),.o sz E R (S 49),.o sz E R (S 50),.o sz E R (S 51),.o sz E R (S 52),.o sz E R (S 53),.o sz E R (S 54),.o sz E R (S 55),.o sz E R (S 56),.o sz E R (S 57),.o sz E R (S 58),.o sz E R (S 59),.o sz E R (S 60),.o sz E R (S 61),.o sz E R (S 62),.o sz E R (S 63),.o sz E R (S 64),.o sz E R (S 65),.o sz E R (S 66),.o sz E R (S 67),.o sz E R (S 68),.o sz E R (S 69),.o sz E R (S 70),.o sz E R (S 71),.o sz E R (S 72),.o sz E R (S 73),.o sz E R (S 74),.o sz E R (S 75),.o sz E R (S 76),.o sz E R (S 77),.o sz E R (S 78),.o sz E R (S 79),.o sz E R (S 80),.o sz E R (S 81),.o sz E R (S 82),.o sz E R (S 83),.o sz E R (S 84),.o sz E R (S 85),.o sz E R (S 86),.o sz E R (S 87),.o sz E R (S 88),.o sz E R (S 89),.o sz E R (S 90),.o sz E R (S 91),.o sz E R (S 92),.o sz E R (S 93),.o sz E R (S 94),.o sz E R (S 95),.o sz E R (S 96),.o sz E R (S 97),.o sz E R (S 98),.o sz E R (S 99),.o sz E R (S 100),.o sz E R (S 101),.o sz E R (S 102),.o sz E R (S 103),.o sz E R (S 104),.o sz E R (S 105),.o sz E R (S 106),.o sz E R (S 107),.o sz E R (S 108),.o sz E R (S 109),.o sz E R (S 110),.o sz E R (S 111),.o sz E R (S 112),.o sz E R (S 113),.o sz E R (S 114),.o sz E R (S 115),.o sz E R (S 116),.o sz E R (S 117),.o sz E R (S 118),.o sz E R (S 119),.o sz E R (S 120),.o sz E R (S 121),.o sz E R (S 122),.o sz E R (S 123),.o sz E R (S 124),.o sz E R (S 125),.o sz E R (S 126),.o sz E R (S 127)]
def bH:List Item:=[.e,.e,.e,.e,.e,.e,.e,.e,.e,.e,.e,.e,.e,.e,.e,.e,.e,.e,.e,.e,.e,.e,.e,.e,.e,.e,.e,.e,.e,.e,.e,.e,.e,.e,.e,.e,.e,.e,.e,.e,.e,.e,.e,.e,.e,.e,.e,.e,.e,.e,.e,.e,.e,.e,.e,.e,.e,.e,.e,.e,.e,.e,.e,.e,.e,.e,.e,.e,.e,.e,.e,.e,.e,.e,.e,.e,.e,.e,.e,.e,.e,.e,.e,.e,.e,.e,.e,.e,.e,.e,.e,.e,.e,.e,.e,.e,.e,.e,.e,.e,.e,.e,.e,.e,.e,.e,.e,.e,.e,.e,.e,.e,.e,.e,.e,.e,.e,.e,.e,.e,.e,.e,.e,.e,.e,.e,.e,.e]
theorem RN b:tS b=(List.range 128).map fun t=>.s (b+t):=by kernel_rfl
theorem Ji C:tB C=(List.range 128).map fun t=>cb (C t):=by kernel_rfl
theorem Nf{α}sz E(R:RT α)[dM R]S:tO sz E R S=(List.range 128).map fun t=>.o sz E R (S t):=by kernel_rfl
universe u v
theorem wD{α:Type u}{f:Nat->α}{n j}(h:j<n):((List.range n).map f)[j]?=some (f j):=by
 rw[List.getElem?_map,List.getElem?_range h];rfl
theorem Nq{α}{β:Type u}{F:α->β}{f n j x}:((List.range n).map fun t=>F (f t)).set j (F x)=(List.range n).map fun t=>F (aH f j x t):=by
 apply List.ext_getElem?;intro i;rw[List.getElem?_set];by_cases hi:i<n
 .rw[wD hi];by_cases e:j=i
  .subst e;simp[hi,aH]
  .rw[if_neg e,wD hi];simp[aH,Ne.symm e]
 .have h1:((List.range n).map fun t=>F (aH f j x t))[i]?=none:=by rw[List.getElem?_eq_none];simp;omega
  have h2:((List.range n).map fun t=>F (f t))[i]?=none:=by rw[List.getElem?_eq_none];simp;omega
  rw[h1,h2];split
  .rename_i e;subst e;split
   .rename_i h;simp at h;omega
   .rfl
  .rfl
theorem aaU{b j}(h:j<128):(tS b)[j]?=some (.s (b+j)):=by rw[RN,wD h]
theorem aaY{C j}(h:j<128):(tB C)[j]?=some (cb (C j)):=by rw[Ji,wD h]
theorem aaX{C j x}:(tB C).set j (cb x)=tB (aH C j x):=by
 rw[Ji,Ji];exact Nq (F:=fun y=>cb y)
section
variable {α:Type} {sz:Nat} {E:TypeId} {R:RT α} [dM R]
theorem aaW{S j}(h:j<128):(tO sz E R S)[j]?=some (.o sz E R (S j)):=by rw[Nf,wD h]
theorem BK{S}:(tO sz E R S).length=128:=by rw[Nf,List.length_map,List.length_range]
theorem aaV{S j l}:(tO sz E R S).set j (.o sz E R l)=tO sz E R (aH S j l):=by
 rw[Nf,Nf];exact Nq (F:=fun y=>Item.o sz E R y)
end
def Cell.fa(f:Nat->Bool):Cell->Bool
 | .v _=>true
 | .p i _=>f i
 | .s i=>f i
 | .t i=>f i
 | .m i=>f i
 | .w _ i _=>f i
def ael(f:Nat->Bool):Cell ⊕ List Cell->Bool
 | .inl x=>x.fa f
 | .inr l=>l.all (Cell.fa f)
def SV.fa(f:Nat->Bool):SV->Bool
 | .c x=>x.fa f
 | .g l=>l.all (Cell.fa f)
 | .u l=>l.all (ael f)
 | .f _ l=>l.all (Cell.fa f)
def Item.fa(f:Nat->Bool):Item->Bool
 | .k _ cs=>cs.all (Cell.fa f)
 | .elt (some (i,_)) _ cs=>f i&&cs.all (Cell.fa f)
 | .elt none _ cs=>cs.all (Cell.fa f)
 | .lm _ l=>l.all fun p=>p.2.fa f
 | _=>true
section
variable {κ κ':List Conc} {f:Nat->Bool}
theorem yN(h:∀i,f i=true->κ'[i]?=κ[i]?):∀{c:Cell},c.fa f=true->c.den κ'=c.den κ
 | .v _,_=>rfl
 | .p i o,hc=>by simp only[Cell.den,h i hc]
 | .s i,hc=>by simp only[Cell.den,h i hc]
 | .t i,hc=>by simp only[Cell.den,h i hc]
 | .m i,hc=>by simp only[Cell.den,h i hc]
 | .w _ i _,hc=>by simp only[Cell.den,h i hc]
theorem p9(h:∀i,f i=true->κ'[i]?=κ[i]?){l:List Cell}(hl:l.all (Cell.fa f)=true):l.map (Cell.den κ')=l.map (Cell.den κ):=by
 rw[List.all_eq_true]at hl;exact List.map_congr_left fun c hc=>yN h (hl c hc)
theorem aem(h:∀i,f i=true->κ'[i]?=κ[i]?):∀{x:SV},x.fa f=true->x.den κ'=x.den κ
 | .c x,hx=>yN h hx
 | .g l,hx=>by simp only[SV.den];rw[p9 h hx]
 | .f _ l,hx=>by simp only[SV.den];rw[p9 h hx]
 | .u l,hx=>by
   simp only[SV.den];congr 2;simp only[SV.fa]at hx;rw[List.all_eq_true]at hx;refine List.map_congr_left fun t ht=>?_;have:=hx t ht;cases t with
   | inl x=>exact yN h this
   | inr l=>simp only[Lh];rw[p9 h this]
theorem YC(h:∀i,f i=true->κ'[i]?=κ[i]?){e}(he:e.all (fun p=>p.2.fa f)=true):fD κ' e=fD κ e:=by
 rw[List.all_eq_true]at he;exact List.map_congr_left fun p hp=>by rw[aem h (he p hp)]
theorem OK.fa{U U' w it c}(h:∀i,f i=true->κ'[i]?=κ[i]?)(hf:it.fa f=true)(hU:∀b,U' b->U b)(ho:OK κ U w it c):OK κ' U' w it c:=by
 cases it with
 | k Ty cs=>cases c with
   | b n=>
     simp only[OK]at ho |-;rw[p9 h hf];exact ho
   | _=>exact ho.elim
 | elt src ow cs=>cases c with
   | a ad=>
     cases src with
     | none=>
       simp only[OK]at ho |-;rw[p9 h (by simpa [Item.fa]using hf)];exact⟨ho.1.mu hU,ho.2⟩
     | some q=>
       obtain⟨i,iv⟩:=q;simp only[Item.fa,Bool.and_eq_true]at hf;simp only[OK]at ho |-;rw[p9 h hf.2];obtain⟨h1,h2,A,n,c,h3,h4⟩:=ho;exact⟨h1.mu (fun b hb=>⟨hb.1,hU b hb.2⟩),h2,A,n,c,by rw[h i hf.1];exact h3,h4⟩
   | _=>cases src<;>exact ho.elim
 | o sz E R l=>cases c with
   | r A n c=>
     simp only[OK]at ho |-;exact⟨ho.1,ho.2.mu hU⟩
   | _=>exact ho.elim
 | d sz R l=>cases c with
   | r A n c=>
     simp only[OK]at ho |-;exact⟨ho.1,ho.2.mu hU⟩
   | _=>exact ho.elim
 | mp k R ow l=>cases c with
   | m b=>
     cases ow with
     | true=>
       simp only[OK]at ho |-;obtain⟨n,rfl,hm⟩:=ho;exact⟨n,rfl,hm.step rfl (fun _ _ _=>rfl) (fun b _=>hU b)⟩
     | false=>
       simp only[OK]at ho |-;rcases ho with h|⟨n,rfl,hn,hm⟩
       .exact .inl h
       .exact .inr ⟨n,rfl,fun q=>hn (hU n q),hm.step rfl (fun _ _ _=>rfl) (fun b _=>hU b)⟩
   | _=>cases ow<;>exact ho.elim
 | lm k l=>cases c with
   | m b=>
     simp only[OK]at ho |-;have e:(l.map fun p=>(p.1,p.2.den κ'))=l.map fun p=>(p.1,p.2.den κ):=List.map_congr_left fun p hp=>by
      simp only[Item.fa,List.all_eq_true]at hf;rw[yN h (hf p hp)]
     rw[e];obtain⟨n,rfl,hm⟩:=ho;exact⟨n,rfl,hm.step rfl (fun _ _ _=>rfl) (fun b _=>hU b)⟩
   | _=>exact ho.elim
 | str s=>cases c with
   | s x=>exact ho
   | _=>exact ho.elim
 | F6=>cases c with
   | b n=>trivial
   | _=>exact ho.elim
 | e=>cases c<;>trivial
end
section
variable {P:Program} {N n0:Nat} {fx:Fx} {its aR:List Item} {κ κ':List Conc} {w:World} {env:bP} {f:Nat->Bool}
theorem St.place(S:St n0 fx env its κ w)(hlen:κ'.length=aR.length)(hge:its.length<=aR.length)(hpre:∀i,i<n0->κ'[i]?=κ[i]?)(hf:∀i,f i=true->κ'[i]?=κ[i]?)(Uh:env.all (fun p=>p.2.fa f)=true)
 (acy:oP aR.length aR=true) (σ:Nat->Nat) (hL:∀(i b:Nat),(dL aR κ')[i]?=some (some b)->(dL its κ)[σ i]?=some (some b)) (hinj:∀(i j b:Nat),(dL aR κ')[i]?=some (some b)->(dL aR κ')[j]?=some (some b)->σ i=σ j->i=j)
 (ok:∀(i:Nat) (it:Item) (c:Conc),aR[i]?=some it->κ'[i]?=some c->(its[i]?=some it/\κ[i]?=some c/\it.fa f=true)\/((∀b,Mu fx.U0 (dL aR κ') b->Mu fx.U0 (dL its κ) b)->OK κ' (Mu fx.U0 (dL aR κ')) w it c)):St n0 fx env aR κ' w/\fD κ' env=fD κ env:=by
 have hmem:∀b,some b∈dL aR κ'->some b∈dL its κ:=by
  intro b hb;obtain⟨j,hj⟩:=List.getElem?_of_mem hb;exact List.mem_of_getElem? (hL j b hj)
 refine⟨⟨hlen,?_,?_,sH hge S.sj,acy,S.ctx.of σ hL hinj,fun i it c h1 h2=>?_⟩,YC hf Uh⟩
 .rw[<-S.pre];apply List.ext_getElem?;intro i;rw[List.getElem?_take,List.getElem?_take];split
  .rename_i h;exact hpre i h
  .rfl
 .rw[hlen];have:=S.n0;rw[S.len]at this;omega
 .rcases ok i it c h1 h2 with⟨h3,h4,h5⟩|h
  .exact OK.fa hf h5 (Mu.weaken hmem) (S.ok i it c h3 h4)
  .exact h (Mu.weaken hmem)
def Nv(d r0 n i:Nat):Cell->Bool
 | .v _=>true
 | .s k=>Nat.blt k n&&(Nat.blt k r0||(Nat.ble (r0+128) k||(Nat.ble d i&&Nat.beq k (r0+(i-d)))))
 | .p k _=>Nat.blt k n&&(Nat.blt k r0||Nat.ble (r0+128) k)
 | .t k=>Nat.blt k n&&(Nat.blt k r0||Nat.ble (r0+128) k)
 | .m k=>Nat.blt k n&&(Nat.blt k r0||Nat.ble (r0+128) k)
 | .w _ k _=>Nat.blt k n&&(Nat.blt k r0||Nat.ble (r0+128) k)
def EH(d r0 n:Nat):Nat->List Cell->Bool
 | _,[]=>true
 | i,c::cs=>Nv d r0 n i c&&EH d r0 n (i+1) cs
def zT(r0 n i:Nat):Bool:=Nat.blt i n&&(Nat.blt i r0||Nat.ble (r0+128) i)
def zq(f:Nat->Bool)(b:Nat):Nat->List Item->Bool
 | _,[]=>true
 | i,it::r=>(Nat.beq i b||it.fa f)&&zq f b (i+1) r
theorem xq{d r0 n}:∀{cs} {i k} {c},EH d r0 n i cs=true->cs[k]?=some c->Nv d r0 n (i+k) c=true
 | [],_,_,_,_,h=>by simp at h
 | x::cs,i,0,c,h,h1=>by
   simp only[EH,Bool.and_eq_true]at h;simp at h1;subst h1;exact h.1
 | x::cs,i,k+1,c,h,h1=>by
   simp only[EH,Bool.and_eq_true]at h;simp at h1;have:=xq h.2 h1;rwa [show i+1+k=i+(k+1)from by omega]at this
theorem yJ{f b}:∀{its} {i k} {it},zq f b i its=true->its[k]?=some it->i+k≠b->it.fa f=true
 | [],_,_,_,_,h,_=>by simp at h
 | x::its,i,0,it,h,h1,hne=>by
   simp only[zq,Bool.and_eq_true,Bool.or_eq_true,Nat.beq_eq]at h;simp at h1;subst h1;rcases h.1 with h|h
   .exact absurd h hne
   .exact h
 | x::its,i,k+1,it,h,h1,hne=>by
   simp only[zq,Bool.and_eq_true]at h;simp at h1;exact yJ h.2 h1 (by omega)
end
section
variable {κ κ':List Conc} {f g:Nat->Bool}
theorem tH(h:∀i,f i=true->g i=true){c:Cell}(hc:c.fa f=true):c.fa g=true:=by
 cases c<;>first|rfl|exact h _ hc
theorem mW(h:∀i,f i=true->g i=true){l:List Cell}(hl:l.all (Cell.fa f)=true):l.all (Cell.fa g)=true:=by
 rw[List.all_eq_true]at hl |-;exact fun c hc=>tH h (hl c hc)
theorem aaZ(h:∀i,f i=true->g i=true){x:SV}(hx:x.fa f=true):x.fa g=true:=by
 cases x with
 | c x=>exact tH h hx
 | g l=>exact mW h hx
 | f _ l=>exact mW h hx
 | u l=>
   simp only[SV.fa]at hx |-;rw[List.all_eq_true]at hx |-;intro t ht;have:=hx t ht;cases t with
   | inl x=>exact tH h this
   | inr l=>exact mW h this
theorem Df(h:∀i,f i=true->g i=true){it:Item}(hi:it.fa f=true):it.fa g=true:=by
 cases it with
 | k T cs=>exact mW h hi
 | elt src ow cs=>
   cases src with
   | none=>exact mW (l:=cs) h hi
   | some q=>
     obtain⟨i,iv⟩:=q;simp only[Item.fa,Bool.and_eq_true]at hi |-;exact⟨h _ hi.1,mW h hi.2⟩
 | lm k l=>
   simp only[Item.fa,List.all_eq_true]at hi |-;exact fun p hp=>tH h (hi p hp)
 | _=>rfl
theorem Ij(h:∀i,f i=true->g i=true){e:bP}(he:e.all (fun p=>p.2.fa f)=true):e.all (fun p=>p.2.fa g)=true:=by
 rw[List.all_eq_true]at he |-;exact fun p hp=>aaZ h (he p hp)
end
section
variable {P:Program} {N n0:Nat} {fx:Fx} {its aR:List Item} {κ κ':List Conc} {w:World} {env:bP} {α:Type} {sz:Nat} {E:TypeId} {R:RT α} [dM R] {b p q o:Nat} {T:TypeId} {cs:List Cell} {l l0:List α}
def nS(p n k:Nat):Bool:=Nat.blt k n && !Nat.beq k p
theorem Ao{p n k}(h:nS p n k=true):k<n/\k≠p:=by
 simp only[nS,Bool.and_eq_true,Nat.blt_eq,Bool.not_eq_true']at h;refine⟨h.1,fun e=>?_⟩;subst e;simp at h
theorem MR(S:St n0 fx env its κ w)(hb:its[b]?=some (.k T cs)):cs.all (Cell.lt its.length)=true:=by
 have hs:=S.Fe;unfold oP at hs;rw[List.all_eq_true]at hs;exact hs _ (List.mem_of_getElem? hb)
theorem IG{l:List Cell}{g}(h:l.all g=true){x}(hx:g x=true)i:(l.set i x).all g=true:=by
 rw[List.all_eq_true]at h |-;intro c hc;rcases List.mem_or_eq_of_mem_set hc with h1|rfl
 .exact h c h1
 .exact hx
theorem St.Z8(S:St n0 fx env its κ w)(hb:its[b]?=some (.k T cs))(ho:cs[o]?=some (.s p))(hp:its[p]?=some (.o sz E R l))(hn:n0<=p)(Uh:env.all (fun x=>x.2.fa (nS p its.length))=true)
 (hits:∀(i:Nat) (it:Item),its[i]?=some it->i≠b->it.fa (nS p its.length)=true) (hcs:∀(i:Nat) (c:Cell),cs[i]?=some c->i≠o->c.fa (nS p its.length)=true) :
 ∃κ',St n0 fx env (((its.set b (.k T (cs.set o (.s its.length)))).set p (.o sz E R []))++[.o sz E R l]) κ' w/\fD κ' env=fD κ env:=by
 have hbl:b<its.length:=(List.getElem?_eq_some_iff.1 hb).1;have hpl:p<its.length:=(List.getElem?_eq_some_iff.1 hp).1;have hol:o<cs.length:=(List.getElem?_eq_some_iff.1 ho).1;have hbp:b≠p:=fun e=>by subst e;rw[hb]at hp;cases hp
 obtain⟨c,hc,hok⟩:=S.iy hp;obtain⟨cb,hcb,Mw⟩:=S.iy hb;cases c with
 | r A n cc=>
   cases cb with
   | b nb=>
     have hkl:κ.length=its.length:=S.len;have hkf:∀i,nS p its.length i=true->(κ.set p (.r none 0 0)++[Conc.r A n cc])[i]?=κ[i]?:=fun i hi=>by
      obtain⟨h1,h2⟩:=Ao hi;rw[List.getElem?_append_left (by simp[hkl,h1]),List.getElem?_set_ne (Ne.symm h2)]
     have hk':∀i,(κ.set p (.r none 0 0)++[Conc.r A n cc])[i]?=if i=its.length then some (.r A n cc)else if i=p then some (.r none 0 0)else κ[i]?:=fun i=>by
      split
      .rename_i e;subst e;rw[List.getElem?_append_right (by simp[hkl])];simp[hkl]
      .rename_i e;rcases Nat.lt_or_ge i its.length with h|h
       .rw[List.getElem?_append_left (by simp[hkl,h])];split
        .rename_i e2;subst e2;rw[List.getElem?_set_self (by omega)]
        .rename_i e2;rw[List.getElem?_set_ne (Ne.symm e2)]
       .rw[List.getElem?_append_right (by simp[hkl];omega),if_neg (by omega),List.getElem?_eq_none (l:=κ) (by omega),List.getElem?_eq_none (by simp[hkl];omega)]
     have hi':∀i,(((its.set b (.k T (cs.set o (.s its.length)))).set p (.o sz E R []))++[.o sz E R l])[i]?=if i=its.length then some (.o sz E R l)else if i=p then some (.o sz E R [])else if i=b then some (.k T (cs.set o (.s its.length)))else its[i]?:=fun i=>by
      split
      .rename_i e;subst e;rw[List.getElem?_append_right (by simp)];simp
      .rename_i e;rcases Nat.lt_or_ge i its.length with h|h
       .rw[List.getElem?_append_left (by simp[h])];split
        .rename_i e2;subst e2;rw[List.getElem?_set_self (by simp;omega)]
        .rename_i e2;rw[List.getElem?_set_ne (Ne.symm e2)];split
         .rename_i e3;subst e3;rw[List.getElem?_set_self (by omega)]
         .rename_i e3;rw[List.getElem?_set_ne (Ne.symm e3)]
       .rw[List.getElem?_append_right (by simp;omega),if_neg (by omega),if_neg (by omega),List.getElem?_eq_none (l:=its) (by omega),List.getElem?_eq_none (by simp;omega)]
     have hLp:(dL its κ)[p]?=some (ob A):=by have:=bU hp hc;exact this
     have hL':∀(i b':Nat),(dL (((its.set b (.k T (cs.set o (.s its.length)))).set p (.o sz E R []))++[.o sz E R l]) (κ.set p (.r none 0 0)++[Conc.r A n cc]))[i]?=some (some b')->i≠p/\(dL its κ)[if i=its.length then p else i]?=some (some b'):=by
      intro i b' h;obtain⟨it,c,h1,h2,h3⟩:=uF h;rw[hi']at h1;rw[hk']at h2;by_cases e:i=its.length
      .subst e;simp at h1 h2;subst h1;subst h2;refine⟨by omega,?_⟩;rw[if_pos rfl,hLp];simpa [iM]using h3
      .rw[if_neg e]at h1 h2 |-;by_cases e2:i=p
       .subst e2;simp at h1 h2;subst h1;subst h2;simp[iM,ob]at h3
       .rw[if_neg e2]at h1 h2;refine⟨e2,?_⟩;by_cases e3:i=b
        .subst e3;rw[if_pos rfl]at h1;injection h1 with h1;subst h1;rw[hcb]at h2;injection h2 with h2;subst h2;rw[bU hb hcb];exact congrArg some h3
        .rw[if_neg e3]at h1;rw[bU h1 h2,h3]
     refine⟨_,S.place (f:=nS p its.length) (σ:=fun i=>if i=its.length then p else i) (by simp[hkl]) (by simp) (fun i hi=>?_) hkf Uh ?_ (fun i b' h=>(hL' i b' h).2) (fun i j b' h1 h2 e=>?_) (fun i it c h1 h2=>?_)⟩
     .have:=S.n0;rw[hk',if_neg (by omega),if_neg (by omega)]
     .unfold oP;rw[List.all_eq_true];intro it hit;have hs:=vZ (m:=its.length+1) (by omega) S.Fe;unfold oP at hs;rw[List.all_eq_true]at hs;simp only[List.length_append,List.length_set,List.length_singleton];rcases List.mem_append.1 hit with h|h
      .rcases List.mem_or_eq_of_mem_set h with h|rfl
       .rcases List.mem_or_eq_of_mem_set h with h|rfl
        .exact hs it h
        .exact IG (fP (by omega) (MR S hb)) (by simp[Cell.lt,Nat.blt_eq]) o
       .rfl
      .rw[List.mem_singleton]at h;subst h;rfl
     .obtain⟨g1,g2⟩:=hL' i b' h1;obtain⟨g3,g4⟩:=hL' j b' h2
      try simp only at e
      by_cases e1:i=its.length<;>by_cases e2:j=its.length<;>simp[e1,e2]at e |-<;>omega
     .rw[hi']at h1;rw[hk']at h2;by_cases e:i=its.length
      .subst e;rw[if_pos rfl]at h1 h2;injection h1 with h1;injection h2 with h2;subst h1;subst h2;exact .inr fun hU=>⟨hok.1,hok.2.mu hU⟩
      .rw[if_neg e]at h1 h2;by_cases e2:i=p
       .subst e2;rw[if_pos rfl]at h1 h2;injection h1 with h1;injection h2 with h2;subst h1;subst h2;exact .inr fun hU=>⟨rfl,Own.nil⟩
       .rw[if_neg e2]at h1 h2;by_cases e3:i=b
        .subst e3;rw[if_pos rfl]at h1;injection h1 with h1;subst h1;rw[hcb]at h2;injection h2 with h2;subst h2;refine .inr fun hU=>?_;simp only[OK]at Mw |-;have:(cs.set o (.s its.length)).map (Cell.den (κ.set p (.r none 0 0)++[Conc.r A n cc]))=cs.map (Cell.den κ):=by
          apply List.ext_getElem?;intro k;rw[List.getElem?_map,List.getElem?_map,List.getElem?_set];by_cases ek:o=k
          .subst ek;rw[if_pos rfl,if_pos hol,ho];have hq:=hk' its.length;rw[if_pos rfl]at hq;simp only[Option.map_some,Cell.den,hq,hc]
          .rw[if_neg ek];cases hck:cs[k]? with
           | none=>rfl
           | some c=>
             simp only[Option.map_some];rw[yN hkf (hcs k c hck (Ne.symm ek))]
         rw[this];exact Mw
        .rw[if_neg e3]at h1;exact .inl ⟨h1,h2,hits i it h1 e3⟩
   | _=>exact Mw.elim
 | _=>exact hok.elim
theorem St.back(S:St n0 fx env its κ w)(hb:its[b]?=some (.k T cs))(hol:o<cs.length)(hp:its[p]?=some (.o sz E R l0))(hn:n0<=p)(hpq:p≠q){A cc}(hx:(cs[o]?=some (.s q)/\its[q]?=some (.o sz E R l)/\κ[q]?=some (.r A l.length cc))\/(cs[o]?=some nl/\l=[]/\A=none/\cc=0/\its.length<=q))
 (Uh:env.all (fun x=>x.2.fa (fun k=>nS p its.length k && !Nat.beq k q))=true)
 (hits:∀(i:Nat) (it:Item),its[i]?=some it->i≠b->it.fa (fun k=>nS p its.length k && !Nat.beq k q)=true) (hcs:∀(i:Nat) (c:Cell),cs[i]?=some c->i≠o->c.fa (fun k=>nS p its.length k && !Nat.beq k q)=true) :
 ∃κ',St n0 fx env (((its.set b (.k T (cs.set o (.s p)))).set p (.o sz E R l)).set q .e) κ' w/\fD κ' env=fD κ env:=by
 have hbl:b<its.length:=(List.getElem?_eq_some_iff.1 hb).1;have hpl:p<its.length:=(List.getElem?_eq_some_iff.1 hp).1;have hbp:b≠p:=fun e=>by subst e;rw[hb]at hp;cases hp
 have hbq:b≠q:=fun e=>by
  rcases hx with h|h
  .subst e;rw[hb]at h;cases h.2.1
  .omega
 obtain⟨cb,hcb,Mw⟩:=S.iy hb;cases cb with
 | b nb=>
   have hkl:κ.length=its.length:=S.len;have hoff:∀i,(nS p its.length i && !Nat.beq i q)=true->i<its.length/\i≠p/\i≠q:=fun i hi=>by
    simp only[Bool.and_eq_true,Bool.not_eq_true']at hi;obtain⟨h1,h2⟩:=Ao hi.1;refine⟨h1,h2,fun e=>?_⟩;subst e;simp at hi
   have hk':∀i,(κ.set p (.r A l.length cc))[i]?=if i=p then some (.r A l.length cc)else κ[i]?:=fun i=>by
    split
    .rename_i e;subst e;rw[List.getElem?_set_self (by omega)]
    .rename_i e;rw[List.getElem?_set_ne (Ne.symm e)]
   have hkf:∀i,(nS p its.length i && !Nat.beq i q)=true->(κ.set p (.r A l.length cc))[i]?=κ[i]?:=fun i hi=>by
    rw[hk',if_neg (hoff i hi).2.1]
   have hi':∀i,(((its.set b (.k T (cs.set o (.s p)))).set p (.o sz E R l)).set q .e)[i]?=if i=q/\q<its.length then some .e else if i=p then some (.o sz E R l)else if i=b then some (.k T (cs.set o (.s p)))else its[i]?:=fun i=>by
    rw[List.getElem?_set];simp only[List.length_set];by_cases e:q=i
    .subst e;by_cases hq:q<its.length
     .rw[if_pos rfl,if_pos hq,if_pos ⟨rfl,hq⟩]
     .rw[if_pos rfl,if_neg hq,if_neg (fun h=>hq h.2),if_neg (Ne.symm hpq),if_neg (Ne.symm hbq),List.getElem?_eq_none (by omega)]
    .rw[if_neg e,if_neg (fun h=>e h.1.symm),List.getElem?_set];simp only[List.length_set];by_cases e2:p=i
     .subst e2;rw[if_pos rfl,if_pos rfl,if_pos hpl]
     .rw[if_neg e2,if_neg (Ne.symm e2),List.getElem?_set];by_cases e3:b=i
      .subst e3;rw[if_pos rfl,if_pos rfl,if_pos hbl]
      .rw[if_neg e3,if_neg (Ne.symm e3)]
   have hL':∀(i b':Nat),(dL (((its.set b (.k T (cs.set o (.s p)))).set p (.o sz E R l)).set q .e) (κ.set p (.r A l.length cc)))[i]?=some (some b')->i≠q/\(dL its κ)[if i=p then q else i]?=some (some b'):=by
    intro i b' h;obtain⟨it,c,h1,h2,h3⟩:=uF h;rw[hi']at h1;rw[hk']at h2;by_cases e:i=q
    .subst e;by_cases hq:i<its.length
     .rw[if_pos ⟨rfl,hq⟩]at h1;injection h1 with h1;subst h1;cases c<;>cases h3
     .rw[if_neg (fun h=>hq h.2),if_neg (Ne.symm hpq),if_neg (Ne.symm hbq),List.getElem?_eq_none (by omega)]at h1;cases h1
    .rw[if_neg (fun h=>e h.1)]at h1;refine⟨e,?_⟩;by_cases e2:i=p
     .subst e2;rw[if_pos rfl]at h1 h2 |-;injection h1 with h1;injection h2 with h2;subst h1;subst h2;rcases hx with⟨x1,x2,x3⟩|⟨x1,x2,x3,x4,x5⟩
      .rw[bU x2 x3];exact congrArg some h3
      .subst x3;simp[iM,ob]at h3
     .rw[if_neg e2]at h1 h2 |-;by_cases e3:i=b
      .subst e3;rw[if_pos rfl]at h1;injection h1 with h1;subst h1;rw[hcb]at h2;injection h2 with h2;subst h2;rw[bU hb hcb];exact congrArg some h3
      .rw[if_neg e3]at h1;rw[bU h1 h2,h3]
   have hlp:∀m,p<m->(Cell.s p).lt m=true:=fun m hm=>by simp[Cell.lt,Nat.blt_eq,hm]
   refine⟨_,S.place (f:=fun k=>nS p its.length k && !Nat.beq k q) (σ:=fun i=>if i=p then q else i) (by simp[hkl]) (by simp) (fun i hi=>?_) hkf Uh ?_ (fun i b' h=>(hL' i b' h).2) (fun i j b' h1 h2 e=>?_) (fun i it c h1 h2=>?_)⟩
   .rw[hk',if_neg (by omega)]
   .unfold oP;rw[List.all_eq_true];intro it hit;have hs:=S.Fe;unfold oP at hs;rw[List.all_eq_true]at hs;simp only[List.length_set];rcases List.mem_or_eq_of_mem_set hit with h|rfl
    .rcases List.mem_or_eq_of_mem_set h with h|rfl
     .rcases List.mem_or_eq_of_mem_set h with h|rfl
      .exact hs it h
      .exact IG (MR S hb) (hlp _ hpl) o
     .rfl
    .rfl
   .obtain⟨g1,g2⟩:=hL' i b' h1;obtain⟨g3,g4⟩:=hL' j b' h2
    try simp only at e
    by_cases e1:i=p<;>by_cases e2:j=p<;>simp[e1,e2]at e |-<;>omega
   .rw[hi']at h1;rw[hk']at h2;by_cases e:i=q/\q<its.length
    .rw[if_pos e]at h1;injection h1 with h1;subst h1;exact .inr fun _=>(by cases c<;>trivial)
    .rw[if_neg e]at h1;by_cases e2:i=p
     .subst e2;rw[if_pos rfl]at h1 h2;injection h1 with h1;injection h2 with h2;subst h1;subst h2;refine .inr fun hU=>?_;rcases hx with⟨x1,x2,x3⟩|⟨x1,x2,x3,x4,x5⟩
      .have:=S.ok q _ _ x2 x3;exact⟨rfl,this.2.mu hU⟩
      .subst x2;subst x3;subst x4;exact⟨rfl,Own.nil⟩
     .rw[if_neg e2]at h1 h2;by_cases e3:i=b
      .subst e3;rw[if_pos rfl]at h1;injection h1 with h1;subst h1;rw[hcb]at h2;injection h2 with h2;subst h2;refine .inr fun hU=>?_;simp only[OK]at Mw |-;have:(cs.set o (.s p)).map (Cell.den (κ.set p (.r A l.length cc)))=cs.map (Cell.den κ):=by
        apply List.ext_getElem?;intro k;rw[List.getElem?_map,List.getElem?_map,List.getElem?_set];by_cases ek:o=k
        .subst ek;rw[if_pos rfl,if_pos hol];rcases hx with⟨x1,x2,x3⟩|⟨x1,x2,x3,x4,x5⟩
         .rw[x1];have hq:=hk' p;rw[if_pos rfl]at hq;simp only[Option.map_some,Cell.den,hq,x3]
         .subst x2;subst x3;subst x4;rw[x1];have hq:=hk' p;rw[if_pos rfl]at hq;simp only[Option.map_some,Cell.den,hq];rfl
        .rw[if_neg ek];cases hck:cs[k]? with
         | none=>rfl
         | some c=>
           simp only[Option.map_some];rw[yN hkf (hcs k c hck (Ne.symm ek))]
       rw[this];exact Mw
      .rw[if_neg e3]at h1;exact .inl ⟨h1,h2,hits i it h1 e3⟩
 | _=>exact Mw.elim
end
theorem Je{n i j}(h:IQ n i=some j):0<=i/\i<n/\i.toNat=j:=by
 unfold IQ at h;split at h
 .rename_i h1;injection h with h;exact⟨h1.1,h1.2,h⟩
 .cases h
section
variable {P:Program} {N n0:Nat} {fx:Fx} {its aR:List Item} {κ κ':List Conc} {w:World} {env:bP} {tt:TT} {α:Type} {sz:Nat} {E:TypeId} {R:RT α} [dM R] {T:TypeId} {cs cs':List Cell} {d:Option Nat} {t:TypeId} {ps:String} {af:Array Edge} {g:Option (Nat×Bool)} {Kn:Act->World->Prop} {Ke:Nat->Act->World->Prop} {Kr:Act->World->Prop}
def rG(tt:TT)(ty:TypeId)(n:Nat):Bool:=match jU ty tt with
 | some ⟨.array m e,_,_,_,_⟩=>(match jU e tt with
   | some te=>Nat.beq te.size 1&&Nat.beq m n
   | none=>false)
 | _=>false
theorem gq(bZ:eu P tt){ty x y k iv i o n j off}(hx:jN env x=some (vp i o))(hy:jN env y=some (vi k iv))(hi:its[i]?=some (.k T cs))(ha:rG tt ty n=true)(hj:IQ n iv=some j)(hoff:o+j=off) :
 Eff P N n0 fx env its ⟨d,.indexAddr ty x y,t,ps,af,g⟩ (some (vp i off)) its:=by
 subst hoff;refine KH bZ hx hy hi ?_;obtain⟨h0,h1,h2⟩:=Je hj;unfold rG at ha;split at ha
 .rename_i m e _ _ _ _ ht;split at ha
  .rename_i te hte;simp only[Bool.and_eq_true,Nat.beq_eq]at ha;obtain⟨ha1,ha2⟩:=ha;subst ha2;unfold ac9;rw[ht];simp only[hte,h0,h1,ha1,decide_true,h2,Nat.mul_one]
  .cases ha
 .cases ha
def scT(tt:TT)(ty:TypeId):Bool:=match jU ty tt with
 | some ⟨_,false,n,_,_⟩=>Nat.beq n 1
 | _=>false
theorem oH(bZ:eu P tt){ty x i o c}(hx:jN env x=some (vp i o))(hi:its[i]?=some (.k T cs))(hc:cs[o]?=some c)(ha:scT tt ty=true) :
 Eff P N n0 fx env its ⟨d,.load ty x,t,ps,af,g⟩ (some (.c c)) its:=fun κ w S a zw=>by
 unfold scT at ha;split at ha
 .rename_i n ht;obtain⟨q,hq,hok⟩:=S.iy hi;cases q with
  | b nb=>
    have hx':=eD (κ:=κ) hx;simp only[SV.den,Cell.den,hq]at hx';have hr:=JB (N:=N) (d:=d) (t:=t) (ps:=ps) (af:=af) (g:=g) (bZ.get ht).agg hx' hok (o:=o) (v:=c.den κ) (by simp[hc]) a zw;exact .inl ⟨_,w,hr,[],fun z hz=>(by injection hz with hz;subst hz;rw[List.append_nil];rfl),by rw[List.append_nil];exact S⟩
  | _=>exact hok.elim
 .cases ha
theorem jO(bZ:eu P tt){ty x y i o c}(hx:jN env x=some (vp i o))(hy:jN env y=some (.c c))(hi:its[i]?=some (.k T cs))(ho:o<cs.length)(hc:Qb its c=true)(hlt:c.lt its.length=true)(ha:scT tt ty=true)(how:its.any Item.ow=false)(hcs:cs.set o c=cs') :
 DL P N n0 fx env its ⟨none,.store ty x y,t,ps,af,g⟩ (its.set i (.k T cs')):=fun κ w S a zw=>by
 subst hcs;unfold scT at ha;split at ha
 .rename_i n ht;have ha:=Nat.eq_of_beq_eq_true ha;obtain⟨q,hq,hok⟩:=S.iy hi;cases q with
  | b nb=>
    have hx':=eD (κ:=κ) hx;simp only[SV.den,Cell.den,hq]at hx';have hL:(dL its κ)[i]?=some (some nb):=by have:=bU hi hq;exact this
    have hset:cs.take o++[c]++cs.drop (o+1)=cs.set o c:=by
     rw[List.set_eq_take_append_cons_drop,if_pos ho];simp
    have hcells:(SV.c c).cells its=some [c]:=by simp only[SV.cells,hc]
    obtain⟨w',hr,hst⟩:=JE (P:=P) (N:=N) (t:=t) (ps:=ps) (af:=af) (g:=g) (bZ.get ht).size hx' (eD hy) (lK S.NZ hcells) (by simp[ha]) (by
     simp only[List.map_cons,List.map_nil,List.all_cons,List.all_nil,Bool.and_true];exact Me S.NZ hc) hok hL S.ctx (by simp;omega) (cs':=(cs.set o c).map (Cell.den κ)) (by rw[<-hset];simp[List.map_append,List.map_take,List.map_drop]) a zw
    refine⟨w',hr,S.lF (Hy how) hi hq ?_ hst⟩;have hsc:cs.all (Cell.lt its.length)=true:=MR S hi;exact IG hsc hlt o
  | _=>exact hok.elim
 .cases ha
section
variable {A B:List Item} {r0 b j dd:Nat} {S:Nat->List α} {c:Code} {l:List α} {q':Nat}
theorem HY{α:Type u}{A X B:List α}{r0 j n}(hA:A.length=r0)(hX:X.length=n)(hj:j<n):(A++(X++B))[r0+j]?=X[j]?:=by
 subst hA;rw[List.getElem?_append_right (by omega),Nat.add_sub_cancel_left,List.getElem?_append_left (by omega)]
theorem TM{α:Type u}{A X B:List α}{r0 k n}(hA:A.length=r0)(hX:X.length=n):(A++(X++B))[r0+n+k]?=B[k]?:=by
 subst hA;subst hX;rw[List.getElem?_append_right (by omega),List.getElem?_append_right (by omega)];congr 1;omega
theorem NQ{α:Type u}{A X B:List α}{r0 j n y}(hA:A.length=r0)(hX:X.length=n)(hj:j<n):(A++(X++B)).set (r0+j) y=A++(X.set j y++B):=by
 subst hA;rw[List.set_append_right _ _ (by omega),Nat.add_sub_cancel_left,List.set_append_left _ _ (by omega)]
theorem TK{α:Type u}{A X B:List α}{r0 k n y}(hA:A.length=r0)(hX:X.length=n):(A++(X++B)).set (r0+n+k) y=A++(X++B.set k y):=by
 subst hA;subst hX;rw[List.set_append_right _ _ (by omega),List.set_append_right _ _ (by omega)];congr 3;omega
theorem X3{α:Type u}{A X B:List α}{r0 n}(hA:A.length=r0)(hX:X.length=n):(A++(X++B)).length=r0+n+B.length:=by
 simp only[List.length_append,hA,hX,Nat.add_assoc]
theorem Aa(hA:A.length=r0)(hj:j<128):(A++(tO sz E R S++B))[r0+j]?=some (.o sz E R (S j)):=by
 rw[HY hA BK hj,aaW hj]
theorem vS{X}(hA:A.length=r0){i}(hi:i<r0):(A++X)[i]?=A[i]?:=List.getElem?_append_left (by omega)
theorem Jh(hA:A.length=r0){k}:(A++(tO sz E R S++B))[r0+128+k]?=B[k]?:=TM hA BK
theorem GH(hA:A.length=r0)(hj:j<128):(A++(tO sz E R S++B)).set (r0+j) (.o sz E R l)=A++(tO sz E R (aH S j l)++B):=by
 rw[NQ hA BK hj,aaV]
theorem aT{v j}(h:IQ 64 v=some j):j<128/\64+j<128:=by
 obtain⟨h0,h1,h2⟩:=Je h;omega
theorem mG(hA:A.length=r0):(A++(tO sz E R S++B)).length=r0+128+B.length:=X3 hA BK
def alone(f:Nat->Bool)(r0 b:Nat)(env:bP)(A B:List Item):Bool:=
 env.all (fun p=>p.2.fa f)&&(zq f b 0 A&&zq f b (r0+128) B)
theorem Hw{n}(hj:j<128){k}(h:zT r0 n k=true):nS (r0+j) n k=true:=by
 simp only[zT,nS,Bool.and_eq_true,Bool.or_eq_true,Nat.blt_eq,Nat.ble_eq]at h |-;refine⟨h.1,?_⟩;cases hb:Nat.beq k (r0+j)with
 | false=>rfl
 | true=>
   have:=Nat.eq_of_beq_eq_true hb;omega
theorem Hq{n i c}(h:Nv dd r0 n i c=true)(hj:j<128)(hne:i≠dd+j):c.fa (nS (r0+j) n)=true:=by
 have key:∀k,(Nat.blt k n&&(Nat.blt k r0||Nat.ble (r0+128) k))=true->nS (r0+j) n k=true:=fun k hk=>Hw hj hk
 cases c with
 | v x=>rfl
 | s k=>
   simp only[Nv,Bool.and_eq_true,Bool.or_eq_true,Nat.blt_eq,Nat.ble_eq,Nat.beq_eq]at h;simp only[Cell.fa,nS,Bool.and_eq_true,Nat.blt_eq];refine⟨h.1,?_⟩;cases hb:Nat.beq k (r0+j)with
   | false=>rfl
   | true=>
     have:=Nat.eq_of_beq_eq_true hb;omega
 | p k o=>exact key k h
 | t k=>exact key k h
 | m k=>exact key k h
 | w fn k o=>exact key k h
theorem LC f(hA:A.length=r0)(h1:zq f b 0 A=true)(h2:zq f b (r0+128) B=true):∀i it,(A++(tO sz E R S++B))[i]?=some it->i≠b->it.fa f=true:=fun i it hi hne=>by
 rcases Nat.lt_or_ge i r0 with h|h
 .rw[vS hA h]at hi;exact yJ h1 hi (by omega)
 .rcases Nat.lt_or_ge i (r0+128)with h3|h3
  .obtain⟨k,rfl⟩:∃k,i=r0+k:=⟨i-r0,by omega⟩;rw[Aa hA (by omega)]at hi;injection hi with hi;subst hi;rfl
  .obtain⟨k,rfl⟩:∃k,i=r0+128+k:=⟨i-(r0+128),by omega⟩;rw[Jh hA]at hi;exact yJ h2 hi hne
theorem A.Z8{a}r0 b dd(hA:A.length=r0)(hb:A[b]?=some (.k T cs))(hj:j<128)(ho:cs[dd+j]?=some (.s (r0+j)))(hB:(Nat.ble n0 r0&&(EH dd r0 (r0+128+B.length) 0 cs&&alone (zT r0 (r0+128+B.length)) r0 b env A B))=true)
 (h:V.A N n0 fx env (A++(tO sz E R S++B)) a w):V.A N n0 fx env (A.set b (.k T (cs.set (dd+j) (.s (r0+128+B.length))))++(tO sz E R (aH S j [])++(B++[.o sz E R (S j)]))) a w:=by
 obtain⟨κ,hh,St0⟩:=h;simp only[alone,Bool.and_eq_true,Nat.ble_eq]at hB;obtain⟨h1,h2,h3,h4,h5⟩:=hB;have hbl:b<r0:=by rw[<-hA];exact(List.getElem?_eq_some_iff.1 hb).1
 have hm:∀k,zT r0 (r0+128+B.length) k=true->nS (r0+j) (A++(tO sz E R S++B)).length k=true:=fun k hk=>by
  rw[mG hA];exact Hw hj hk
 obtain⟨κ',S',e⟩:=St0.Z8 (b:=b) (p:=r0+j) (o:=dd+j) (by rw[vS hA hbl];exact hb) ho (Aa hA hj) (by omega) (Ij hm h3) (fun i it hi hne=>Df hm (LC _ hA h4 h5 i it hi hne)) (fun i c hc hne=>by
  rw[mG hA];have:=xq h2 hc;rw[Nat.zero_add]at this;exact Hq this hj hne)
 have hA':(A.set b (.k T (cs.set (dd+j) (.s (r0+128+B.length))))).length=r0:=by rw[List.length_set];exact hA
 rw[mG hA,List.set_append_left _ _ (by omega),GH hA' hj,List.append_assoc,List.append_assoc]at S';exact⟨κ',by rw[e];exact hh,S'⟩
theorem Z.Z8 r0 b dd(hA:A.length=r0)(hb:A[b]?=some (.k T cs))(hj:j<128)(ho:cs[dd+j]?=some (.s (r0+j)))(hB:(Nat.ble n0 r0&&(EH dd r0 (r0+128+B.length) 0 cs&&alone (zT r0 (r0+128+B.length)) r0 b env A B))=true)
 (hk:Z P c Kn Ke Kr N n0 fx env (A.set b (.k T (cs.set (dd+j) (.s (r0+128+B.length))))++(tO sz E R (aH S j [])++(B++[.o sz E R (S j)])))):Z P c Kn Ke Kr N n0 fx env (A++(tO sz E R S++B)):=Z.mk fun a w h=>V.A.go (V.A.Z8 r0 b dd hA hb hj ho hB h) hk
theorem afc{n k q:Nat}(hj:j<128)(h:(zT r0 n k && !Nat.beq k q)=true):(nS (r0+j) n k && !Nat.beq k q)=true:=by
 simp only[Bool.and_eq_true]at h |-;exact⟨Hw hj h.1,h.2⟩
theorem acQ{f g}{c:Cell}(h1:c.fa f=true)(h2:c.fa g=true):c.fa (fun k=>f k&&g k)=true:=by
 cases c<;>simp_all [Cell.fa]
theorem Nn{α:Type u}{l:List α}{i x y}(h:l[i]?=some x):(l.set i y).set i x=l:=by
 apply List.ext_getElem?;intro k;rw[List.set_set,List.getElem?_set];split
 .rename_i e;subst e;rw[if_pos (List.getElem?_eq_some_iff.1 h).1,h]
 .rfl
theorem A.ET{a}r0 b dd q'(hA:A.length=r0)(hb:A[b]?=some (.k T (cs.set (dd+j) (.s (r0+128+q')))))(hj:j<128)(ho:cs[dd+j]?=some (.s (r0+j)))(hq:B[q']?=some (.o sz E R l))
 (hB:(Nat.ble n0 r0&&(EH dd r0 (r0+128+B.length) 0 cs&&(cs.all (Cell.fa fun k=>!Nat.beq k (r0+128+q'))&&alone (fun k=>zT r0 (r0+128+B.length) k && !Nat.beq k (r0+128+q')) r0 b env A B)))=true)
 (h:V.A N n0 fx env (A++(tO sz E R S++B)) a w):V.A N n0 fx env (A.set b (.k T cs)++(tO sz E R (aH S j l)++B.set q' .e)) a w:=by
 obtain⟨κ,hh,St0⟩:=h;simp only[alone,Bool.and_eq_true,Nat.ble_eq]at hB;obtain⟨h1,h2,h6,h3,h4,h5⟩:=hB;have hbl:b<r0:=by rw[<-hA];exact(List.getElem?_eq_some_iff.1 hb).1
 have hol:dd+j<cs.length:=(List.getElem?_eq_some_iff.1 ho).1;have hm:∀k,(zT r0 (r0+128+B.length) k && !Nat.beq k (r0+128+q'))=true->(nS (r0+j) (A++(tO sz E R S++B)).length k && !Nat.beq k (r0+128+q'))=true:=fun k hk=>by
  rw[mG hA];exact afc hj hk
 have hgq:(A++(tO sz E R S++B))[r0+128+q']?=some (.o sz E R l):=by rw[Jh hA];exact hq
 obtain⟨cq,hcq,hokq⟩:=St0.iy hgq;cases cq with
 | r Aq nq ccq=>
   have hn:nq=l.length:=hokq.1;subst hn;obtain⟨κ',S',e⟩:=St0.back (b:=b) (p:=r0+j) (q:=r0+128+q') (o:=dd+j) (l:=l) (A:=Aq) (cc:=ccq) (by rw[vS hA hbl];exact hb) (by rw[List.length_set];exact hol) (Aa hA hj) (by omega) (by omega) (.inl ⟨by rw[List.getElem?_set_self hol],hgq,hcq⟩) (Ij hm h3) (fun i it hi hne=>Df hm (LC _ hA h4 h5 i it hi hne)) (fun i c hc hne=>by
    rw[mG hA];rw[List.getElem?_set_ne (Ne.symm hne)]at hc;have h7:=xq h2 hc;rw[Nat.zero_add]at h7;rw[List.all_eq_true]at h6;exact acQ (Hq h7 hj hne) (h6 c (List.mem_of_getElem? hc)))
   have hA':(A.set b (.k T cs)).length=r0:=by rw[List.length_set];exact hA
   rw[Nn ho,List.set_append_left _ _ (by omega),GH hA' hj,TK hA' BK]at S';exact⟨κ',by rw[e];exact hh,S'⟩
 | _=>exact hokq.elim
theorem Z.ET r0 b dd q'(hA:A.length=r0)(hb:A[b]?=some (.k T (cs.set (dd+j) (.s (r0+128+q')))))(hj:j<128)(ho:cs[dd+j]?=some (.s (r0+j)))(hq:B[q']?=some (.o sz E R l))
 (hB:(Nat.ble n0 r0&&(EH dd r0 (r0+128+B.length) 0 cs&&(cs.all (Cell.fa fun k=>!Nat.beq k (r0+128+q'))&&alone (fun k=>zT r0 (r0+128+B.length) k && !Nat.beq k (r0+128+q')) r0 b env A B)))=true)
 (hk:Z P c Kn Ke Kr N n0 fx env (A.set b (.k T cs)++(tO sz E R (aH S j l)++B.set q' .e))):Z P c Kn Ke Kr N n0 fx env (A++(tO sz E R S++B)):=Z.mk fun a w h=>V.A.go (V.A.ET r0 b dd q' hA hb hj ho hq hB h) hk
theorem A.XT{a}r0 b dd(hA:A.length=r0)(hb:A[b]?=some (.k T (cs.set (dd+j) nl)))(hj:j<128)(ho:cs[dd+j]?=some (.s (r0+j)))
 (hB:(Nat.ble n0 r0&&(EH dd r0 (r0+128+B.length) 0 cs&&alone (zT r0 (r0+128+B.length)) r0 b env A B))=true)
 (h:V.A N n0 fx env (A++(tO sz E R S++B)) a w):V.A N n0 fx env (A.set b (.k T cs)++(tO sz E R (aH S j [])++B)) a w:=by
 obtain⟨κ,hh,St0⟩:=h;simp only[alone,Bool.and_eq_true,Nat.ble_eq]at hB;obtain⟨h1,h2,h3,h4,h5⟩:=hB;have hbl:b<r0:=by rw[<-hA];exact(List.getElem?_eq_some_iff.1 hb).1
 have hol:dd+j<cs.length:=(List.getElem?_eq_some_iff.1 ho).1;have hlt:∀{k:Nat},k<r0+128+B.length->(!Nat.beq k (r0+128+B.length))=true:=fun {k} hk=>by
  cases hb:Nat.beq k (r0+128+B.length)with
  | false=>rfl
  | true=>
    have:=Nat.eq_of_beq_eq_true hb;omega
 have hm:∀k,zT r0 (r0+128+B.length) k=true->(nS (r0+j) (A++(tO sz E R S++B)).length k && !Nat.beq k (r0+128+B.length))=true:=fun k hk=>by
  rw[mG hA];have:=Hw hj hk;simp only[Bool.and_eq_true];exact⟨this,hlt (Ao this).1⟩
 obtain⟨κ',S',e⟩:=St0.back (b:=b) (p:=r0+j) (q:=r0+128+B.length) (o:=dd+j) (l:=([]:List α)) (A:=none) (cc:=0) (by rw[vS hA hbl];exact hb) (by rw[List.length_set];exact hol) (Aa hA hj) (by omega) (by omega) (.inr ⟨by rw[List.getElem?_set_self hol],rfl,rfl,rfl,by rw[mG hA];omega⟩) (Ij hm h3) (fun i it hi hne=>Df hm (LC _ hA h4 h5 i it hi hne)) (fun i c hc hne=>by
  rw[mG hA];rw[List.getElem?_set_ne (Ne.symm hne)]at hc;have h7:=xq h2 hc;rw[Nat.zero_add]at h7;exact tH (fun k hk=>by simp only[Bool.and_eq_true];exact⟨hk,hlt (Ao hk).1⟩) (Hq h7 hj hne))
 have hA':(A.set b (.k T cs)).length=r0:=by rw[List.length_set];exact hA
 rw[Nn ho,List.set_append_left _ _ (by omega),GH hA' hj]at S';have hge:(A.set b (.k T cs)++(tO sz E R (aH S j [])++B)).set (r0+128+B.length) .e=A.set b (.k T cs)++(tO sz E R (aH S j [])++B):=List.set_eq_of_length_le (by rw[mG hA'];omega);rw[hge]at S';exact⟨κ',by rw[e];exact hh,S'⟩
theorem Z.XT r0 b dd(hA:A.length=r0)(hb:A[b]?=some (.k T (cs.set (dd+j) nl)))(hj:j<128)(ho:cs[dd+j]?=some (.s (r0+j)))
 (hB:(Nat.ble n0 r0&&(EH dd r0 (r0+128+B.length) 0 cs&&alone (zT r0 (r0+128+B.length)) r0 b env A B))=true)
 (hk:Z P c Kn Ke Kr N n0 fx env (A.set b (.k T cs)++(tO sz E R (aH S j [])++B))):Z P c Kn Ke Kr N n0 fx env (A++(tO sz E R S++B)):=Z.mk fun a w h=>V.A.go (V.A.XT r0 b dd hA hb hj ho hB h) hk
end
theorem sO{aR}ys(e:(j5 ((List.range its.length).map .g++ys) aR,DW n0 its.length ((List.range its.length).map .g++ys) env aR (some []) (srcs its ((List.range its.length).map .g++ys) aR))=(srcs its ((List.range its.length).map .g++ys) aR,true)):Pre n0 fx env its aR:=fun κ w S=>by
 injection e with h1 h2;refine⟨ys.map (cJ κ),?_⟩;have h:=S.view h1 h2;have hm:((List.range its.length).map Jx.g).map (cJ κ)=κ:=by
  apply List.ext_getElem?;intro i;rw[List.getElem?_map,List.getElem?_map];by_cases hi:i<its.length
  .have h2:i<κ.length:=by rw[S.len];exact hi
   rw[List.getElem?_range hi,List.getElem?_eq_getElem h2];simp[cJ,List.getElem?_eq_getElem h2]
  .have h2:κ.length<=i:=by rw[S.len];omega
   rw[List.getElem?_eq_none (by simpa using hi),List.getElem?_eq_none h2];rfl
 rw[List.map_append,hm]at h;exact h
theorem J4{κ}:∀{e'},qY env e'=some e'->Sub (fD κ env) (fD κ e')/\∀p∈e',p∈env
 | [],_=>⟨trivial,fun p hp=>by simp at hp⟩
 | (t,x)::r,h=>by
  simp only[qY]at h;split at h
  .rename_i x1 r1 hx hr;injection h with h;injection h with h1 h2;injection h1 with _ h1;subst h1;subst h2;obtain⟨i1,i2⟩:=J4 (κ:=κ) hr;refine⟨⟨iZ hx,i1⟩,fun p hp=>?_⟩;rcases List.mem_cons.1 hp with rfl|hp
   .exact wR hx
   .exact i2 p hp
  .cases h
theorem A.keep{a}(h:A N n0 fx env its a w)e'(e:qY env e'=some e'):A N n0 fx e' its a w:=by
 obtain⟨κ,hh,S⟩:=h;obtain⟨i1,i2⟩:=J4 (κ:=κ) e;refine⟨κ,hh.sub i1,S.prune ?_⟩;have hs:=S.sj;unfold yh at hs |-;rw[List.all_eq_true]at hs |-;exact fun p hp=>hs p (i2 p hp)
theorem Z.keep{c}e'(e:qY env e'=some e')(hk:Z P c Kn Ke Kr N n0 fx e' its):Z P c Kn Ke Kr N n0 fx env its:=Z.mk fun a w h=>A.go (A.keep h e' e) hk
theorem kI{l:List Cell}{i k x}(h:k<l.length):k<(l.set i x).length:=by
 rw[List.length_set];exact h
theorem A.norm{bC a}(h:its=bC)(k:A N n0 fx env its a w):A N n0 fx env bC a w:=h▸k
theorem rX{f o M4 fV jh Zr}(hc:∀args w,(callFunc f args).run P w=.ok (.enter f args) w)(spec:Spec P f M4 fV Zr jh)js vz v
 (e:((((Ve env o.op,j5 js fV),Zn its.length fV.length js Zr),zi js M4,cB its js M4 fV),(zD js fV jh its,v.lt its.length))=((((some (f,vz),srcs its js fV),some v),some vz,true),(some its,true))) (hF:MC js=false\/Gp fV.length jh) :
 Eff P N n0 fx env its o (some v) its:=fun κ w S a ha=>by
 injection e with e1 e2;injection e2 with e2 e3;injection e1 with h1 e1;injection e1 with h3 h4;have h5:cB2 (zD js fV jh its) v=true:=by
  rw[e2];simp only[cB2,Bool.and_eq_true];exact⟨e3,S.Fe⟩
 have:=UQ hc spec js v (by rw[h1,h3];rfl) h3 h4 h5 hF κ w S a ha;rw[e2]at this;exact this
end
end V
end Go.Proofs.YtbgfhaahhdnogaaGreat
