/- Arrays among a law's arguments. -/
import Derived.Test.YtbgfhaahhdnogaaGreatBridge
import Derived.OpenShut
namespace Go.Proofs.YtbgfhaahhdnogaaGreat
namespace V
theorem KV{H enc P w fuel t e n cs x}(ht:P.underlying t=some (.array n e))(h:DataW.trod enc P w 0 (fun _=>true) true fuel t cs=some x)(hw:∀n∈x.1.weights P t,n<=reachBytes) :
 cs.length=P.cellsOf t/\∀i,i<n->∃(m:Nat) (y:DataW H×List MemPlace),DataW.trod enc P w 0 (fun _=>true) true m e ((cs.drop (i*P.cellsOf e)).take (P.cellsOf e))=some y/\∀k∈y.1.weights P e,k<=reachBytes:=by
 obtain⟨xs,m,rfl,rfl,hl,hxs,hf⟩:=DataW.trod_array ht h;refine⟨hl,fun i hi=>?_⟩;have h1:=hf i hi;have hlt:i<xs.length:=by omega
 rw[List.getElem?_eq_getElem hlt]at h1;refine⟨m,_,h1,fun k hk=>hw k ?_⟩;simp only[DataW.weights,ht];exact mY (List.mem_map.2 ⟨xs[i],List.getElem_mem hlt,rfl⟩) hk
theorem array_elem{α P u sz}{R:RT α}{G}(ho:Opens P u sz R G){H enc w}{cs:List Value}{n}
 (h:∀(i:Nat),i<n->∃(m:Nat) (y:DataW H×List MemPlace),DataW.trod enc P w 0 (fun _=>true) true m u ((cs.drop (i*P.cellsOf u)).take (P.cellsOf u))=some y/\∀k∈y.1.weights P u,k<=reachBytes)
 (i off k) (hi:i<n) (hn:P.cellsOf u=k) (hoff:i*k=off):∃d,R Y8 w ((cs.drop off).take k) d/\G d:=by
 obtain⟨m,y,h1,h2⟩:=h i hi;rw[hn,hoff]at h1;obtain⟨_,d,hd,hg⟩:=ho h1 h2;exact⟨d,hd,hg⟩
end V
end Go.Proofs.YtbgfhaahhdnogaaGreat
