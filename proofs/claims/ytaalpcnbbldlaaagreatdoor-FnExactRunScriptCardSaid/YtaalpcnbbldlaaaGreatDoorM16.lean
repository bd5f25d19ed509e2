/-
  FnAuditDetects: the law, walked by the symbolic machine: it returns true. No condition.
-/
import Derived.Test.YtaalpcnbbldlaaaGreatDoorM13
import Derived.Test.YtaalpcnbbldlaaaGreatDoorM15
namespace Go.Proofs.YtaalpcnbbldlaaaGreatDoor.G
set_option linter.all false
open Go.RowKit L D Tryz
section
set_option maxRecDepth 100000
theorem Cw(x:bN)(c:Int)(hd:x.ah.length≤1048576)(hin:eN List.length (Cv x c)≤1048576):So 77 [.agg (bw x),aI c] [.a (.lit (.string (HH x c)))]:=by
 refine aF X call77 func77 ntmps77 rfl rfl ?_
 intro zb
 have S3:eN List.length (x.ah.getD c.toNat (aR .bR)).live.inbox≤1048576:=hin
 have hnl:=eF S3
 refine av X [1,2] rfl (aa (aM X [] [(10,⟨false,[aU (kA x c)]⟩)] [1,2,22] [] rfl (by(with_reducible and_intros);(iterate 2 all_goals try first|exact⟨⟩|exact(gj x c)|exact(fun h=>amI hd h))) ?_))
 refine an rfl ?_ ?_<;>intro hb0
 ·have hkr:LZ x c=false:=cR hb0 (by simp only[LZ,Cv,bC]<;>first|rfl|ac_rfl)
  exact av X [4] rfl (aq (aj rfl ⟨by rw[HH,hkr];rfl,⟨⟩⟩))
 ·have hkr:LZ x c=true:=cL hb0 (by simp only[LZ,Cv,bC]<;>first|rfl|ac_rfl)
  have hr:=aeQ hd hkr
  refine au (aO X [1,2,5] rfl (by and_intros<;>first|exact⟨⟩|exact rfl) (aa (aO X [5,30,31,32] rfl (by and_intros<;>first|exact⟨⟩| (intros;omega)) ?_)))
  refine aB (aP (fun k=>k≤(x.ah.getD c.toNat (aR .bR)).live.inbox.length) (fun k:Nat=> [(32, .one ((aI k)))]) (fun k=> [(23, .arr .str ((x.ah.getD c.toNat (aR .bR)).live.inbox.take k))]) (fun k=>(x.ah.getD c.toNat (aR .bR)).live.inbox.length-k) 0 (fun k=>rfl) (Nat.zero_le _) rfl ?_)
  intro k hk
  have htl:((x.ah.getD c.toNat (aR .bR)).live.inbox.take k).length≤1048576:=by rw[List.length_take];omega
  refine av X [5,30,31,32,33] rfl ?_
  refine aa (an rfl ?_ ?_)<;>intro bM
  ·try simp only[bG]at bM
   have hs:=cB (x.ah.getD c.toNat (aR .bR)).live.inbox k (aR (.sl .u8)) bM
   have hy:=sV S3 bM
   refine au (aa (aB (aO X [5,7,30,31,32] rfl (by and_intros<;>first|exact⟨⟩| (intros;omega)) (bn X [(40,23)] [] [5,30,31,32] [] rfl (by(repeat' with_reducible first|exact bH|refine bS ?_ ?_|apply And.intro)<;>first|exact(by rw[dR,Int.toNat_natCast];unfold maxLen;omega)|exact rfl|exact⟨rfl,cE _ (by decide)⟩| (simp only[gR,maxLen,lens];omega)) ?_))))
   refine bU X [5,30,31,32] rfl ?_
   refine⟨k+1,by omega,by omega,?_⟩
   rw[bZ _ k rfl (by omega),hs]
   try rfl
  ·try simp only[bG]at bM
   have ht:(x.ah.getD c.toNat (aR .bR)).live.inbox.take k=(x.ah.getD c.toNat (aR .bR)).live.inbox:=List.take_of_length_le bM
   exact aW (aM X [] [(43,⟨false,[.a (.lit (.string (bP (Lib.join ((x.ah.getD c.toNat (aR .bR)).live.inbox.take k) [124]))))]⟩)] [4] [] rfl (by(with_reducible and_intros)<;>first|exact⟨⟩|exact(Bg _ 124 (by rw[ht];exact Nat.le_trans S3 (by decide)))) (aq (aj rfl ⟨by rw[ht,HH,hkr];rfl,⟨⟩⟩)))
end
end Go.Proofs.YtaalpcnbbldlaaaGreatDoor.G
