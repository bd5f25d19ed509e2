/-
  FnAuditDetects: the law, walked by the symbolic machine: it returns true. No condition.
-/
import Derived.Test.YtaalpcnbbldlaaaGreatDoorR13
import Derived.Test.YtaalpcnbbldlaaaGreatDoorR15
namespace Go.Proofs.YtaalpcnbbldlaaaGreatDoor.G
set_option linter.all false
open Go.RowKit L D Tryz
section
set_option maxRecDepth 100000
theorem wu(x:aW)(c:Int)(hd:x.af.length≤1048576)(hin:cE List.length (wq x c)≤1048576):So 77 [.agg (aN x),aA c] [.a (.lit (.string (BG x c)))]:=by
 refine av X call77 func77 ntmps77 rfl rfl ?_;intro zb;have K6:cE List.length (x.af.getD c.toNat (aG .aZ)).live.inbox≤1048576:=hin;have Yn:=cA K6;refine aq X [1,2] rfl (aa (aC X [] [(10,⟨false,[aH (fT x c)]⟩)] [1,2,22] [] rfl (by(with_reducible and_intros);(iterate 2 all_goals try first|exact⟨⟩|exact(dh x c)|exact(fun h=>aaf hd h))) ?_));refine aj rfl ?_ ?_<;>intro hb0
 ·have hkr:Fi x c=false:=bH hb0 (by simp only[Fi,wq,aO]<;>first|rfl|ac_rfl);exact aq X [4] rfl (ak (ah rfl ⟨by rw[BG,hkr];rfl,⟨⟩⟩))
 ·have hkr:Fi x c=true:=bF hb0 (by simp only[Fi,wq,aO]<;>first|rfl|ac_rfl);have hr:=UG hd hkr;refine an (aD X [1,2,5] rfl (by and_intros<;>first|exact⟨⟩|exact rfl) (aa (aD X [5,30,31,32] rfl (by and_intros<;>first|exact⟨⟩| (intros;omega)) ?_)));refine au (aE (fun k=>k≤(x.af.getD c.toNat (aG .aZ)).live.inbox.length) (fun k:Nat=> [(32, .one ((aA k)))]) (fun k=> [(23, .arr .str ((x.af.getD c.toNat (aG .aZ)).live.inbox.take k))]) (fun k=>(x.af.getD c.toNat (aG .aZ)).live.inbox.length-k) 0 (fun k=>rfl) (Nat.zero_le _) rfl ?_);intro k hk;have htl:((x.af.getD c.toNat (aG .aZ)).live.inbox.take k).length≤1048576:=by rw[List.length_take];omega
  refine aq X [5,30,31,32,33] rfl ?_;refine aa (aj rfl ?_ ?_)<;>intro aV
  ·try simp only[aQ]at aV
   have hs:=bu (x.af.getD c.toNat (aG .aZ)).live.inbox k (aG (.sl .u8)) aV;have hy:=mD K6 aV;refine an (aa (au (aD X [5,7,30,31,32] rfl (by and_intros<;>first|exact⟨⟩| (intros;omega)) (aL X [(40,23)] [] [5,30,31,32] [] rfl (by(repeat' with_reducible first|exact aR|refine bf ?_ ?_|apply And.intro)<;>first|exact(by rw[bZ,Int.toNat_natCast];unfold maxLen;omega)|exact rfl|exact⟨rfl,bA _ (by decide)⟩| (simp only[dN,maxLen,lens];omega)) ?_))));refine bg X [5,30,31,32] rfl ?_;refine⟨k+1,by omega,by omega,?_⟩;rw[bh _ k rfl (by omega),hs];try rfl
  ·try simp only[aQ]at aV
   have ht:(x.af.getD c.toNat (aG .aZ)).live.inbox.take k=(x.af.getD c.toNat (aG .aZ)).live.inbox:=List.take_of_length_le aV;exact aI (aC X [] [(43,⟨false,[.a (.lit (.string (aX (Lib.join ((x.af.getD c.toNat (aG .aZ)).live.inbox.take k) [124]))))]⟩)] [4] [] rfl (by(with_reducible and_intros)<;>first|exact⟨⟩|exact(uI _ 124 (by rw[ht];exact Nat.le_trans K6 (by decide)))) (ak (ah rfl ⟨by rw[ht,BG,hkr];rfl,⟨⟩⟩)))
end
end Go.Proofs.YtaalpcnbbldlaaaGreatDoor.G
