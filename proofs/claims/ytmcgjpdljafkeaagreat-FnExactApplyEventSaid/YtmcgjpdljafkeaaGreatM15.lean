/-
  Contracts of the laws' own functions by the symbolic machine: mark.. of every type.
-/
import Derived.Test.YtmcgjpdljafkeaaGreatM11
import Derived.Test.YtmcgjpdljafkeaaGreatM12
namespace Go.Proofs.YtmcgjpdljafkeaaGreat.G
set_option linter.all false
open Go.RowKit L D
section
set_option maxRecDepth 100000
def yO(x:Ev):Nat:=(aC (fun _=>1)) x.body
def PK(k:Int)(x:Ev):Ev:=⟨x.kind,x.node,x.value,(dc cH (fun _=>1)) (k) x.body⟩
theorem M6(x:Ev):yO x≤32*ck x:=by
 have h0:(aC (fun _=>1)) x.body≤32*List.length x.body:=mq x.body
 simp only[yO,ck]
 omega
end
section
set_option maxRecDepth 100000
theorem HN(x:Ev)(k0:Int)(h0:0≤k0)(h1:k0+(yO x:Nat)≤1099511627776):dr Tryz.prog 28 [.agg (fP x), .a (.lit (.int .i64 k0))] [.agg (fP (PK k0 x)), .a (.lit (.int .i64 k0))] (.int .i64 (k0+(yO x:Nat))):=by
 refine dr.of X Tryz.call28 Tryz.func28 rfl rfl Tryz.ntmps28 (by simp) ?_
 intro zb
 unfold yO at h1 ⊢
 refine W.s0 X [1,2] rfl ⟨⟩ ?_
 refine W.sr X [] [(100008,⟨false,[.a (.lit (.int .i64 (k0+((aC (fun _=>1)) x.body:Nat)))), .a (.sl .u8 ((dc cH (fun _=>1)) (k0) x.body)), .a (.lit (.int .i64 (k0)))]⟩)] [1] [] rfl ⟨lD x.body (k0) (by omega) (by omega),⟨⟩⟩ ?_
 refine W.s0 X [4] rfl ⟨⟩ ?_
 refine W.ret ?_
 exact wP.ret rfl (by and_intros<;>first|exact⟨⟩|rfl| (congr 1;omega))
end
end Go.Proofs.YtmcgjpdljafkeaaGreat.G
