/-
  FnEvents: the law, walked by the symbolic machine: it returns true. No condition.
-/
import Derived.Test.YtcnomgcfijjkmaaGreatM16
import Derived.Test.YtcnomgcfijjkmaaGreatM20
namespace Go.Proofs.YtcnomgcfijjkmaaGreat.G
set_option linter.all false
open Go.RowKit L D Tryz
section
set_option maxRecDepth 100000
theorem I4{k n:Int}{m:Nat}{c:Nat}(h:(c:Int)=n)(hm:m≤1):(if(if(if(if true=true then(c:Int)==n else false)=true then(!(Vz k).toList==(yF []).toList)==if decide (k≥1)=true then decide (k≤5)else false else false)=true then decide ((m:Int)≥0)else false)=true then decide ((m:Int)≤1)else false)=true:=by
 rw[aa8];simp;omega
set_option maxHeartbeats 1000000 in
theorem Nk(x0:List UInt8)(afR:(fun l=> ∀x,x∈l→(fun _=>True) x) x0):So 4 [.a (.sl .u8 x0)] [aH true]:=by
 refine ay X call4 func4 ntmps4 rfl rfl ?_
 intro zb
 refine aq X [0] rfl (aa (aD X [] [(15,⟨false,[aH (decide ((1048576:Int)<(x0.length:Int)))]⟩)] [0,15] [] rfl (by(with_reducible and_intros)<;>first|exact⟨⟩|exact(YK x0)) ?_))
 refine ah rfl ?_ ?_<;>intro hb0
 ·try simp only[aP]at hb0
  exact aq X [2] rfl (aj (af rfl ⟨rfl,⟨⟩⟩))
 ·try simp only[aP]at hb0
  have hl:x0.length≤1048576:=by omega
  have PE:bW (O2 x0):=U5 (Fq x0) (s:=3) (by decide)
  have AF:=U6 x0
  have IU:=ady PE
  have Yy:=adx PE
  have hC:=PE.1
  refine an (aD X [] [(18,⟨false,[.agg (aT (O2 x0)), .agg (tX (Ng x0))]⟩)] [3,4] [] rfl (by(with_reducible and_intros)<;>first|exact⟨⟩|exact(tP x0 hl)) ?_)
  generalize O2 x0=x at PE IU Yy hC ⊢
  generalize Ng x0=e at AF ⊢
  have NH:e.body.length≤1048576:=by omega
  have hC2:wC (kr x e) 1008:=TN hC
  have hC3:wC (kr (kr x e) sP) 1016:=TN hC2
  have afY:=K8 hC2 (by decide)
  have Qv:=Fe hC3 (by decide)
  obtain⟨ok,YN⟩: ∃b,ju x e=b:=⟨_,rfl⟩
  obtain⟨okw,hkw⟩: ∃b,okW (kr x e)=b:=⟨_,rfl⟩
  have hf:=U4 (x:=x) (e:=e) (fun _=>by have:=PE.2;omega)
  have hEW:ok=false→So 10 [.agg (aT (kr x e)), .agg (aT x)] [aH true]:=fun hk=>by(rw[hf.1 (YN.trans hk)];exact dR x IU)
  have YO:wC x 4100000:=jK hC (by decide)
  have hL: ∀a,a∈([e,sP]:List Ev)→a.body.length≤1048576:=by(intro a ha;simp at ha;rcases ha with rfl|rfl;exact NH;exact Nat.zero_le _)
  refine aD X [] [(24,⟨false,[.agg (aT (kr x e)),aH ok]⟩)] [3,4,5,6] [] rfl (by(with_reducible and_intros)<;>first|exact⟨⟩|exact(by rw[←YN];exact ij x e Yy NH)) (aa (aD X [] [(30,⟨false,[.agg (aT (kr x e)),aH ok]⟩)] [3,4,5,6,8] [] rfl (by(with_reducible and_intros)<;>first|exact⟨⟩|exact(by rw[←YN];exact Af x e Yy NH)) (aD X [] [(42,⟨false,[aH true]⟩),(50,⟨false,[aH okw]⟩)] [3,4,5,6,53] [] rfl (by(with_reducible and_intros);(iterate 4 all_goals try first|exact⟨⟩|exact fun _ _=>(by rw[←hkw];exact b7 (kr x e))|exact(fun h _=>hEW (by simpa using h)))) ?_)))
  refine ah rfl ?_ ?_<;>intro aW
  ·rw[YN,hkw]at hf
   exfalso
   cases ok<;>simp_all
  ·refine an (aa (XH X [] [(1200055,⟨true,[.agg (tX ⟨0,0,0,[]⟩)]⟩)] [3,4,5,6,9] [] rfl (by and_intros<;>first|exact⟨⟩|exact rfl) (aa (bu X [] [(62,⟨false,[.agg (aT (kr (kr x e) sP)),aH (ju (kr x e) sP)]⟩)] [3,4,6,9,10,11] [] 1535 1 MO (by kernel_rfl) rfl (by kernel_rfl) (by(with_reducible and_intros)<;>first|exact⟨⟩|exact(ij (kr x e) sP afY (Nat.zero_le _))| (intros;omega)| (simp only[dO,maxLen,lens];omega)) (aq X [3,4,6,9,10,11,12] rfl (aa (aq X [3,4,9,10,11,12,65] rfl ?_)))))))
   refine ah rfl ?_ ?_<;>intro bz
   ·try simp only[aP]at bz
    refine bt X [3,4,9,10,11,12] rfl (aa (aq X [3,4,9,10,12,68] rfl ?_))
    refine ah rfl ?_ ?_<;>intro dD
    ·try simp only[aP]at dD
     refine bt X [3,4,9,10,12] rfl (aD X [] [(72,⟨false,[az ((Qw ([e,sP]:List Ev):Nat):Int)]⟩)] [3,4,9,10,12,13] [] rfl (by(with_reducible and_intros)<;>first|exact⟨⟩|exact(eN ([e,sP]:List Ev))) (aa ?_))
     have t1:=(fW x ([e,sP]:List Ev) YO hL)
     exact bZ X [] [(75,⟨false,[.agg (aT (kr (kr x e) sP))]⟩),(77,⟨false,[aH true]⟩),(81,⟨false,bJ t1⟩),(88,⟨false,[.a (.lit (.string (Vz e.kind)))]⟩)] [2] [] 36 MO (by kernel_rfl) rfl (by(with_reducible and_intros);(iterate 4 all_goals try first|exact⟨⟩|exact(by rw[←Df];exact jh x [e,sP] YO hL)|exact(dR (kr (kr x e) sP) Qv)|exact fun _=>t1|exact fun _=>(jj e.kind))) (aj (af rfl ⟨congrArg Value.bool (I4 (by rw[Dg,YN,bz,dD];rfl) (De e)),⟨⟩⟩))
    ·try simp only[aP]at dD
     refine an (aD X [] [(72,⟨false,[az ((Qw ([e,sP]:List Ev):Nat):Int)]⟩)] [3,4,9,10,12,13] [] rfl (by(with_reducible and_intros)<;>first|exact⟨⟩|exact(eN ([e,sP]:List Ev))) (aa ?_))
     have t1:=(fW x ([e,sP]:List Ev) YO hL)
     exact bZ X [] [(75,⟨false,[.agg (aT (kr (kr x e) sP))]⟩),(77,⟨false,[aH true]⟩),(81,⟨false,bJ t1⟩),(88,⟨false,[.a (.lit (.string (Vz e.kind)))]⟩)] [2] [] 36 MO (by kernel_rfl) rfl (by(with_reducible and_intros);(iterate 4 all_goals try first|exact⟨⟩|exact(by rw[←Df];exact jh x [e,sP] YO hL)|exact(dR (kr (kr x e) sP) Qv)|exact fun _=>t1|exact fun _=>(jj e.kind))) (aj (af rfl ⟨congrArg Value.bool (I4 (by rw[Dg,YN,bz,dD];rfl) (De e)),⟨⟩⟩))
   ·try simp only[aP]at bz
    refine an (aa (aq X [3,4,9,10,12,68] rfl ?_))
    refine ah rfl ?_ ?_<;>intro dD
    ·try simp only[aP]at dD
     refine bt X [3,4,9,10,12] rfl (aD X [] [(72,⟨false,[az ((Qw ([e,sP]:List Ev):Nat):Int)]⟩)] [3,4,9,10,12,13] [] rfl (by(with_reducible and_intros)<;>first|exact⟨⟩|exact(eN ([e,sP]:List Ev))) (aa ?_))
     have t1:=(fW x ([e,sP]:List Ev) YO hL)
     exact bZ X [] [(75,⟨false,[.agg (aT (kr (kr x e) sP))]⟩),(77,⟨false,[aH true]⟩),(81,⟨false,bJ t1⟩),(88,⟨false,[.a (.lit (.string (Vz e.kind)))]⟩)] [2] [] 36 MO (by kernel_rfl) rfl (by(with_reducible and_intros);(iterate 4 all_goals try first|exact⟨⟩|exact(by rw[←Df];exact jh x [e,sP] YO hL)|exact(dR (kr (kr x e) sP) Qv)|exact fun _=>t1|exact fun _=>(jj e.kind))) (aj (af rfl ⟨congrArg Value.bool (I4 (by rw[Dg,YN,bz,dD];rfl) (De e)),⟨⟩⟩))
    ·try simp only[aP]at dD
     refine an (aD X [] [(72,⟨false,[az ((Qw ([e,sP]:List Ev):Nat):Int)]⟩)] [3,4,9,10,12,13] [] rfl (by(with_reducible and_intros)<;>first|exact⟨⟩|exact(eN ([e,sP]:List Ev))) (aa ?_))
     have t1:=(fW x ([e,sP]:List Ev) YO hL)
     exact bZ X [] [(75,⟨false,[.agg (aT (kr (kr x e) sP))]⟩),(77,⟨false,[aH true]⟩),(81,⟨false,bJ t1⟩),(88,⟨false,[.a (.lit (.string (Vz e.kind)))]⟩)] [2] [] 36 MO (by kernel_rfl) rfl (by(with_reducible and_intros);(iterate 4 all_goals try first|exact⟨⟩|exact(by rw[←Df];exact jh x [e,sP] YO hL)|exact(dR (kr (kr x e) sP) Qv)|exact fun _=>t1|exact fun _=>(jj e.kind))) (aj (af rfl ⟨congrArg Value.bool (I4 (by rw[Dg,YN,bz,dD];rfl) (De e)),⟨⟩⟩))
end
end Go.Proofs.YtcnomgcfijjkmaaGreat.G
