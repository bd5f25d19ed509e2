/-
  Contracts of the laws' own functions by the symbolic machine: mark.. of every type.
-/
import Derived.Test.YtmcgjpdljafkeaaGreatM11
import Derived.Test.YtmcgjpdljafkeaaGreatM13
namespace Go.Proofs.YtmcgjpdljafkeaaGreat.G
set_option linter.all false
open Go.RowKit L D
section
set_option maxRecDepth 100000
def vf(k:Int)(x:Ev):Ev:=⟨k,k+1,k+1+1,(dc cH (fun _=>1)) (k+1+1+1) x.body⟩
end
section
set_option maxRecDepth 100000
theorem FZ(l:(List Ev))(k0:Int)(h0:0≤k0)(h1:k0+((aC dx) l:Nat)≤1099511627776):dr Tryz.prog 34 [.a (.sl .Ev l), .a (.lit (.int .i64 k0))] [.a (.sl .Ev ((dc vf dx) k0 l)), .a (.lit (.int .i64 k0))] (.int .i64 (k0+((aC dx) l:Nat))):=by
 refine dr.of X Tryz.call34 Tryz.func34 rfl rfl Tryz.ntmps34 (by simp) ?_
 intro zb
 refine W.rV 1000 rfl fun hl=> ?_
 refine W.s0 X [0,1] rfl ⟨⟩ ?_
 refine W.seq ?_
 refine W.s0 X [0,1,5] rfl ⟨⟩ ?_
 refine W.block ?_
 refine W.aI (fun k=>k≤l.length) (fun k:Nat=> [(1, .one (.a (.lit (.int .i64 (k0+(aC dx (l.take k):Nat)))))),(5, .one (.a (.lit (.int .i64 k))))]) (fun k=> [(1000, .arr .Ev (dc vf dx k0 (l.take k)++l.drop k))]) (fun k=>l.length-k) 0 (fun k=>rfl) (Nat.zero_le _) (by simp[dc,aC]) ?_
 intro k hk
 refine W.seq ?_
 refine W.s0 X [0,1,5,9] rfl ⟨⟩ ?_
 refine W.cond rfl (fun hb0=> ?_) (fun hb0=> ?_)
 ·rw[ep l k0 k hk]at hb0
  try simp only[nb]at hb0
  have hc:=rU (mk:=vf) (mn:=dx) l k0 (av .Ev) k hb0
  have hlen:=ep (mk:=vf) (mn:=dx) l k0 k (by omega)
  have hst:=nH (mk:=vf) (mn:=dx) l k0 (av .Ev) k hb0
  have qz:=eH (mn:=dx) l (av .Ev) k hb0
  have hml:=jc (mn:=dx) l (k+1)
  generalize dc vf dx k0 (l.take k)++l.drop k=L at hc hlen hst ⊢
  generalize l.getD k (av .Ev)=e at hc hst qz
  have hL:k<L.length:=by omega
  have gs: ∀y:Ev,(L.set k y).getD k (av .Ev)=y:=fun y=>lC L _ y k hL
  have gl: ∀y:Ev,(L.set k y).length=L.length:=fun y=>List.length_set
  simp only[dx]at qz
  refine W.skip ?_
  refine W.seq ?_
  refine W.block ?_
  refine W.s0 X [0,1,5] rfl (by and_intros<;>first|exact⟨⟩| (intros;omega)) ?_
  simp only[Int.toNat_natCast,gs,hc,List.set_set]
  refine W.s0 X [0,1,5] rfl ⟨⟩ ?_
  rw[IntWalk.i64_in ((k0+(aC dx (l.take k):Nat))+1) (by omega)]
  refine W.s0 X [0,1,5] rfl (by and_intros<;>first|exact⟨⟩| (intros;omega)| (simp only[cN,maxLen,lens];omega)) ?_
  simp only[Int.toNat_natCast,gs,hc,List.set_set]
  refine W.s0 X [0,1,5] rfl ⟨⟩ ?_
  rw[IntWalk.i64_in ((k0+(aC dx (l.take k):Nat))+1+1) (by omega)]
  refine W.s0 X [0,1,5] rfl (by and_intros<;>first|exact⟨⟩| (intros;omega)| (simp only[cN,maxLen,lens];omega)) ?_
  simp only[Int.toNat_natCast,gs,hc,List.set_set]
  refine W.s0 X [0,1,5] rfl ⟨⟩ ?_
  rw[IntWalk.i64_in ((k0+(aC dx (l.take k):Nat))+1+1+1) (by omega)]
  refine W.fH X [] [(200039,⟨false,[.a (.lit (.int .i64 ((k0+(aC dx (l.take k):Nat))+1+1+1+((aC (fun _=>1)) e.body:Nat)))), .a (.sl .u8 ((dc cH (fun _=>1)) ((k0+(aC dx (l.take k):Nat))+1+1+1) e.body)), .a (.lit (.int .i64 ((k0+(aC dx (l.take k):Nat))+1+1+1)))]⟩)] [0,1,5] [] rfl (by(repeat' (first|exact True.intro|exact lD e.body ((k0+(aC dx (l.take k):Nat))+1+1+1) (by omega) (by omega)| (simp only[Int.toNat_natCast,gs,hc];exact lD e.body ((k0+(aC dx (l.take k):Nat))+1+1+1) (by omega) (by omega))|apply And.intro))<;>first| (intros;omega)| (simp only[cN,maxLen,lens];omega)) ?_
  simp only[Int.toNat_natCast,gs,hc,List.set_set]
  refine W.r0 X [0,1,5] rfl ⟨⟩ ?_
  refine⟨k+1,by omega,by omega,?_⟩
  rw[aV _ k rfl (by omega),show(k0+(aC dx (l.take k):Nat))+1+1+1+((aC (fun _=>1)) e.body:Nat)=k0+(aC dx (l.take (k+1)):Nat)by omega, ←hst]
  try rfl
 ·rw[ep l k0 k hk]at hb0
  try simp only[nb]at hb0
  refine W.exit ?_
  refine W.s0 X [4] rfl ⟨⟩ ?_
  refine W.ret ?_
  have hf:l.take k=l:=List.take_of_length_le (by omega)
  have hd:l.drop k= []:=List.drop_eq_nil_of_le (by omega)
  exact wP.ret rfl ⟨by rw[hf],by rw[hf,hd,List.append_nil],rfl,⟨⟩⟩
end
end Go.Proofs.YtmcgjpdljafkeaaGreat.G
