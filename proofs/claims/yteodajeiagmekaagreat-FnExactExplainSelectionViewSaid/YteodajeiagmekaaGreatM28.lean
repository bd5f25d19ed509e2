/-
  Which data are valid.
-/
import Derived.Test.YteodajeiagmekaaGreatM25
namespace Go.Proofs.YteodajeiagmekaaGreat.G
set_option linter.all false
open Go.RowKit L D
section
set_option maxRecDepth 100000
theorem nX(l:List Int)(f:FuncId)(p:Int→Bool)(hf: ∀b,Sound ty Tryz.prog f [.a (.lit (.int .i64 b))] [.a (.lit (.bool (p b)))]):Sound ty Tryz.prog 407 [.a (.sl .int l), .a (.lit (.func (.func f) #[] #[]))] [.a (.lit (.int .i64 (fidx p l)))]:=by
 refine Sound.o X Tryz.call407 Tryz.func407 Tryz.ntmps407 rfl rfl ?_
 intro zb
 refine W.bound 0 rfl (fun kZ=> ?_)
 refine W.s0 X [0,1] rfl ⟨⟩ ?_
 refine W.seq ?_
 refine W.s0 X [0,1,7,8] rfl ⟨⟩ ?_
 refine W.block ?_
 refine W.aE (fun k=>k≤l.length∧(l.take k).any p=false) (fun k:Nat=> [(8, .one (.a (.lit (.int .i64 k))))]) (fun k=> []) (fun k=>l.length-k) 0 (fun k=>rfl) ⟨Nat.zero_le _,rfl⟩ rfl ?_
 rintro k ⟨hk,hall⟩
 refine W.s0 X [0,1,7,8,9] rfl ⟨⟩ ?_
 refine W.seq ?_
 refine W.cond rfl (fun hb0=> ?_) (fun hb0=> ?_)
 ·try simp only[nb,an,aq,aa]at hb0
  refine W.skip ?_
  refine W.seq ?_
  refine W.block ?_
  refine W.s0 X [0,1,5,7,8] rfl ⟨⟩ ?_
  refine W.sr X [] [(16,⟨false,[.a (.lit (.bool (p (l.getD k (au .int)))))]⟩)] [0,1,5,7,8,16] [] rfl (by(repeat' with_reducible first|exact aj.nil|refine aj.mk ?_ ?_|apply And.intro)<;>first|exact(hf _)| (intros;omega)) ?_
  refine W.cond rfl (fun aB=> ?_) (fun aB=> ?_)
  ·skip
   refine W.s0 X [4] rfl ⟨⟩ ?_
   refine W.ret ?_
   exact Fin.ret rfl ⟨by rw[yV (au .int) hb0 hall aB],⟨⟩⟩
  ·skip
   refine W.skip ?_
   refine W.r0 X [0,1,7,8] rfl ⟨⟩ ?_
   refine⟨k+1,⟨by omega,uk (au .int) hb0 hall aB⟩,by omega,?_⟩
   rw[aR _ k rfl (by omega)]
   try rfl
 ·try simp only[nb,an,aq,aa]at hb0
  refine W.exit ?_
  refine W.s0 X [4] rfl ⟨⟩ ?_
  refine W.ret ?_
  exact Fin.ret rfl ⟨by rw[Gk (by rw[←hall,List.take_of_length_le hb0])],⟨⟩⟩
theorem mh(l:List Int)(f:FuncId)(p:Int→Bool)(hf: ∀b,Sound ty Tryz.prog f [.a (.lit (.int .i64 b))] [.a (.lit (.bool (p b)))]):Sound ty Tryz.prog 364 [.a (.sl .int l), .a (.lit (.func (.func f) #[] #[]))] [.a (.lit (.bool (l.any p)))]:=by
 refine Sound.o X Tryz.call364 Tryz.func364 Tryz.ntmps364 rfl rfl ?_
 intro zb
 refine W.s0 X [0,1] rfl ⟨⟩ ?_
 refine W.sr X [] [(7,⟨false,[.a (.lit (.int .i64 (fidx p l)))]⟩)] [4] [] rfl (by(repeat' with_reducible first|exact aj.nil|refine aj.mk ?_ ?_|apply And.intro)<;>first|exact(nX l f p hf)) ?_
 refine W.ret ?_
 exact Fin.ret rfl ⟨congrArg Value.bool (N0 p l),⟨⟩⟩
end
end Go.Proofs.YteodajeiagmekaaGreat.G
