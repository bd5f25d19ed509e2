/-
  Copies, exclusive or, ciphers, cells, rows of mailboxes.
-/
import Derived.Test.YteodajeiagmekaaGreatM16
import Derived.Test.YteodajeiagmekaaGreatM19
namespace Go.Proofs.YteodajeiagmekaaGreat.G
set_option linter.all false
open Go.RowKit L D
section
set_option maxRecDepth 100000
theorem nT(l:List UInt8)(hl:l.length≤1048576):Sound ty Tryz.prog 433 [.a (.sl .u8 l)] [.a (.sl .int (AF l))]:=by
 refine Sound.o X Tryz.call433 Tryz.func433 Tryz.ntmps433 rfl rfl ?_
 intro zb
 refine W.s0 X [0] rfl ⟨⟩ ?_
 refine W.s0 X [0,3] rfl (by and_intros<;>first|exact⟨⟩|exact rfl) ?_
 refine W.seq ?_
 refine W.s0 X [0,3,4] rfl ⟨⟩ ?_
 refine W.block ?_
 refine W.aE (fun k=>k≤l.length) (fun k:Nat=> [(4, .one (.a (.lit (.int .i64 k))))]) (fun k=> [(7, .arr .int ((l.length:Int)::(l.take k).map (fun c=>(c.toNat:Int))))]) (fun k=>l.length-k) 0 (fun k=>rfl) (Nat.zero_le _) rfl ?_
 intro k hk
 refine W.seq ?_
 refine W.s0 X [0,3,4,11] rfl ⟨⟩ ?_
 refine W.cond rfl (fun hb0=> ?_) (fun hb0=> ?_)
 ·try simp only[nb,an,aq,aa]at hb0
  have hs:=JD l k hb0
  refine W.skip ?_
  refine W.seq ?_
  refine W.block ?_
  refine W.cD X [(21,7)] [] [0,3,4] [] rfl (by and_intros<;>first|exact⟨⟩| (intros;omega)|exact rfl| (simp only[cT,maxLen,lens];omega)) ?_
  refine W.r0 X [0,3,4] rfl ⟨⟩ ?_
  refine⟨k+1,by omega,by omega,?_⟩
  rw[aR _ k rfl (by omega),hs]
  try rfl
 ·try simp only[nb,an,aq,aa]at hb0
  refine W.exit ?_
  refine W.s0 X [2] rfl ⟨⟩ ?_
  refine W.ret ?_
  exact Fin.ret rfl ⟨by rw[List.take_of_length_le hb0];rfl,⟨⟩⟩
end
section
set_option maxRecDepth 100000
theorem Ej(s:Int)(l:List UInt8)(hl:l.length≤1048576):Sound ty Tryz.prog 436 [.a (.lit (.int .i64 s)), .a (.sl .u8 l)] [.a (.sl .u8 (decr s l))]:=by
 refine Sound.o X Tryz.call436 Tryz.func436 Tryz.ntmps436 rfl rfl ?_
 intro zb
 refine W.s0 X [0,1] rfl ⟨⟩ ?_
 refine W.s0 X [0,1,5] rfl (by and_intros<;>first|exact⟨⟩|exact rfl) ?_
 refine W.seq ?_
 refine W.s0 X [0,1,5,6] rfl ⟨⟩ ?_
 refine W.block ?_
 refine W.aE (fun k=>k≤l.length) (fun k:Nat=> [(6, .one (.a (.lit (.int .i64 k))))]) (fun k=> [(7, .arr .u8 ((decr s l).take k))]) (fun k=>l.length-k) 0 (fun k=>rfl) (Nat.zero_le _) rfl ?_
 intro k hk
 have hle:=aY (decr s l) k
 refine W.seq ?_
 refine W.s0 X [0,1,5,6,11] rfl ⟨⟩ ?_
 refine W.cond rfl (fun hb0=> ?_) (fun hb0=> ?_)
 ·try simp only[nb,an,aq,aa]at hb0
  have hs:=PR s l k hb0
  refine W.skip ?_
  refine W.seq ?_
  refine W.block ?_
  refine W.draw X [(29,7)] [(23,⟨false,[.a (.lit (.int .i64 _))]⟩),(26,⟨false,[.a (.lit (.int .i64 _))]⟩)] [0,1,5,6] [] 15 MO (by kernel_rfl) rfl (by(repeat' with_reducible first|exact aj.nil|refine aj.mk ?_ ?_|apply And.intro);(iterate 2 all_goals try first|exact(aW _ _ (by first|assumption|omega| (simp;done)| (simp;omega)))|exact(Eg _ _ (by first|assumption|omega| (simp;done)| (simp;omega)) (by first|assumption|omega| (simp;done)| (simp;omega))));all_goals first| (intros;omega)|exact rfl|exact⟨rfl,bA _ (by decide)⟩|exact(pR _).1|exact(pR _).2| (simp only[cT,maxLen,lens];omega)) ?_
  refine W.r0 X [0,1,5,6] rfl ⟨⟩ ?_
  refine⟨k+1,by omega,by omega,?_⟩
  rw[aR _ k rfl (by omega),hs]
  try rfl
 ·try simp only[nb,an,aq,aa]at hb0
  refine W.exit ?_
  refine W.s0 X [4] rfl ⟨⟩ ?_
  refine W.ret ?_
  exact Fin.ret rfl ⟨by rw[List.take_of_length_le (by rw[nV];exact hb0)],⟨⟩⟩
end
end Go.Proofs.YteodajeiagmekaaGreat.G
