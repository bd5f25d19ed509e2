/-
  Messages that wait, messages not read yet; words of an archive and of a world.
-/
import Derived.Sort.Grow
import Derived.Test.YtkkfjbfkjbljiaaGreatDoorM11
import Derived.Test.YtkkfjbfkjbljiaaGreatDoorM14
namespace Go.Proofs.YtkkfjbfkjbljiaaGreatDoor.G
set_option linter.all false
open Go.RowKit L D Tryz
section
theorem UP{w:World}(h:zj w):Lib.TabIs Tryz.prog w "internal/strconv.uint64pow10" .u64 Lib.pow10Tab:=by
 obtain⟨e,k,h⟩:=h
 unfold Lib.TabIs World.var?
 rw[show Tryz.prog.globalNamed "internal/strconv.uint64pow10" =some 0 by kernel_rfl]
 simp only[Option.bind_some,h]
theorem Hg(w:World)(k:Nat)(os:Array Go.Obj):Below w.heap.size w (Sort.grow (w.drewN k) os):=by
 refine⟨rfl,rfl,rfl,?_,fun j hj=> ?_⟩
 ·show w.heap.size≤(w.heap++os).size
  rw[Array.size_append];omega
 ·show(w.heap++os)[j]? =w.heap[j]?
  rw[Array.getElem?_append_left hj]
theorem mw(n:Int)(h: -9223372036854775808≤n∧n≤9223372036854775807):So 57 [.a (.lit (.int .i64 n))] [.a (.lit (.string (bI (Lib.itoa n))))]:=by
 refine⟨call57,?_⟩
 intro w us hA ha
 match us,ha with
 | [u],⟨h1,_⟩=>
   obtain⟨_,rfl,_,_⟩:=h1
   refine(Tryz.strconv_Itoa n h.1 h.2 w (UP hA)).mono ?_
   rintro e w' ⟨rfl,k,os,rfl⟩
   exact⟨_,[],rfl,Hg w k os,Own.nil _ _,⟨[],[],⟨rfl,rfl,rfl⟩,rfl,rfl⟩⟩
def dd(x:Int):List UInt8:=if x=0 then []else Lib.decDigits x.natAbs
theorem E3{x:Int}(hx:x≠0):dd x=dd (x.tdiv 10)++ [UInt8.ofNat (48+x.natAbs % 10)]:=by
 have e:(x.tdiv 10).natAbs=x.natAbs/10:=by rw[Int.natAbs_tdiv];rfl
 have h0:x.tdiv 10=0↔x.natAbs<10:=by
  rw[←Int.natAbs_eq_zero,e];omega
 unfold dd
 rw[if_neg hx]
 by_cases hs:x.natAbs<10
 ·rw[if_pos (h0.2 hs),Lib.decDigits,dif_pos hs,List.nil_append,Nat.mod_eq_of_lt hs]
 ·rw[if_neg (fun h=>hs (h0.1 h)),e,Lib.decDigits,dif_neg hs]
theorem Jl: ∀(n:Nat) (x:Int),x.natAbs≤n→x.natAbs<10^20→(dd x).length≤20:=by
 intro n x _ hx
 have key: ∀(k u:Nat),u<10^(k+1)→(Lib.decDigits u).length≤k+1:=by
  intro k
  induction k with
  |zero=>intro u hu;rw[Lib.decDigits,dif_pos (by omega)];simp
  |succ k ih=>
   intro u hu
   rw[Lib.decDigits]
   split
   ·simp
   ·rw[List.length_append]
    have:=ih (u/10) (by rw[Nat.pow_succ]at hu;omega)
    simp only[List.length_cons,List.length_nil];omega
 unfold dd
 split
 ·simp
 ·exact key 19 _ hx
theorem zF{n:Int}(h:n≠0):Lib.itoa n=(if n<0 then [45]else [])++dd n:=by
 unfold Lib.itoa dd
 rw[if_neg h]
 split
 ·rfl
 ·rw[List.nil_append];congr 1;omega
theorem xV:Lib.itoa 0= [48]:=by
 unfold Lib.itoa;rw[if_neg (by decide),Lib.decDigits,dif_pos (by decide)];rfl
theorem Rl{n:Int}(h: -9223372036854775808≤n∧n≤9223372036854775807):(Lib.itoa n).length≤21:=by
 by_cases h0:n=0
 ·subst h0;rw[xV];decide
 ·rw[zF h0,List.length_append]
  have:=Jl n.natAbs n (Nat.le_refl _) (by omega)
  split<;>simp<;>omega
theorem MA{x:Int}(h: -9223372036854775808≤x∧x≤9223372036854775807)(hd: ¬x.tmod 10<0):UInt8.ofNat (IntKind.u8.wrap (IntKind.i64.wrap (48+x.tmod 10))).toNat=UInt8.ofNat (48+x.natAbs % 10):=by
 have h1:(x.tmod 10).natAbs=x.natAbs % 10:=by rw[Int.natAbs_tmod];rfl
 have hb:x.tmod 10=((x.natAbs % 10:Nat):Int):=by omega
 have hlt:x.natAbs % 10<10:=Nat.mod_lt _ (by decide)
 rw[hb,aM (by omega)]
 rw[Eo]
 congr 1;omega
theorem MB{x:Int}(h: -9223372036854775808≤x∧x≤9223372036854775807)(hd:x.tmod 10<0):UInt8.ofNat (IntKind.u8.wrap (IntKind.i64.wrap (48+IntKind.i64.wrap (0-x.tmod 10)))).toNat=UInt8.ofNat (48+x.natAbs % 10):=by
 have h1:(x.tmod 10).natAbs=x.natAbs % 10:=by rw[Int.natAbs_tmod];rfl
 have hb:0-x.tmod 10=((x.natAbs % 10:Nat):Int):=by omega
 have hlt:x.natAbs % 10<10:=Nat.mod_lt _ (by decide)
 rw[hb,aM (a:=((x.natAbs % 10:Nat):Int)) (by omega),aM (by omega)]
 rw[Eo]
 congr 1;omega
theorem pH(a b:List UInt8)(h:a.length+b.length≤1099511627776):(((bI a).size+(bI b).size:Nat):Int)≤IntKind.i64.max:=by
 rw[dA,dA,cM];omega
theorem bJ(c:UInt8):(⟨#[c]⟩:ByteArray).size=1:=rfl
theorem b9{n:Int}(h: -9223372036854775808≤n∧n≤9223372036854775807):(bI (Lib.itoa n)).size≤21:=Rl h
def UQ(x:dN):ByteArray:=bI (Lib.itoa x.id)++bI [62]++bI (Lib.itoa x.bG)++bI [32]++bI (Lib.itoa x.sent)++bI [47]++bI (Lib.itoa x.aF.length)++bI [32]++bI (Lib.itoa x.inbox.length)++bI [64]++bI (Lib.itoa x.next)
def names:List (List UInt8):= [[104,111,110,101,115,116],[100,114,111,112,115],[97,108,116,101,114,115],[108,105,101,115]]
theorem KO(k:Nat):(bI (names.getD k [])).size≤6:=by
 rw[dA]
 match k with
 |0=>decide
 |1=>decide
 |2=>decide
 |3=>decide
 |n+4=>exact Nat.zero_le _
def E4(b:Int):ByteArray:=if inr b 0 3=true then bI (names.getD b.toNat [])else bI [63]
def Hh(x:bD):ByteArray:=bI (Lib.itoa x.id)++bI [32]++bI (Lib.itoa x.round)++bI [32]++E4 x.behavior
end
section
set_option maxRecDepth 100000
theorem aC(n:Int)(h: -9223372036854775808≤n∧n≤9223372036854775807):So 34 [aL n] [.a (.lit (.string (bI (Lib.itoa n))))]:=by
 refine aD X call34 func34 ntmps34 rfl rfl ?_
 intro zb
 refine av X [0] rfl (aS X [] [(4,⟨false,[.a (.lit (.string (bI (Lib.itoa n))))]⟩)] [2] [] rfl (by(repeat' with_reducible first|exact aB|refine aE ?_ ?_|apply And.intro)<;>first|exact(mw n h)|exact fun _=>(mw n h)|exact fun _ _=>(mw n h)| (intros;omega)|exact rfl|exact aA _ (by decide)|exact⟨rfl,aA _ (by decide)⟩| ((intro h1;first| (intro h2;first| (intro h3;refine And.intro ?_ ?_)|refine And.intro ?_ ?_)|refine And.intro ?_ ?_)<;>first|omega| ((try simp only[aP]at*);(try simp(disch:=omega) only[aM]);omega))| ((try simp only[aP]at*);(simp(disch:=omega) only[aM]);omega)| (refine fun _=> ?_;dsimp only[hyps,bg];omega)| (refine fun _ _=> ?_;dsimp only[hyps,bg];omega)|exact(cj _).1|exact(cj _).2|exact(cG _).1|exact(cG _).2| (simp only[b7,maxLen,lens];omega)| (intros;simp only[nb]at*;omega)) ?_)
 exact aj (ah rfl ⟨rfl,⟨⟩⟩)
theorem au(n:Int)(h: -9223372036854775808≤n∧n≤9223372036854775807):So 38 [aL n] [.a (.lit (.string (bI (Lib.itoa n))))]:=by
 refine aD X call38 func38 ntmps38 rfl rfl ?_
 intro zb
 refine av X [0] rfl (aa (av X [0,7] rfl ?_))
 refine ak rfl ?_ ?_<;>intro hb0
 ·try simp only[aP]at hb0
  exact av X [2] rfl (aj (ah rfl ⟨by rw[show n=0 by omega,xV];rfl,⟨⟩⟩))
 ·try simp only[aP]at hb0
  refine ay (av X [0,3] rfl (aa (av X [0,3,4] rfl ?_)))
  refine aq (aQ (fun k=>dd k.1++k.2=dd n∧k.1.natAbs≤n.natAbs∧ -9223372036854775808≤k.1∧k.1≤9223372036854775807) (fun k:(Int×List UInt8)=> [(3, .one (.a (.lit (.string (bI k.2))))),(4, .one ((aL k.1)))]) (fun k=> []) (fun k=>k.1.natAbs) (n,[]) (fun k=>rfl) ⟨by simp,Nat.le_refl _,h.1,h.2⟩ rfl ?_)
  rintro k ⟨U9,hle,hl1,lI⟩
  refine aa (av X [0,3,4,10] rfl ?_)
  refine ak rfl ?_ ?_<;>intro bt
  ·try simp only[aP]at bt
   have hdl:=Jl n.natAbs n (Nat.le_refl _) (by omega)
   have zx:k.2.length≤20:=by have:=congrArg List.length U9;rw[List.length_append]at this;omega
   refine ay (aa (aq (aN X [0,3,4,5] rfl (by and_intros<;>first|exact⟨⟩| (intros;omega)|exact rfl|exact aA _ (by decide)|exact⟨rfl,aA _ (by decide)⟩| ((intro h1;first| (intro h2;first| (intro h3;refine And.intro ?_ ?_)|refine And.intro ?_ ?_)|refine And.intro ?_ ?_)<;>first|omega| ((try simp only[aP]at*);(try simp(disch:=omega) only[aM]);omega))| ((try simp only[aP]at*);(simp(disch:=omega) only[aM]);omega)| (refine fun _=> ?_;dsimp only[hyps,bg];omega)| (refine fun _ _=> ?_;dsimp only[hyps,bg];omega)|exact(cj _).1|exact(cj _).2|exact(cG _).1|exact(cG _).2| (simp only[b7,maxLen,lens];omega)| (intros;simp only[nb]at*;omega)) ?_)))
   refine aa (av X [0,3,4,5,16] rfl ?_)
   refine ak rfl ?_ ?_<;>intro bY
   ·try simp only[aP]at bY
    refine bT X [0,3,4,5] rfl (fK X [0,3,4] rfl (by(repeat' with_reducible first|exact aB|refine aE ?_ ?_|apply And.intro)<;>first|exact pH _ _ (by simp only[List.length_cons,List.length_nil,List.length_append];omega)|exact fun _=>pH _ _ (by simp only[List.length_cons,List.length_nil,List.length_append];omega)|exact fun _ _=>pH _ _ (by simp only[List.length_cons,List.length_nil,List.length_append];omega)| (intros;omega)|exact rfl|exact aA _ (by decide)|exact⟨rfl,aA _ (by decide)⟩| ((intro h1;first| (intro h2;first| (intro h3;refine And.intro ?_ ?_)|refine And.intro ?_ ?_)|refine And.intro ?_ ?_)<;>first|omega| ((try simp only[aP]at*);(try simp(disch:=omega) only[aM]);omega))| ((try simp only[aP]at*);(simp(disch:=omega) only[aM]);omega)| (refine fun _=> ?_;dsimp only[hyps,bg];omega)| (refine fun _ _=> ?_;dsimp only[hyps,bg];omega)|exact(cj _).1|exact(cj _).2|exact(cG _).1|exact(cG _).2| (simp only[b7,maxLen,lens];omega)| (intros;simp only[nb]at*;omega)) ?_)
    refine fK X [0,3,4] rfl (by and_intros<;>first|exact⟨⟩| (intros;omega)|exact rfl|exact aA _ (by decide)|exact⟨rfl,aA _ (by decide)⟩| ((intro h1;first| (intro h2;first| (intro h3;refine And.intro ?_ ?_)|refine And.intro ?_ ?_)|refine And.intro ?_ ?_)<;>first|omega| ((try simp only[aP]at*);(try simp(disch:=omega) only[aM]);omega))| ((try simp only[aP]at*);(simp(disch:=omega) only[aM]);omega)| (refine fun _=> ?_;dsimp only[hyps,bg];omega)| (refine fun _ _=> ?_;dsimp only[hyps,bg];omega)|exact(cj _).1|exact(cj _).2|exact(cG _).1|exact(cG _).2| (simp only[b7,maxLen,lens];omega)| (intros;simp only[nb]at*;omega)) ?_
    have hdg:=MB ⟨hl1,lI⟩ (by omega)
    have hst:=E3 bt
    have hqa:(k.1.tdiv 10).natAbs=k.1.natAbs/10:=by rw[Int.natAbs_tdiv];rfl
    have hk0:0<k.1.natAbs:=by omega
    refine⟨(k.1.tdiv 10,[UInt8.ofNat (48+k.1.natAbs % 10)]++k.2),⟨by rw[←List.append_assoc, ←hst];exact U9,by omega,by omega,by omega⟩,by show(k.1.tdiv 10).natAbs<k.1.natAbs;omega,?_⟩
    rw[jJ,hdg,aM (a:=k.1.tdiv 10) (by omega)]
   ·try simp only[aP]at bY
    refine ay (fK X [0,3,4] rfl (by(repeat' with_reducible first|exact aB|refine aE ?_ ?_|apply And.intro)<;>first|exact pH _ _ (by simp only[List.length_cons,List.length_nil,List.length_append];omega)|exact fun _=>pH _ _ (by simp only[List.length_cons,List.length_nil,List.length_append];omega)|exact fun _ _=>pH _ _ (by simp only[List.length_cons,List.length_nil,List.length_append];omega)| (intros;omega)|exact rfl|exact aA _ (by decide)|exact⟨rfl,aA _ (by decide)⟩| ((intro h1;first| (intro h2;first| (intro h3;refine And.intro ?_ ?_)|refine And.intro ?_ ?_)|refine And.intro ?_ ?_)<;>first|omega| ((try simp only[aP]at*);(try simp(disch:=omega) only[aM]);omega))| ((try simp only[aP]at*);(simp(disch:=omega) only[aM]);omega)| (refine fun _=> ?_;dsimp only[hyps,bg];omega)| (refine fun _ _=> ?_;dsimp only[hyps,bg];omega)|exact(cj _).1|exact(cj _).2|exact(cG _).1|exact(cG _).2| (simp only[b7,maxLen,lens];omega)| (intros;simp only[nb]at*;omega)) ?_)
    refine fK X [0,3,4] rfl (by and_intros<;>first|exact⟨⟩| (intros;omega)|exact rfl|exact aA _ (by decide)|exact⟨rfl,aA _ (by decide)⟩| ((intro h1;first| (intro h2;first| (intro h3;refine And.intro ?_ ?_)|refine And.intro ?_ ?_)|refine And.intro ?_ ?_)<;>first|omega| ((try simp only[aP]at*);(try simp(disch:=omega) only[aM]);omega))| ((try simp only[aP]at*);(simp(disch:=omega) only[aM]);omega)| (refine fun _=> ?_;dsimp only[hyps,bg];omega)| (refine fun _ _=> ?_;dsimp only[hyps,bg];omega)|exact(cj _).1|exact(cj _).2|exact(cG _).1|exact(cG _).2| (simp only[b7,maxLen,lens];omega)| (intros;simp only[nb]at*;omega)) ?_
    have hdg:=MA ⟨hl1,lI⟩ (by omega)
    have hst:=E3 bt
    have hqa:(k.1.tdiv 10).natAbs=k.1.natAbs/10:=by rw[Int.natAbs_tdiv];rfl
    have hk0:0<k.1.natAbs:=by omega
    refine⟨(k.1.tdiv 10,[UInt8.ofNat (48+k.1.natAbs % 10)]++k.2),⟨by rw[←List.append_assoc, ←hst];exact U9,by omega,by omega,by omega⟩,by show(k.1.tdiv 10).natAbs<k.1.natAbs;omega,?_⟩
    rw[jJ,hdg,aM (a:=k.1.tdiv 10) (by omega)]
  ·try simp only[aP]at bt
   have hdl:=Jl n.natAbs n (Nat.le_refl _) (by omega)
   have zx:k.2.length≤20:=by have:=congrArg List.length U9;rw[List.length_append]at this;omega
   refine aV (aa (av X [3,27] rfl ?_))
   refine ak rfl ?_ ?_<;>intro fj
   ·try simp only[aP]at fj
    refine aN X [2] rfl (by(repeat' with_reducible first|exact aB|refine aE ?_ ?_|apply And.intro)<;>first|exact pH _ _ (by simp only[List.length_cons,List.length_nil,List.length_append];omega)|exact fun _=>pH _ _ (by simp only[List.length_cons,List.length_nil,List.length_append];omega)|exact fun _ _=>pH _ _ (by simp only[List.length_cons,List.length_nil,List.length_append];omega)| (intros;omega)|exact rfl|exact aA _ (by decide)|exact⟨rfl,aA _ (by decide)⟩| ((intro h1;first| (intro h2;first| (intro h3;refine And.intro ?_ ?_)|refine And.intro ?_ ?_)|refine And.intro ?_ ?_)<;>first|omega| ((try simp only[aP]at*);(try simp(disch:=omega) only[aM]);omega))| ((try simp only[aP]at*);(simp(disch:=omega) only[aM]);omega)| (refine fun _=> ?_;dsimp only[hyps,bg];omega)| (refine fun _ _=> ?_;dsimp only[hyps,bg];omega)|exact(cj _).1|exact(cj _).2|exact(cG _).1|exact(cG _).2| (simp only[b7,maxLen,lens];omega)| (intros;simp only[nb]at*;omega)) ?_
    exact aj (ah rfl ⟨by rw[zF hb0,if_pos fj, ←U9,show k.1=0 by omega];exact congrArg Value.string (jJ [45] k.2),⟨⟩⟩)
   ·try simp only[aP]at fj
    exact ay (av X [2] rfl (aj (ah rfl ⟨by rw[zF hb0,if_neg (by omega), ←U9,show k.1=0 by omega];rfl,⟨⟩⟩)))
theorem iS(x:dN)(hw:HC x):So 20 [.agg (cF x)] [.a (.lit (.string (UQ x)))]:=by
 refine aD X call20 func20 ntmps20 rfl rfl ?_
 intro zb
 refine bV 0 4 rfl rfl (fun hl1=> ?_)
 refine bV 0 6 rfl rfl (fun lI=> ?_)
 obtain⟨h1,h2,_,_,_,h6,_,h8⟩:=hw
 have z1:=b9 h1
 have z2:=b9 h2
 have z3:=b9 h6
 have z4:=b9 (n:=(x.aF.length:Int)) (by omega)
 have z5:=b9 (n:=(x.inbox.length:Int)) (by omega)
 have z6:=b9 h8
 refine av X [1] rfl (aa ?_)
 have t1:=(aC ((x.aF.length:Nat):Int) (by first|assumption|omega| (simp;done)| (simp;omega)))
 refine ct X [] [(5,⟨false,[.a (.lit (.string (bI (Lib.itoa x.id))))]⟩),(9,⟨false,[.a (.lit (.string (bI (Lib.itoa x.bG))))]⟩),(14,⟨false,[.a (.lit (.string (bI (Lib.itoa x.sent))))]⟩),(20,⟨false,cg t1⟩),(26,⟨false,[.a (.lit (.string (bI (Lib.itoa ((x.inbox.length:Nat):Int)))))]⟩),(31,⟨false,[.a (.lit (.string (bI (Lib.itoa x.next))))]⟩)] [2] [] 31 MO (by kernel_rfl) rfl (by(repeat' with_reducible first|exact aB|refine aE ?_ ?_|apply And.intro);(iterate 7 all_goals try first|exact(aC x.id (by first|assumption|omega| (simp;done)| (simp;omega)))|exact fun _=>(aC x.id (by first|assumption|omega| (simp;done)| (simp;omega)))|exact fun _ _=>(aC x.id (by first|assumption|omega| (simp;done)| (simp;omega)))|exact(aC x.bG (by first|assumption|omega| (simp;done)| (simp;omega)))|exact fun _=>(aC x.bG (by first|assumption|omega| (simp;done)| (simp;omega)))|exact fun _ _=>(aC x.bG (by first|assumption|omega| (simp;done)| (simp;omega)))|exact(aC x.sent (by first|assumption|omega| (simp;done)| (simp;omega)))|exact fun _=>(aC x.sent (by first|assumption|omega| (simp;done)| (simp;omega)))|exact fun _ _=>(aC x.sent (by first|assumption|omega| (simp;done)| (simp;omega)))|exact(aC ((x.aF.length:Nat):Int) (by first|assumption|omega| (simp;done)| (simp;omega)))|exact fun _=>(aC ((x.aF.length:Nat):Int) (by first|assumption|omega| (simp;done)| (simp;omega)))|exact fun _ _=>(aC ((x.aF.length:Nat):Int) (by first|assumption|omega| (simp;done)| (simp;omega)))|exact(aC ((x.inbox.length:Nat):Int) (by first|assumption|omega| (simp;done)| (simp;omega)))|exact fun _=>(aC ((x.inbox.length:Nat):Int) (by first|assumption|omega| (simp;done)| (simp;omega)))|exact fun _ _=>(aC ((x.inbox.length:Nat):Int) (by first|assumption|omega| (simp;done)| (simp;omega)))|exact(aC x.next (by first|assumption|omega| (simp;done)| (simp;omega)))|exact fun _=>(aC x.next (by first|assumption|omega| (simp;done)| (simp;omega)))|exact fun _ _=>(aC x.next (by first|assumption|omega| (simp;done)| (simp;omega)))|exact(by simp only[ByteArray.size_append,bJ,cM];omega)|exact fun _=>(by simp only[ByteArray.size_append,bJ,cM];omega)|exact fun _ _=>(by simp only[ByteArray.size_append,bJ,cM];omega));all_goals first| (intros;omega)|exact rfl|exact aA _ (by decide)|exact⟨rfl,aA _ (by decide)⟩| ((intro h1;first| (intro h2;first| (intro h3;refine And.intro ?_ ?_)|refine And.intro ?_ ?_)|refine And.intro ?_ ?_)<;>first|omega| ((try simp only[aP]at*);(try simp(disch:=omega) only[aM]);omega))| ((try simp only[aP]at*);(simp(disch:=omega) only[aM]);omega)| (refine fun _=> ?_;dsimp only[hyps,bg];omega)| (refine fun _ _=> ?_;dsimp only[hyps,bg];omega)|exact(cj _).1|exact(cj _).2|exact(cG _).1|exact(cG _).2| (simp only[b7,maxLen,lens];omega)| (intros;simp only[nb]at*;omega)) ?_
 exact aj (ah rfl ⟨rfl,⟨⟩⟩)
theorem iT(x:dN)(hw:HC x):So 21 [.agg (cF x)] [.a (.lit (.string (UQ x)))]:=by
 refine aD X call21 func21 ntmps21 rfl rfl ?_
 intro zb
 refine bV 0 4 rfl rfl (fun hl1=> ?_)
 refine bV 0 6 rfl rfl (fun lI=> ?_)
 obtain⟨h1,h2,_,_,_,h6,_,h8⟩:=hw
 have z1:=b9 h1
 have z2:=b9 h2
 have z3:=b9 h6
 have z4:=b9 (n:=(x.aF.length:Int)) (by omega)
 have z5:=b9 (n:=(x.inbox.length:Int)) (by omega)
 have z6:=b9 h8
 refine av X [1] rfl (aa ?_)
 have t1:=(au ((x.aF.length:Nat):Int) (by first|assumption|omega| (simp;done)| (simp;omega)))
 refine ct X [] [(5,⟨false,[.a (.lit (.string (bI (Lib.itoa x.id))))]⟩),(9,⟨false,[.a (.lit (.string (bI (Lib.itoa x.bG))))]⟩),(14,⟨false,[.a (.lit (.string (bI (Lib.itoa x.sent))))]⟩),(20,⟨false,cg t1⟩),(26,⟨false,[.a (.lit (.string (bI (Lib.itoa ((x.inbox.length:Nat):Int)))))]⟩),(31,⟨false,[.a (.lit (.string (bI (Lib.itoa x.next))))]⟩)] [2] [] 31 MO (by kernel_rfl) rfl (by(repeat' with_reducible first|exact aB|refine aE ?_ ?_|apply And.intro);(iterate 7 all_goals try first|exact(au x.id (by first|assumption|omega| (simp;done)| (simp;omega)))|exact fun _=>(au x.id (by first|assumption|omega| (simp;done)| (simp;omega)))|exact fun _ _=>(au x.id (by first|assumption|omega| (simp;done)| (simp;omega)))|exact(au x.bG (by first|assumption|omega| (simp;done)| (simp;omega)))|exact fun _=>(au x.bG (by first|assumption|omega| (simp;done)| (simp;omega)))|exact fun _ _=>(au x.bG (by first|assumption|omega| (simp;done)| (simp;omega)))|exact(au x.sent (by first|assumption|omega| (simp;done)| (simp;omega)))|exact fun _=>(au x.sent (by first|assumption|omega| (simp;done)| (simp;omega)))|exact fun _ _=>(au x.sent (by first|assumption|omega| (simp;done)| (simp;omega)))|exact(au ((x.aF.length:Nat):Int) (by first|assumption|omega| (simp;done)| (simp;omega)))|exact fun _=>(au ((x.aF.length:Nat):Int) (by first|assumption|omega| (simp;done)| (simp;omega)))|exact fun _ _=>(au ((x.aF.length:Nat):Int) (by first|assumption|omega| (simp;done)| (simp;omega)))|exact(au ((x.inbox.length:Nat):Int) (by first|assumption|omega| (simp;done)| (simp;omega)))|exact fun _=>(au ((x.inbox.length:Nat):Int) (by first|assumption|omega| (simp;done)| (simp;omega)))|exact fun _ _=>(au ((x.inbox.length:Nat):Int) (by first|assumption|omega| (simp;done)| (simp;omega)))|exact(au x.next (by first|assumption|omega| (simp;done)| (simp;omega)))|exact fun _=>(au x.next (by first|assumption|omega| (simp;done)| (simp;omega)))|exact fun _ _=>(au x.next (by first|assumption|omega| (simp;done)| (simp;omega)))|exact(by simp only[ByteArray.size_append,bJ,cM];omega)|exact fun _=>(by simp only[ByteArray.size_append,bJ,cM];omega)|exact fun _ _=>(by simp only[ByteArray.size_append,bJ,cM];omega));all_goals first| (intros;omega)|exact rfl|exact aA _ (by decide)|exact⟨rfl,aA _ (by decide)⟩| ((intro h1;first| (intro h2;first| (intro h3;refine And.intro ?_ ?_)|refine And.intro ?_ ?_)|refine And.intro ?_ ?_)<;>first|omega| ((try simp only[aP]at*);(try simp(disch:=omega) only[aM]);omega))| ((try simp only[aP]at*);(simp(disch:=omega) only[aM]);omega)| (refine fun _=> ?_;dsimp only[hyps,bg];omega)| (refine fun _ _=> ?_;dsimp only[hyps,bg];omega)|exact(cj _).1|exact(cj _).2|exact(cG _).1|exact(cG _).2| (simp only[b7,maxLen,lens];omega)| (intros;simp only[nb]at*;omega)) ?_
 exact aj (ah rfl ⟨rfl,⟨⟩⟩)
end
section
theorem MC(l:List (List UInt8))(sep y:List UInt8)(h:l≠ []):Lib.join (l++ [y]) sep=Lib.join l sep++sep++y:=by
 cases l with
 |nil=>exact absurd rfl h
 |cons x r=>
  rw[List.cons_append,Lib.join_cons,Lib.join_cons]
  simp[Lib.joinTail,List.append_assoc]
theorem join_le(l:List (List UInt8))(c:UInt8):(Lib.join l [c]).length≤eu List.length l:=by
 cases l with
 |nil=>simp[Lib.join_nil]
 |cons x r=>
  rw[Lib.join_cons,List.length_append,Lib.joinTail_length]
  simp only[eu,List.length_cons,List.map_cons,List.sum_cons,Lib.lens,List.length_nil]
  have:(List.map (fun x=>List.length x) r).sum=(List.map List.length r).sum:=rfl
  omega
theorem Rm(l:List (List UInt8))(k:Nat):eu List.length (l.take k)≤eu List.length l:=by
 have h1:=qv l List.length k
 unfold eu
 have:(l.take k).length≤l.length:=List.length_take_le' _ _
 omega
theorem pJ{α:Type}(f:α→List UInt8)(C:Nat): ∀(l:List α),(∀y,y∈l→(f y).length≤C)→eu List.length (l.map f)≤(C+1)*l.length
 | [],_=>by simp[eu]
 |x::r,h=>by
  have h1:=pJ f C r (fun y hy=>h y (List.mem_cons_of_mem _ hy))
  have h2:=h x (List.mem_cons_self ..)
  unfold eu at h1 ⊢
  simp only[List.map_cons,List.length_cons,List.sum_cons,Nat.mul_add]at h1 ⊢
  omega
theorem at_mem{α:Type}{P:α→Prop}{l:List α}(h: ∀y,y∈l→P y){k:Nat}(hk:k<l.length)(d:α):P (l.getD k d):=by
 rw[List.getD_eq_getElem?_getD,List.getElem?_eq_getElem hk]
 exact h _ (List.getElem_mem hk)
theorem xW{α β:Type}(f:α→β){l:List α}{k:Nat}(hk:k<l.length)(d:α)(e:β):(l.map f).getD k e=f (l.getD k d):=by
 rw[List.getD_eq_getElem?_getD,List.getD_eq_getElem?_getD,List.getElem?_map,List.getElem?_eq_getElem hk];rfl
theorem mz(l:List (List UInt8))(c:UInt8)(h:eu List.length l≤1099511627776):So 58 [.a (.sl .str l), .a (.lit (.string (bI [c])))] [.a (.lit (.string (bI (Lib.join l [c]))))]:=by
 refine⟨call58,?_⟩
 rintro w us _ ha
 match us,ha with
 | [u,v],⟨h1,h2,_⟩=>
   obtain⟨fp,h1⟩:=h1
   obtain⟨_,rfl,_,_⟩:=h2
   obtain⟨oa,cap,rfl,hc,hm,h3⟩:=(show Sl 1 Sb w u l fp from h1)
   have hlen:l.length≤1099511627776:=by unfold eu at h;omega
   rcases h3 with⟨rfl,_⟩| ⟨b,off,bn,rfl,hb,rfl,hE⟩
   ·refine(Tryz.strings_Join_none oa cap (bI [c]) w).mono ?_
    rintro e w' ⟨rfl,rfl⟩
    exact⟨_,[],rfl,Below.refl _ _,Own.nil _ _,⟨[],[],⟨rfl,rfl,rfl⟩,rfl,rfl⟩⟩
   ·have:=Tryz.strings_Join b off cap (l.map bI) (bI [c]) w (fun j x hx=>by
      rw[List.getElem?_map]at hx
      cases hy:l[j]? with
      |none=>rw[hy]at hx;cases hx
      |some y=>
       rw[hy]at hx
       simp only[Option.map_some,oI]at hx
       subst hx
       obtain⟨f,hf⟩:=fP hE.1 hy
       obtain⟨cs,q1,rfl,_⟩:=hE.2 j y f hy hf
       have:=q1 0 _ rfl
       rw[Nat.add_zero,Nat.mul_one]at this
       exact this) hb.lt (by rw[List.length_map];omega) (by rw[List.length_map];exact hc) (by
      rw[List.map_map]
      rw[F6]
      have:=join_le l c
      rw[LH]
      omega)
    rw[List.length_map,List.map_map]at this
    rw[F6]at this
    refine this.mono ?_
    rintro e w' ⟨rfl,hb'⟩
    exact⟨_,[],rfl,hb',Own.nil _ _,⟨[],[],⟨rfl,rfl,rfl⟩,rfl,rfl⟩⟩
def uB(l:List (List UInt8))(c:UInt8):ByteArray:=if l.length=0 then bI [45]else bI (Lib.join l [c])
def jn(l:List (List UInt8))(c:UInt8)(k:Nat):ByteArray:=bI (Lib.join (l.take k) [c])
theorem VX(l:List (List UInt8))(c:UInt8)(k:Nat):(jn l c k).size≤eu List.length l:=by
 have h1:=join_le (l.take k) c
 have h2:=Rm l k
 show(bI (Lib.join (l.take k) [c])).size≤_
 rw[dA];omega
theorem E5(l:List (List UInt8))(c:UInt8){k:Nat}(h:k<l.length)(h0:0<k):jn l c (k+1)=jn l c k++bI [c]++bI (l.getD k []):=by
 unfold jn
 rw[bE l k [] h,MC,jJ,jJ]
 intro hn
 have:=congrArg List.length hn
 rw[List.length_take,List.length_nil]at this
 omega
theorem BX(l:List (List UInt8))(c:UInt8){k:Nat}(h:k<l.length)(h0: ¬0<k):jn l c (k+1)=jn l c k++bI (l.getD k []):=by
 obtain rfl:k=0:=by omega
 unfold jn
 rw[bE l 0 [] h,List.take_zero,List.nil_append,Lib.join_one,Lib.join_nil,jJ,List.nil_append]
theorem Rn(l:List (List UInt8))(c:UInt8){k:Nat}(h:l.length≤k)(h0:l.length≠0):jn l c k=uB l c:=by
 unfold jn uB
 rw[List.take_of_length_le h,if_neg h0]
def MD(t:iy):ByteArray:=bI (Lib.itoa t.fr)++bI [62]++bI (Lib.itoa t.to)++bI [58]++bI (Lib.itoa t.bytes)
def ig(t:iy):List UInt8:=(MD t).data.toList
def bz(b:List UInt8):Bool:=b.any fun c=>(c.toNat:Int) !=0
def gK:List (List UInt8)→Nat
 | []=>0
 |b::l=>(if bz b then 1 else 0)+gK l
theorem sK: ∀l:List (List UInt8),gK l≤l.length
 | []=>Nat.le_refl _
 |b::l=>by have:=sK l;unfold gK;rw[List.length_cons];split<;>omega
theorem Hi: ∀(a b:List (List UInt8)),gK (a++b)=gK a+gK b
 | [],b=>by simp[gK]
 |x::a,b=>by rw[List.cons_append,gK,gK,Hi a b];omega
theorem Dy(l:List (List UInt8))(k:Nat)(d:List UInt8)(h:k<l.length):gK (l.take (k+1))=gK (l.take k)+if bz (l.getD k d)then 1 else 0:=by
 rw[bE l k d h,Hi];rfl
theorem Hj(l:List (List UInt8))(k:Nat)(d:List UInt8)(h:k<l.length)(hb:bz (l.getD k d)=true):gK (l.take (k+1))=gK (l.take k)+1:=by
 rw[Dy l k d h,if_pos hb]
theorem Dz(l:List (List UInt8))(k:Nat)(d:List UInt8)(h:k<l.length)(hb:bz (l.getD k d)=false):gK (l.take (k+1))=gK (l.take k):=by
 rw[Dy l k d h,hb];rfl
def Yv(r:aK):ByteArray:=bI (Lib.itoa r.round)++bI [58]++bI (Lib.itoa (gK r.db.rows))
def yF(r:aK):List UInt8:=(Yv r).data.toList
def gf(n:Int):List UInt8:=Lib.itoa n
end
end Go.Proofs.YtkkfjbfkjbljiaaGreatDoor.G
namespace Go.Proofs.YtkkfjbfkjbljiaaGreatDoor.G
set_option linter.all false
open Go.RowKit L D
section
theorem KP{l:List Int}(h: ∀y,y∈l→kQ y): ∀y,y∈l→(gf y).length≤21:=fun y hy=>b9 (h y hy)
theorem Ro{l:List aK}(h: ∀y,y∈l→Cu y)(hz: ∀y,y∈l→y.db.rows.length≤1048576): ∀y,y∈l→(yF y).length≤43:=by
 intro y hy
 obtain⟨q1,_⟩:=h y hy
 have z1:=b9 q1
 have h2:=sK y.db.rows
 have h3:=hz y hy
 have z2:=b9 (n:=(gK y.db.rows:Int)) (by omega)
 show(Yv y).size≤43
 unfold Yv
 simp only[ByteArray.size_append,dA,List.length_cons,List.length_nil]at*
 omega
def ME(a:iK):ByteArray:=uB (a.rounds.map yF) 32
theorem UR(n:Int):0<(bI (Lib.itoa n)).size:=by
 rw[dA]
 by_cases h:n=0
 ·subst h;rw[xV];decide
 ·rw[zF h,List.length_append]
  have:0<(dd n).length:=by
   rw[E3 h,List.length_append];simp
  omega
theorem abb(l:List Int)(c:UInt8){k:Nat}(h:0<k)(hk:k≤l.length):0<(jn (l.map gf) c k).size:=by
 obtain⟨j,rfl⟩: ∃j,k=j+1:=⟨k-1,by omega⟩
 have hl:(l.map gf).length=l.length:=List.length_map ..
 have h1:(l.map gf).getD j []=gf (l.getD j 0):=xW gf (by omega) _ _
 have h2:=UR (l.getD j 0)
 by_cases h0:0<j
 ·rw[E5 _ _ (by omega) h0,h1,ByteArray.size_append]
  unfold gf;omega
 ·rw[BX _ _ (by omega) h0,h1,ByteArray.size_append]
  unfold gf;omega
theorem Yw(l:List Int)(c:UInt8){k:Nat}(h:l.length≤k)(hk:k≤l.length)(hn:jn (l.map gf) c k≠bI []):jn (l.map gf) c k=uB (l.map gf) c:=by
 rw[Rn _ _ (by rw[List.length_map];omega)]
 intro h0
 rw[List.length_map]at h0
 obtain rfl:k=0:=by omega
 exact hn (by unfold jn;rw[List.take_zero,Lib.join_nil])
theorem Yx(l:List Int)(c:UInt8){k:Nat}(h:l.length≤k)(hk:k≤l.length)(he:jn (l.map gf) c k=bI []):uB (l.map gf) c=bI [45]:=by
 unfold uB
 rw[List.length_map,if_pos]
 by_cases h0:l.length=0
 ·exact h0
 ·have h1:=abb l c (k:=k) (by omega) hk
  have:=congrArg ByteArray.size he
  rw[dA,List.length_nil]at this
  omega
theorem abc{b:ByteArray}(h:(b.toList==(⟨#[]⟩:ByteArray).toList)=true):b=bI []:=by
 have:=eq_of_beq h
 rw[ByteArray.toList_eq,ByteArray.toList_eq]at this
 exact congrArg (fun l=>bI l) this
theorem abd{b:ByteArray}(h:(b.toList==(⟨#[]⟩:ByteArray).toList)=false):b≠bI []:=by
 intro e
 subst e
 rw[show(bI [])=(⟨#[]⟩:ByteArray)from rfl,beq_self_eq_true]at h
 cases h
def MF(x:bw):ByteArray:=bI (Lib.itoa x.round)++bI [32]++bI (Lib.itoa x.cancelled)++bI [32]++uB (x.replaced.map gf) 44++bI [32]++bI (Lib.itoa (mo x.af x.af.length))++bI [43]++bI (Lib.itoa (wg x.af x.af.length))
theorem Jm(l:List (List UInt8))(c:UInt8):(uB l c).size≤eu List.length l+1:=by
 unfold uB
 split
 ·rw[dA];simp
 ·rw[dA];have:=join_le l c;omega
end
end Go.Proofs.YtkkfjbfkjbljiaaGreatDoor.G
