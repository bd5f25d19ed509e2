/-
  A region in which a string is turned into bytes: the bytes are new memory that nobody writes.
-/
import Derived.Lib.AtoiErrMem
import Derived.Lib.ConvBytes
import Derived.Test.YtaalpcnbbldlaaaGreatDoorR10
namespace Go.Proofs.YtaalpcnbbldlaaaGreatDoor.G
set_option linter.all false
open Go.RowKit L D
section
def LB:Nat→List Oper→Option (List Oper×Oper×List Oper)
 |0,o::r=>some ([],o,r)
 |n+1,o::r=>match LB n r with
  |some (p,q,s)=>some (o::p,q,s)
  |none=>none
 |_,[]=>none
theorem LC: ∀{n:Nat} {l p q:List Oper} {o:Oper},LB n l=some (p,o,q)→l=p++o::q
 |0,[],_,_,_,h=>by cases h
 |0,o::r,p,q,o1,h=>by
  simp only[LB,oI,pI]at h;obtain⟨rfl,rfl,rfl⟩:=h;rfl
 |n+1,[],_,_,_,h=>by cases h
 |n+1,o::r,p,q,o1,h=>by
  simp only[LB]at h;split at h
  ·rename_i p' q' s' h';simp only[oI,pI]at h;obtain⟨rfl,rfl,rfl⟩:=h;rw[LC h'];rfl
  ·cases h
def ecv(Γ:Nat→TK)(st:St)(o:Oper):Option (List Prop×St):=match o.guard,o.dst,o.op with
 |none,some d, .convert s t x=>match gQ st [] x,Γ s,Γ t with
  |some (.a (.lit (.string b))), .str, .sl .u8 e=>match Γ e,Nat.blt d st.n with
   | .int .u8,true=>some ([b.size≤1099511627776],st.put (some d) (.one (.a (.sl .u8 b.data.toList))))
   |_,_=>none
  |_,_,_=>none
 |_,_,_=>none
def ac7(P:Program)(ty:Tag→Nat)(Γ:Nat→TK)(dm:List (Nat×Nat))(cr:List (Nat×CR))(ks:List Nat)(ix:Nat)(ops:List Oper):St→Option (List Prop×St)
 | ⟨n,Sh,ga⟩=>match LB ix ops with
   |some (pre,o1,rest)=>match run P ty Γ dm cr ops pre ⟨n,Sh,ga⟩ []with
    |some (oV,Ar)=>match fR (ecv Γ Ar o1)with
     |some ([p],⟨n1,ZC,eD⟩)=>match run P ty Γ dm cr ops rest ⟨n1,ZC,eD⟩ (p::oV)with
      |some (vc,st')=>match Gs n st' ks,Nat.beq st'.n n with
       |some AK,true=>some (vc,AK)
       |_,_=>none
      |none=>none
     |_=>none
    |none=>none
   |none=>none
section
variable{P:Program}{ty:Tag→Nat}{zb:cD}{st:St}{a:Act}{w:World}{Q:Post}
theorem U6(w:World)(e:Nat)(b:ByteArray)(hb:b.size≤1099511627776):
  Sl 1 NB (Lib.bytesWorld w e b) (.slice (some ⟨w.heap.size,0,none⟩) b.size (grownCap w b.size 0 e)) b.data.toList [w.heap.size]:=by
 have hge:=grownCap_ge w b.size 0 e;have Jc:=grownCap_le_maxLen w b.size 0 e (by unfold maxLen;omega);have hlen:b.data.toList.length=b.size:=by simp
 refine⟨some ⟨w.heap.size,0,none⟩,grownCap w b.size 0 e,by rw[hlen],by rw[hlen];omega,Jc,Or.inr ⟨w.heap.size,0,b.data.toList.map fun _=> [],rfl,?_,?_,?_⟩⟩
 ·refine⟨_,_,_,Lib.bytesWorld_at_new w e b,?_⟩;have:(Lib.bytesCells w e b).size=b.size+(grownCap w b.size 0 e-b.size):=by simp[Lib.bytesCells]
  rw[this];omega
 ·have:(b.data.toList.map fun _=>([]:List Nat)).flatten= []:=by
   generalize b.data.toList=l;induction l with
   |nil=>rfl
   |cons x r ih=>simp
  rw[this]
 ·refine⟨by simp,fun i x f hx hf=> ?_⟩;rw[List.getElem?_map,hx]at hf;simp only[Option.map_some,oI]at hf;subst hf;refine⟨[.int .u8 x.toNat],fun j v hj=> ?_,rfl,rfl⟩;cases j with
  |succ j=>simp at hj
  |zero=>
   simp only[List.getElem?_cons_zero,oI]at hj;subst hj;have hi:i<b.size:=by
    have:=(List.getElem?_eq_some_iff.1 hx).1;rw[hlen]at this;exact this
   have hc:=Lib.bytesWorld_cell w e b i hi;rw[List.getD_eq_getElem?_getD,hx]at hc;rw[show 0+i*1+0=i by omega];exact hc
theorem aax{Γ:Nat→TK}(C: ∀t,cT P t (Γ t)){o:Oper}{l:List Prop}{st':St}(h:ecv Γ st o=some (l,st'))(hv: ∀q,q∈l→q)(iv:Inv ty zb st a w)
  {ops:Array Oper}{tail:List Oper}{R:Exit→Act→World→Prop}(hR: ∀a w,Inv ty zb st' a w→wpList P ops R tail a w):wpList P ops R (o::tail) a w:=by
 obtain⟨env,g⟩:=iv.good;unfold ecv at h;split at h
 case h_2=>cases h
 rename_i d s t x hg hd ho;split at h
 case h_2=>cases h
 rename_i b e hx hs ht;split at h
 case h_2=>cases h
 rename_i he hlt;simp only[oI,pI]at h;obtain⟨rfl,rfl⟩:=h;have hb:b.size≤1099511627776:=hv _ (List.mem_singleton.2 rfl);have hxv:=(e9 g (fun e he=>by simp at he) hx).lit;have c1:=C s;rw[hs]at c1;have c2:=C t;rw[ht]at c2;have c3:=C e;rw[he]at c3;have hrun:(execOp a.eval o).run P w= .ok (.value (.slice (some ⟨w.heap.size,0,none⟩) b.size (grownCap w b.size 0 e))) (Lib.bytesWorld w e b):=by
  have:=Lib.run_convert_string_bytes (P:=P) w s t e b c1 c2.1 c3;unfold execOp;simp[ho,hxv,this]
 have hbel:=Lib.bytesWorld_below w e b;have hdl:d<a.tmps.size:=by rw[iv.size];exact Nat.le_of_ble_eq_true hlt
 have yH:=U6 w e b hb;have g':Good ty zb st a.tmps (Lib.bytesWorld w e b) env:=g.grow (os:= []) iv.kept.size rfl (kL.none hbel);have hR1:gN P ops o a w (fun a' w'=>a'=a.put o.dst (.slice (some ⟨w.heap.size,0,none⟩) b.size (grownCap w b.size 0 e))∧Lib.bytesWorld w e b=w') R:=by
  refine gR hg ?_;unfold Oper.wp;rw[hrun];exact⟨rfl,rfl⟩
 refine hR1.mono ?_;rintro a1 w1 ⟨rfl,rfl⟩;refine hR _ _ ?_;rw[hd];refine⟨by rw[gr,tq];exact iv.size,by rw[put_defers];exact iv.defers,iv.kept.trans (je hbel iv.kept.size),iv.C1,env,lB g' (dst:=some d) (fun _ e=>by cases e;exact hdl) ?_ (fun d _=>lC ⟨_,rfl⟩)⟩;refine⟨[w.heap.size],yH,fun k hk=> ?_⟩;intro how;have h1:=(g.ow how).2;rw[List.mem_singleton]at hk;omega
theorem Pv{Γ:Nat→TK}(X:Ctx P ty Γ)(dm:List (Nat×Nat))(cr:List (Nat×CR))(ks:List Nat)(ix:Nat){id:Nat}{ops:List Oper}{vc:List Prop}{st':St}(h:G.ac7 P ty Γ dm cr ks ix ops st=some (vc,st'))(hv:mP vc)(k:Q .normal st'):
  W P ty zb (.region id ops.toArray false) Q st:=by
 intro a w iv;obtain⟨n,Sh,ga⟩:=st;unfold G.ac7 at h;dsimp only at h;split at h
 case h_2=>cases h
 rename_i pre o1 rest hsp;split at h
 case h_2=>cases h
 rename_i oV Ar hrun;split at h
 case h_2=>cases h
 rename_i l n1 ZC eD he;split at h
 case h_2=>cases h
 rename_i Y9 AK Er;split at h
 case h_2=>cases h
 rename_i st3 hkeep hn;simp only[oI,pI]at h;obtain⟨rfl,rfl⟩:=h;have he:=Yl he;have hv:=hv.out;refine wp_region_lit ?_;rw[show wpList P ops.toArray (Cw ty zb Q) ops a w=wpList P ops.toArray (Cw ty zb Q) (pre++o1::rest) a w by rw[←LC hsp]];refine C7 X.kind X.one (fun a w iv=> ?_) hrun (fun q hq=>hv q (qB Er q (List.mem_cons_of_mem _ hq))) iv;refine aax X.kind he (fun q hq=>hv q (qB Er q (by rw[List.mem_singleton.1 hq];exact List.mem_cons_self ..))) iv fun a w iv=> ?_;refine HJ X.kind X.one (fun a w iv=>⟨_,?_,k⟩) Er hv iv;unfold Gs at hkeep;split at hkeep
 ·rename_i sl hp h1 h2;split at hkeep
  ·rename_i hc;simp only[oI]at hkeep;subst hkeep;exact iv.weaken (Nat.eq_of_beq_eq_true hn).symm (jk h1) (jl h2) hc
  ·cases hkeep
 ·cases hkeep
end
end
end Go.Proofs.YtaalpcnbbldlaaaGreatDoor.G
