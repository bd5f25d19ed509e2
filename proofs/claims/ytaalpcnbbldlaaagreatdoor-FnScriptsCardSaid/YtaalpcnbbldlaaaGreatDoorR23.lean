/- Steps. -/
import Derived.Lib.AtoiErrMem
import Derived.Lib.ConvBytes
import Derived.Test.YtaalpcnbbldlaaaGreatDoorR13
open Go.Lib renaming bytesCells→SC,bytesWorld→qI
open List renaming mem_singleton→aV
namespace Go.Proofs.YtaalpcnbbldlaaaGreatDoor.G
set_option linter.all false
open Go.RowKit L D
section
def aap:Nat→List Oper→Option (List Oper×Oper×List Oper)
 |0,o::r=>some ([],o,r)
 |n+1,o::r=>match aap n r with
  |some (p,q,s)=>some (o::p,q,s)
  |none=>none
 |_,[]=>none
theorem aaq: ∀{n:Nat} {l p q:List Oper} {o:Oper},aap n l=some (p,o,q)→l=p++o::q
 |0,[],_,_,_,h=>by cases h
 |0,o::r,p,q,o1,h=>by
  simp only[aap,oI,pI]at h;obtain⟨rfl,rfl,rfl⟩:=h;rfl
 |n+1,[],_,_,_,h=>by cases h
 |n+1,o::r,p,q,o1,h=>by
  simp only[aap]at h;split at h
  ·rename_i p' q' s' h';simp only[oI,pI]at h;obtain⟨rfl,rfl,rfl⟩:=h;rw[aaq h'];rfl
  ·cases h
def ecv(Γ:Nat→TK)(st:St)(o:Oper):Option (List Prop×St):=match o.guard,o.dst,o.op with
 |none,some d, .convert s t x=>match oH st [] x,Γ s,Γ t with
  |some (.a (.lit (.string b))), .str, .sl .u8 e=>match Γ e,Nat.blt d st.n with
   | .int .u8,true=>some ([b.size≤1099511627776],st.put (some d) (.one (.a (.sl .u8 b.data.toList))))
   |_,_=>none
  |_,_,_=>none
 |_,_,_=>none
def aEK(P:Program)(ty:Tag→Nat)(Γ:Nat→TK)(iD:List (Nat×Nat))(cr:List (Nat×CR))(ks:List Nat)(ix:Nat)(ops:List Oper):St→Option (List Prop×St)
 | ⟨n,sl0,nB⟩=>match aap ix ops with
   |some (pre,o1,rest)=>match run P ty Γ iD cr ops pre ⟨n,sl0,nB⟩ []with
    |some (zM,Kn)=>match fR (ecv Γ Kn o1)with
     |some ([p],⟨n1,sl1,kY⟩)=>match run P ty Γ iD cr ops rest ⟨n1,sl1,kY⟩ (p::zM)with
      |some (vc,st')=>match Tt n st' ks,Nat.beq st'.n n with
       |some KM,true=>some (vc,KM)
       |_,_=>none
      |none=>none
     |_=>none
    |none=>none
   |none=>none
section
variable{P:Program}{ty:Tag→Nat}{zb:fG}{st:St}{a:Act}{w:World}{Q:Post}
theorem aon(w:World)(e:Nat)(b:ByteArray)(hb:b.size≤1099511627776):
  Sl 1 EU8 (qI w e b) (.slice (some ⟨w.heap.size,0,none⟩) b.size (grownCap w b.size 0 e)) b.data.toList [w.heap.size]:=by
 have hge:=grownCap_ge w b.size 0 e;have Xd:=grownCap_le_maxLen w b.size 0 e (by unfold maxLen;omega);have hlen:b.data.toList.length=b.size:=by simp
 refine⟨some ⟨w.heap.size,0,none⟩,grownCap w b.size 0 e,by rw[hlen],by rw[hlen];omega,Xd,Or.inr ⟨w.heap.size,0,b.data.toList.map fun _=> [],rfl,?_,?_,?_⟩⟩
 ·refine⟨_,_,_,Lib.bytesWorld_at_new w e b,?_⟩;have:(SC w e b).size=b.size+(grownCap w b.size 0 e-b.size):=by simp[SC]
  rw[this];omega
 ·have:(b.data.toList.map fun _=>([]:List Nat)).flatten= []:=by
   generalize b.data.toList=l;induction l with
   |nil=>rfl
   |cons x r ih=>simp
  rw[this]
 ·refine⟨by simp,fun i x f hx hf=> ?_⟩;rw[List.getElem?_map,hx]at hf;simp only[Option.map_some,oI]at hf;subst hf;refine⟨[.int .u8 x.toNat],fun j v hj=> ?_,rfl,rfl⟩;cases j with
  |succ j=>simp at hj
  |zero=>
   simp only[List.getElem?_cons_zero,oI]at hj;subst hj;have hi:i<b.size:=by
    have:=(List.getElem?_eq_some_iff.1 hx).1;rw[hlen]at this;exact this
   have hc:=Lib.bytesWorld_cell w e b i hi;rw[List.getD_eq_getElem?_getD,hx]at hc;rw[show 0+i*1+0=i by omega];exact hc
theorem azF{Γ:Nat→TK}(C: ∀t,gO P t (Γ t)){o:Oper}{l:List Prop}{st':St}(h:ecv Γ st o=some (l,st'))(hv: ∀q,q∈l→q)(iv:Inv ty zb st a w)
  {ops:Array Oper}{tail:List Oper}{R:Exit→Act→World→Prop}(hR: ∀a w,Inv ty zb st' a w→wpList P ops R tail a w):wpList P ops R (o::tail) a w:=by
 obtain⟨env,g⟩:=iv.good;unfold ecv at h;split at h
 case h_2=>cases h
 rename_i d s t x hg hd ho;split at h
 case h_2=>cases h
 rename_i b e hx hs ht;split at h
 case h_2=>cases h
 rename_i he hlt;simp only[oI,pI]at h;obtain⟨rfl,rfl⟩:=h;have hb:b.size≤1099511627776:=hv _ (aV.2 rfl);have hxv:=(lX g (fun e he=>by simp at he) hx).lit;have c1:=C s;rw[hs]at c1;have c2:=C t;rw[ht]at c2;have c3:=C e;rw[he]at c3;have hrun:(execOp a.eval o).run P w= .ok (.value (.slice (some ⟨w.heap.size,0,none⟩) b.size (grownCap w b.size 0 e))) (qI w e b):=by
  have:=Lib.run_convert_string_bytes (P:=P) w s t e b c1 c2.1 c3;unfold execOp;simp[ho,hxv,this]
 have hbel:=Lib.bytesWorld_below w e b;have hdl:d<a.tmps.size:=by rw[iv.size];exact Nat.le_of_ble_eq_true hlt
 have Gj:=aon w e b hb;have g':Good ty zb st a.tmps (qI w e b) env:=g.grow (os:= []) iv.kept.size rfl (tX.none hbel);have hR1:oJ P ops o a w (fun a' w'=>a'=a.put o.dst (.slice (some ⟨w.heap.size,0,none⟩) b.size (grownCap w b.size 0 e))∧qI w e b=w') R:=by
  refine oQ hg ?_;unfold Oper.wp;rw[hrun];exact⟨rfl,rfl⟩
 refine hR1.mono ?_;rintro a1 w1 ⟨rfl,rfl⟩;refine hR _ _ ?_;rw[hd];refine⟨by rw[nR,Dg];exact iv.size,by rw[put_defers];exact iv.defers,iv.kept.trans (qZ hbel iv.kept.size),iv.Nf,env,uV g' (dst:=some d) (fun _ e=>by cases e;exact hdl) ?_ (fun d _=>uZ ⟨_,rfl⟩)⟩;refine⟨[w.heap.size],Gj,fun k hk=> ?_⟩;intro how;have h1:=(g.ow how).2;rw[aV]at hk;omega
theorem agc{Γ:Nat→TK}(X:Ctx P ty Γ)(iD:List (Nat×Nat))(cr:List (Nat×CR))(ks:List Nat)(ix:Nat){id:Nat}{ops:List Oper}{vc:List Prop}{st':St}(h:G.aEK P ty Γ iD cr ks ix ops st=some (vc,st'))(hv:tH vc)(k:Q .normal st'):
  W P ty zb (.region id ops.toArray false) Q st:=by
 intro a w iv;obtain⟨n,sl0,nB⟩:=st;unfold G.aEK at h;dsimp only at h;split at h
 case h_2=>cases h
 rename_i pre o1 rest hsp;split at h
 case h_2=>cases h
 rename_i zM Kn hrun;split at h
 case h_2=>cases h
 rename_i l n1 sl1 kY he;split at h
 case h_2=>cases h
 rename_i vc2 KM PZ;split at h
 case h_2=>cases h
 rename_i st3 hkeep hn;simp only[oI,pI]at h;obtain⟨rfl,rfl⟩:=h;have he:=avI he;have hv:=hv.out;refine wp_region_lit ?_;rw[show wpList P ops.toArray (No ty zb Q) ops a w=wpList P ops.toArray (No ty zb Q) (pre++o1::rest) a w by rw[←aaq hsp]];refine N3 X.kind X.one (fun a w iv=> ?_) hrun (fun q hq=>hv q (A9 PZ q (List.mem_cons_of_mem _ hq))) iv;refine azF X.kind he (fun q hq=>hv q (A9 PZ q (by rw[aV.1 hq];exact List.mem_cons_self ..))) iv fun a w iv=> ?_;refine Vb X.kind X.one (fun a w iv=>⟨_,?_,k⟩) PZ hv iv;unfold Tt at hkeep;split at hkeep
 ·rename_i sl hp h1 h2;split at hkeep
  ·rename_i hc;simp only[oI]at hkeep;subst hkeep;exact iv.weaken (Nat.eq_of_beq_eq_true hn).symm (rq h1) (ru h2) hc
  ·cases hkeep
 ·cases hkeep
end
end
end Go.Proofs.YtaalpcnbbldlaaaGreatDoor.G
