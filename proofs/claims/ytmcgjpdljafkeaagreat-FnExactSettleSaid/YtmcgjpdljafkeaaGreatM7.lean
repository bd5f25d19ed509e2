/-
  Contracts of functions that are lent memory: from the walk through their bodies.
-/
import Derived.Test.YtmcgjpdljafkeaaGreatM6
namespace Go.Proofs.YtmcgjpdljafkeaaGreat.G
set_option linter.all false
open Go.RowKit L D
section
variable{ty:Tag→Nat}
def WA(hp:Hp)(n m:Nat)(t:Tag)(l:List (T t)):Hp:=(m, .lT t l .nZ)::cm [n] [] hp
def JK(P:Program)(ty:Tag→Nat)(Γ:Nat→TK)(st:St)(m0:Nat):Op→Option (List Prop×St×SV)
 | .call ⟨.builtin .append,xs,ts⟩=>match xs.toList,ts.toList with
   | [s,x],[t1,t2]=>match Γ t1,Nat.beq t1 t2 with
     | .sl t e,true=>match Nat.beq e (ty t),Nat.beq (kk t) 1,gf st [] s,gf st [] x with
       |true,true,some (.a (.yu n)),some (.a (.sl ZN lx))=>match look st.hp n,kg t ZN lx with
        |some (.lT t' l .nZ),some lx=>match kg t t' l,pinned [n],iA m0,look (cm [n] [] st.hp) m0 with
         |some l,false,false,none=>some ([El P ty t,(l.length+lx.length)*cN t≤140737488355328∧l.length+lx.length≤maxLen],
           ⟨st.n,st.sl.map fun e=>(e.1,e.2.bE [n] []),WA st.hp n m0 t (l++lx)⟩, .one (.a (.yu m0)))
         |_,_,_,_=>none
        |_,_=>none
       |_,_,_,_=>none
     |_,_=>none
   |_,_=>none
 |_=>none
section
variable{P:Program}{zb:cA}{st st':St}{a:Act}{w:World}{env:Env}{Q:Exit→Act→World→Prop}{o:Oper}
theorem Ac{α β:Type}(l:List α):(l.map fun _=>([]:List β)).flatten= []:=by
 induction l with
 |nil=>rfl
 |cons _ _ ih=>simpa using ih
theorem R6{Γ:Nat→TK}(C: ∀t,cw P t (Γ t)){m0:Nat}{vc:List Prop}{v:SV}(h:JK P ty Γ st m0 o.op=some (vc,st',v))(g:Good ty zb st a.tmps w env)(hB:zb.w.heap.size≤w.heap.size)(hv: ∀q,q∈vc→q):
  o.wp P a w (fun a' w'=> ∃u env',a'=a.put o.dst u∧Kept zb w w'∧Good ty zb st' a.tmps w' env'∧st'.n=st.n∧oC w' st'.hp env' a.tmps v u) Q:=by
 have hop: ∀{x v},gf st [] x=some v→fG w st.hp env v (a.eval x):=fun hx=>eg g (fun e he=>by simp at he) hx
 generalize fK:o.op=op at h
 cases op with
 |call c=>
  obtain⟨callee,xs,ts⟩:=c
  cases callee with
  |builtin b=>
   cases b with
   |append=>
    simp only[JK]at h
    split at h
    case h_2=>cases h
    rename_i s x t1 t2 hxl htl
    obtain rfl:xs= #[s,x]:=by cases xs;simp_all
    obtain rfl:ts= #[t1,t2]:=by cases ts;simp_all
    split at h
    case h_2=>cases h
    rename_i t e hk JF
    have JF:=Nat.eq_of_beq_eq_true JF
    subst JF
    split at h
    case h_2=>cases h
    rename_i n ZN R7 he hk1 hs hx
    have he:=Nat.eq_of_beq_eq_true he
    have hk1:=Nat.eq_of_beq_eq_true hk1
    split at h
    case h_2=>cases h
    rename_i t' l0 lx hl hcx
    split at h
    case h_2=>cases h
    rename_i l zZ hpk G7 hlk
    simp only[Option.some.injEq,Prod.mk.injEq]at h
    obtain⟨rfl,rfl,rfl⟩:=h
    obtain⟨e1,rfl⟩:=dW hcx
    subst e1
    obtain⟨e2,rfl⟩:=dW zZ
    subst e2
    have uJ:El P ty t':=hv _ (by simp)
    obtain⟨aD,aR⟩:(l0.length+R7.length)*cN t'≤140737488355328∧l0.length+R7.length≤maxLen:=hv _ (by simp)
    obtain⟨_,hu⟩:=hop hs
    obtain⟨fpx,hsx,hnx⟩:=hop hx
    obtain⟨_,us,ZO,Jz,DD⟩:=g.obj n _ hl
    obtain⟨news,fx,n1,n2,n3,n4,n5⟩:=wF (eT t') (kB t') hsx
    rw[hk1]at n3 n4
    have hC:=C t1
    rw[hk]at hC
    have hone: ∀(i:Nat) (y:Value),news[i]? =some y→y.oneCell'=true∧ ∀x,R7[i]? =some x→ ∃f,rd t' w [y] x f∧ ∀b,b∈f→ ¬Ow st.hp env b:=by
     intro i y hy
     have hi:i<news.length:=(List.getElem?_eq_some_iff.1 hy).1
     have hx':R7[i]? =some (R7[i]'(by omega)):=List.getElem?_eq_getElem (by omega)
     have hf':fx[i]? =some (fx[i]'(by omega)):=List.getElem?_eq_getElem (by omega)
     have hr:=n4 i _ _ hx' hf'
     have hch:(news.drop (i*1)).take 1= [y]:=by
      rw[Nat.mul_one,List.drop_eq_getElem_cons hi]
      have:news[i]=y:=(List.getElem?_eq_some_iff.1 hy).2
      rw[this];rfl
     rw[hch]at hr
     refine⟨(eT t').one hr y (by simp),fun x hx=> ?_⟩
     rw[hx']at hx
     simp only[Option.some.injEq]at hx
     subst hx
     exact⟨_,hr,fun b hb=>hnx b (n5.subset (List.mem_flatten.2 ⟨_,List.getElem_mem _,hb⟩))⟩
    have ZP:iR 1 Oe 0 (ty t') w (a.eval s) us (env n).fp:=by rw[hu];exact ZO
    have TW:(P.info? (ty t')).map (fun i=>(i.zero,i.size,i.bytes))=some (some (eM t'),1,cN t'):=by rw[←hk1];exact uJ
    refine Fc s x t1 fK wu (by decide) 0 (ty t') (eM t') (cN t') (by rw[←he];exact hC.1) TW (by rw[←hk1];exact pR t') _ us (env n).fp rfl ZP _ rfl news news (news.map fun _=> [])
     (by rw[show news.length=R7.length by omega];exact n1) (by simp) (by omega) (fun i y f hy hf=> ?_) (by rw[Ac,List.append_nil];exact ZO.own) (by rw[Jz,show news.length=R7.length by omega];exact aR) (by rw[Jz,show news.length=R7.length by omega];exact aD) (Nat.zero_le _) ?_
    ·have hi:i<news.length:=(List.getElem?_eq_some_iff.1 hy).1
     have JL:f= []:=by
      rw[List.getElem?_map,hy]at hf
      simpa using hf.symm
     subst JL
     refine⟨?_,rfl,(hone i y hy).1⟩
     rw[Nat.mul_one,List.drop_eq_getElem_cons hi]
     have:news[i]=y:=(List.getElem?_eq_some_iff.1 hy).2
     rw[this];rfl
    ·intro v' w' ga k1 k2 k3 k4 k5 _
     have Dv: ∀b,(a.eval s).ownBlock=some b→b∈(env n).fp:=by
      intro b hb
      obtain⟨xs,bk,_,_,_,gA,_⟩:=ZP
      rw[gA,hb];simp
     obtain⟨env',hg',Jh,_,_⟩:=yF (ty:=ty) g hB (ks:= [n]) hpk G7 hlk (v:=a.eval s) (v':=v') (ob:= .lT t' (l0++R7) .nZ) (fp:=(env n).fp) (fx:= []) (ga:=ga)
      (by
       intro b hb
       rw[List.append_nil]at hb
       exact⟨n,_,by simp,hl,hb⟩)
      Dv
      (by
       intro YG hd s2
       refine⟨hk1,us++news,k1,by rw[List.length_append,List.length_append,Jz];omega,fun i x u hx Tm=> ?_⟩
       by_cases hi:i<l0.length
       ·rw[List.getElem?_append_left hi]at hx
        rw[List.getElem?_append_left (by omega)]at Tm
        exact BE.iX s2 (r:= .nZ) (DD i x u hx Tm)
       ·rw[List.getElem?_append_right (by omega)]at hx
        rw[List.getElem?_append_right (by omega),Jz]at Tm
        exact BE.iX s2 (r:= .nZ) ((hone _ u Tm).2 x hx))
      k2 (by intro b hb;rcases k4 b hb with h|h|h
             ·exact Or.inl h
             ·rw[Ac]at h;cases h
             ·exact Or.inr (Or.inr h))
     refine⟨v',env',rfl,⟨k2.os,k2.tape,k2.output,k2.size,fun b hb hn=>k2.block b (by omega) fun e=> ?_,k5⟩,hg',rfl,⟨t',_,_,look_eq⟩,Jh.symm⟩
     rcases g.dom n _ hl b (Dv b e.symm)with h|h
     ·exact hn h
     ·omega
   |_=>simp[JK]at h
  |_=>simp[JK]at h
 |_=>simp[JK]at h
end
end
section
variable{ty:Tag→Nat}
def fV:V→Option V
 | .any=>some .any
 | .lit (.int k n)=>some (.lit (.int k n))
 | .lit (.bool b)=>some (.lit (.bool b))
 | .lit (.string s)=>some (.lit (.string s))
 | .lit v=>some (.lit v)
 | .sl t l=>some (.sl t l)
 | .own n=>some (.own n)
 | .ptr n o=>some (.ptr n o)
 | .lS n i o=>some (.lS n i o)
 | .ip t x o=>some (.ip t x o)
 | .vw n p t l=>some (.vw n p t l)
 | .Aw n p t x o=>some (.Aw n p t x o)
 | .AX n t l=>some (.AX n t l)
 | .mix n c t l=>some (.mix n c t l)
 | .yu n=>some (.yu n)
 | .yx f n=>some (.yx f n)
 | .tY k=>some (.tY k)
theorem Tn(v:V):fV v=some v:=by
 unfold fV;split<;>rfl
def VT:List V→Option (List V)
 | []=>some []
 |v::r=>match fV v,VT r with
  |some x,some y=>some (x::y)
  |_,_=>none
theorem JM: ∀l:List V,VT l=some l
 | []=>rfl
 |v::r=>by simp[VT,Tn,JM r]
def fS:SV→Option SV
 | .one (.a v)=>match fV v with|some v=>some (.one (.a v))|none=>none
 | .one (.agg l)=>match VT l with|some l=>some (.one (.agg l))|none=>none
 | .rC l=>some (.rC l)
 | .cond p (.a v)=>match fV v with|some v=>some (.cond p (.a v))|none=>none
 | .cond p (.agg l)=>match VT l with|some l=>some (.cond p (.agg l))|none=>none
theorem OV{x y:SV}(h:fS x=some y):y=x:=by
 unfold fS at h
 split at h<;>simp_all [Tn,JM]
def fO:Obj→Option Obj
 | .box c=>match VT c with|some c=>some (.box c)|none=>none
 | .arr t l=>some (.arr t l)
 | .lT t l .gone=>some (.lT t l .gone)
 | .lT t l .nZ=>some (.lT t l .nZ)
 | .lT t l (.of n)=>some (.lT t l (.of n))
theorem To{x y:Obj}(h:fO x=some y):y=x:=by
 unfold fO at h
 split at h<;>simp_all [JM]
def WB:List (Nat×SV)→Option (List (Nat×SV))
 | []=>some []
 | (n,x)::r=>match fS x,WB r with
   |some x,some r=>some ((n,x)::r)
   |_,_=>none
theorem OW: ∀{l m:List (Nat×SV)},WB l=some m→m=l
 | [],m,h=>by simp only[WB,Option.some.injEq]at h;exact h.symm
 | (n,x)::r,m,h=>by
   simp only[WB]at h
   split at h
   ·rename_i y r' h1 h2
    simp only[Option.some.injEq]at h
    rw[←h,OV h1,OW h2]
   ·cases h
def Uz:Hp→Option Hp
 | []=>some []
 | (n,x)::r=>match fO x,Uz r with
   |some x,some r=>some ((n,x)::r)
   |_,_=>none
theorem FH: ∀{l m:Hp},Uz l=some m→m=l
 | [],m,h=>by simp only[Uz,Option.some.injEq]at h;exact h.symm
 | (n,x)::r,m,h=>by
   simp only[Uz]at h
   split at h
   ·rename_i y r' h1 h2
    simp only[Option.some.injEq]at h
    rw[←h,To h1,FH h2]
   ·cases h
def MV:St→Option St
 | ⟨n,sl,hp⟩=>match WB sl,Uz hp with
   |some sl,some hp=>some ⟨n,sl,hp⟩
   |_,_=>none
theorem mK{s s':St}(h:MV s=some s'):s'=s:=by
 obtain⟨n,sl,hp⟩:=s
 simp only[MV]at h
 split at h
 ·rename_i a b h1 h2
  simp only[Option.some.injEq]at h
  rw[←h,OW h1,FH h2]
 ·cases h
def Tp:TypeDesc→Bool
 | .struct _=>false
 | .array _ _=>false
 |_=>true
def R8(P:Program)(t f k:Nat):Prop:= ∃fs fd d,P.underlying t=some (.struct fs)∧fs[f]? =some fd∧fd.offset=k∧P.underlying fd.type=some d∧Tp d=true
def OX(P:Program)(Γ:Nat→TK)(st:St):Op→Option (List Prop×St×SV)
 | .field t x f=>match gf st [] x,Γ t with
   |some (.agg c), .st _ _ fo=>match nu fo f with
    |some k=>match wm c k with
     |some v=>some ([R8 P t f k],st, .one (.a v))
     |none=>none
    |none=>none
   |_,_=>none
 |_=>none
theorem JN{P:Program}{t:TypeId}{d:TypeDesc}(h:P.underlying t=some d)(hd:Tp d=true)(w:World):(isAgg t).run P w= .ok false w:=by
 cases d<;>first| (cases hd;done)|simp[isAgg,run_underlying h]
section
variable{P:Program}{zb:cA}{st st':St}{a:Act}{w:World}{env:Env}{Q:Exit→Act→World→Prop}{o:Oper}
theorem R9{Γ:Nat→TK}{vc:List Prop}{v:SV}(h:OX P Γ st o.op=some (vc,st',v))(g:Good ty zb st a.tmps w env)(hv: ∀q,q∈vc→q):
  o.wp P a w (fun a' w'=> ∃u env',a'=a.put o.dst u∧Kept zb w w'∧Good ty zb st' a.tmps w' env'∧st'.n=st.n∧oC w' st'.hp env' a.tmps v u) Q:=by
 generalize fK:o.op=op at h
 cases op with
 |field t x f=>
  simp only[OX]at h
  split at h
  case h_2=>cases h
  rename_i c z tg fo hx hk
  split at h
  case h_2=>cases h
  rename_i k hf
  split at h
  case h_2=>cases h
  rename_i v' hel
  simp only[Option.some.injEq,Prod.mk.injEq]at h
  obtain⟨rfl,rfl,rfl⟩:=h
  obtain⟨fs,fd,d,h1,h2,h3,h4,h5⟩:=hv _ (List.mem_singleton.2 rfl)
  obtain⟨us,hu,hA⟩:=eg g (fun e he=>by simp at he) hx
  obtain⟨u,k1,k2⟩:=hA.at (Ft hel)
  have hr:(execOp a.eval o).run P w= .ok (.value u) w:=by
   unfold execOp
   simp[fK,hu,Instr.field,part,run_underlying h1,h2,h3,JN h4 h5,asAgg,k1]
  unfold Oper.wp
  rw[hr]
  exact⟨u,env,rfl,Kept.refl _ _,g,rfl,k2⟩
 |_=>simp[OX]at h
end
def OY(P:Program)(ty:Tag→Nat)(Γ:Nat→TK)(cr:List (Nat×CR))(st:St)(m:Nat)(d:Option Nat)(op:Op):Option (List Prop×St×SV):=
 match JE P ty Γ st m op with
 |some r=>some r
 |none=>match B6 P ty Γ st m op with
  |some r=>some r
  |none=>match XU P ty Γ cr st d op with
   |some r=>some r
   |none=>match XV P ty cr st d op with
    |some r=>some r
    |none=>match OQ P ty Γ cr st d op with
     |some r=>some r
     |none=>match Wp P ty Γ st op with
      |some r=>some r
      |none=>match OX P Γ st op with
       |some r=>some r
       |none=>JK P ty Γ st m op
def OZ(Γ:Nat→TK)(st:St)(op:Op):Option (List Prop×St):=
 match RW Γ st op with
 |some r=>some r
 |none=>XW Γ st op
def step(P:Program)(ty:Tag→Nat)(Γ:Nat→TK)(cO:List (Nat×Nat))(cr:List (Nat×CR))(ops:List Oper)(st:St)(o:Oper):Option (List Prop×St):=
 match Od Γ (Jc P ty) (Sound ty P) cO cr ops st o with
 |some r=>some r
 |none=>match o.guard,uI st o.dst,V7 cO o.dst with
  |none,true,some m=>match Fx Γ st o.op with
   |some st'=>match o.dst with|none=>some ([],st')|some _=>none
   |none=>match OZ Γ st o.op with
    |some (vc,st')=>match o.dst,MV st' with|none,some st'=>some (vc,st')|_,_=>none
    |none=>match OY P ty Γ cr st m o.dst o.op with
     |some (vc,st',v)=>match MV st' with|some st'=>some (vc,st'.put o.dst v)|none=>none
     |none=>none
  |_,_,_=>none
def run(P:Program)(ty:Tag→Nat)(Γ:Nat→TK)(cO:List (Nat×Nat))(cr:List (Nat×CR))(ops:List Oper):List Oper→St→List Prop→Option (List Prop×St)
 | [],st,acc=>some (acc,st)
 |o::r,st,acc=>match step P ty Γ cO cr ops st o with
  |some ([],⟨n,sl,hp⟩)=>run P ty Γ cO cr ops r ⟨n,sl,hp⟩ acc
  |some ([p],⟨n,sl,hp⟩)=>run P ty Γ cO cr ops r ⟨n,sl,hp⟩ (p::acc)
  |some ([p,q],⟨n,sl,hp⟩)=>run P ty Γ cO cr ops r ⟨n,sl,hp⟩ (p::q::acc)
  |some (l,⟨n,sl,hp⟩)=>run P ty Γ cO cr ops r ⟨n,sl,hp⟩ (l++acc)
  |none=>none
def ah:List Prop→Prop
 | []=>True
 |p::r=>p∧ah r
theorem ah.out: ∀{l:List Prop},ah l→ ∀q,q∈l→q
 |p::r,h,q,hq=>by
  rcases List.mem_cons.1 hq with rfl|hq
  ·exact h.1
  ·exact ah.out h.2 q hq
section
variable{P:Program}{zb:cA}{st st':St}{a:Act}{w:World}{Q:Exit→Act→World→Prop}{o:Oper}
theorem nC{v:SV}{d:Nat}(h: ∃x,v= .one x):v.mentions d=false:=by
 obtain⟨x,rfl⟩:=h;rfl
theorem oF.mono{ops:Array Oper}{K K':Act→World→Prop}(h: ∀a w,K a w→K' a w)(hr:oF P ops o a w K Q):oF P ops o a w K' Q:=by
 unfold oF at*
 split
 ·rename_i hw;rw[if_pos hw]at hr;exact hr.imp (Oper.wp_mono h) id
 ·rename_i hw;rw[if_neg hw]at hr;exact h _ _ hr
theorem O0{Γ:Nat→TK}(C: ∀t,cw P t (Γ t)){cr:List (Nat×CR)}{m:Nat}{vc:List Prop}{v:SV}{env:Env}{d:Option Nat}(h:OY P ty Γ cr st m d o.op=some (vc,st',v))(g:Good ty zb st a.tmps w env)(hB:zb.w.heap.size≤w.heap.size)(hA:Fp zb)(hN:D6 w)(hv: ∀q,q∈vc→q):
  (∀k,v.mentions k=false)∧o.wp P a w (fun a' w'=> ∃u env',a'=a.put o.dst u∧Kept zb w w'∧Good ty zb st' a.tmps w' env'∧st'.n=st.n∧oC w' st'.hp env' a.tmps v u) Q:=by
 have one:(∃x,v= .one x)→ ∀k,v.mentions k=false:=fun hx k=>nC hx
 unfold OY at h
 split at h
 ·rename_i r he
  simp only[Option.some.injEq]at h
  subst h
  refine⟨one ?_,RU C he g hB hv⟩
  unfold JE at he
  repeat' split at he
  all_goals first
   | (cases he;done)
   | (simp only[Option.some.injEq,Prod.mk.injEq]at he;exact⟨_,he.2.2.symm⟩)
 ·split at h
  ·rename_i r he
   simp only[Option.some.injEq]at h
   subst h
   refine⟨one ?_,MN C he g hB hv⟩
   unfold B6 at he
   repeat' split at he
   all_goals first
    | (cases he;done)
    | (simp only[Option.some.injEq,Prod.mk.injEq]at he;exact⟨_,he.2.2.symm⟩)
  ·split at h
   ·rename_i r he
    simp only[Option.some.injEq]at h
    subst h
    refine⟨one ?_,Ul he g hB hA hN hv⟩
    unfold XU at he
    repeat' split at he
    all_goals first
     | (cases he;done)
     | (simp only[Option.some.injEq,Prod.mk.injEq]at he;exact⟨_,he.2.2.symm⟩)
   ·split at h
    ·rename_i r he
     simp only[Option.some.injEq]at h
     subst h
     refine⟨one ?_,Ur (Γ:=Γ) he g hB hA hN hv⟩
     unfold XV at he
     repeat' split at he
     all_goals first
      | (cases he;done)
      | (simp only[Option.some.injEq,Prod.mk.injEq]at he;exact⟨_,he.2.2.symm⟩)
    ·split at h
     ·rename_i r he
      simp only[Option.some.injEq]at h
      subst h
      exact R4 he g hB hA hN hv
     ·split at h
      ·rename_i r he
       simp only[Option.some.injEq]at h
       subst h
       refine⟨one ?_,Uu C he g hB hv⟩
       unfold Wp at he
       repeat' split at he
       all_goals first
        | (cases he;done)
        | (simp only[Option.some.injEq,Prod.mk.injEq]at he;exact⟨_,he.2.2.symm⟩)
      ·split at h
       ·rename_i r he
        simp only[Option.some.injEq]at h
        subst h
        refine⟨one ?_,R9 he g hv⟩
        unfold OX at he
        repeat' split at he
        all_goals first
         | (cases he;done)
         | (simp only[Option.some.injEq,Prod.mk.injEq]at he;exact⟨_,he.2.2.symm⟩)
       ·refine⟨one ?_,R6 C h g hB hv⟩
        unfold JK at h
        repeat' split at h
        all_goals first
         | (cases h;done)
         | (simp only[Option.some.injEq,Prod.mk.injEq]at h;exact⟨_,h.2.2.symm⟩)
theorem O1{Γ:Nat→TK}(C: ∀t,cw P t (Γ t))(Z: ∀t,(∀z tg fo,Γ t≠ .st z tg fo)→Γ t≠ .other→(P.info? t).map (·.size)=some 1){vc:List Prop}{env:Env}(h:OZ Γ st o.op=some (vc,st'))(g:Good ty zb st a.tmps w env)(hB:zb.w.heap.size≤w.heap.size)(hv: ∀q,q∈vc→q):
  o.wp P a w (fun a' w'=> ∃env',a'=a.put o.dst undef∧Kept zb w w'∧Good ty zb st' a.tmps w' env'∧st'.n=st.n) Q:=by
 unfold OZ at h
 split at h
 ·rename_i r hr
  simp only[Option.some.injEq]at h
  subst h
  exact RX C Z hr g hv
 ·exact Ut C Z h g hB hv
theorem A9{Γ:Nat→TK}(C: ∀t,cw P t (Γ t))(Z: ∀t,(∀z tg fo,Γ t≠ .st z tg fo)→Γ t≠ .other→(P.info? t).map (·.size)=some 1){cO:List (Nat×Nat)}{cr:List (Nat×CR)}{ops:List Oper}{vc:List Prop}(h:step P ty Γ cO cr ops st o=some (vc,st'))(iv:Inv ty zb st a w)(hv: ∀q,q∈vc→q):
  oF P ops.toArray o a w (fun a' w'=>Inv ty zb st' a' w') Q:=by
 simp only[step]at h
 split at h
 ·rename_i r hq
  simp only[Option.some.injEq]at h
  subst h
  exact OB C hq iv hv
 ·split at h
  ·rename_i m hg hd _
   have wE:=JA iv hd
   obtain⟨env,g⟩:=iv.good
   have Ub:=iv.kept.size
   split at h
   ·rename_i s1 hs
    split at h
    ·rename_i UA
     simp only[Option.some.injEq,Prod.mk.injEq]at h
     obtain⟨rfl,rfl⟩:=h
     refine iW hg (Oper.wp_mono ?_ (MK (Q:=Q) C Z hs g))
     rintro a' w' ⟨rfl,hb,hg',hn,rM⟩
     rw[UA]
     exact⟨by rw[gB,hn];exact iv.size,by rw[put_defers];exact iv.defers,iv.kept.trans hb,iv.A3,env,hg'⟩
    ·cases h
   ·split at h
    ·rename_i oc s1 hs
     split at h
     ·rename_i s2 UA hfs
      have hfs:=mK hfs
      subst hfs
      simp only[Option.some.injEq,Prod.mk.injEq]at h
      obtain⟨rfl,rfl⟩:=h
      refine iW hg (Oper.wp_mono ?_ (O1 (Q:=Q) C Z hs g Ub hv))
      rintro a' w' ⟨env',rfl,hb,hg',hn⟩
      rw[UA]
      exact⟨by rw[gB,hn];exact iv.size,by rw[put_defers];exact iv.defers,iv.kept.trans hb,iv.A3,env',hg'⟩
     ·cases h
    ·split at h
     ·rename_i oc s1 v he
      split at h
      case h_2=>cases h
      rename_i s2 hfs
      have hfs:=mK hfs
      subst hfs
      simp only[Option.some.injEq,Prod.mk.injEq]at h
      obtain⟨rfl,rfl⟩:=h
      obtain⟨Jf,hwp⟩:=O0 (Q:=Q) C he g Ub iv.A3 (iv.A3.now iv.kept) hv
      refine iW hg (Oper.wp_mono ?_ hwp)
      rintro a' w' ⟨u,env',rfl,hb,hg',hn,hr⟩
      refine⟨by rw[gB,wD,hn];exact iv.size,by rw[put_defers];exact iv.defers,iv.kept.trans hb,iv.A3,env',oE hg' wE hr fun d _=>Jf d⟩
     ·cases h
  ·cases h
theorem tN{Γ:Nat→TK}{cO:List (Nat×Nat)}{cr:List (Nat×CR)}{ops:List Oper}{r:List Oper}{acc vcs:List Prop}{rN:St}(h:run P ty Γ cO cr ops (o::r) st acc=some (vcs,rN)):
  ∃vc AB,step P ty Γ cO cr ops st o=some (vc,AB)∧run P ty Γ cO cr ops r AB (vc++acc)=some (vcs,rN):=by
 simp only[run]at h
 split at h
 ·rename_i n sl hp hs;exact⟨[],⟨n,sl,hp⟩,hs,h⟩
 ·rename_i p n sl hp hs;exact⟨[p],⟨n,sl,hp⟩,hs,h⟩
 ·rename_i p q n sl hp hs;exact⟨[p,q],⟨n,sl,hp⟩,hs,h⟩
 ·rename_i l n sl hp _ _ _ hs;exact⟨_,⟨n,sl,hp⟩,hs,h⟩
 ·cases h
theorem p7{Γ:Nat→TK}{cO:List (Nat×Nat)}{cr:List (Nat×CR)}{ops:List Oper}: ∀{l:List Oper} {st rN:St} {acc vcs:List Prop},run P ty Γ cO cr ops l st acc=some (vcs,rN)→ ∀q,q∈acc→q∈vcs
 | [],st,rN,acc,vcs,h,q,hq=>by
   simp only[run,Option.some.injEq,Prod.mk.injEq]at h
   rw[←h.1];exact hq
 |o::r,st,rN,acc,vcs,h,q,hq=>by
  obtain⟨vc,AB,_,h2⟩:=tN h
  exact p7 h2 q (List.mem_append_right _ hq)
theorem JO{Γ:Nat→TK}(C: ∀t,cw P t (Γ t))(Z: ∀t,(∀z tg fo,Γ t≠ .st z tg fo)→Γ t≠ .other→(P.info? t).map (·.size)=some 1){cO:List (Nat×Nat)}{cr:List (Nat×CR)}{ops:List Oper}{rN:St}{vcs:List Prop}
  (hQ: ∀a w,Inv ty zb rN a w→Q .normal a w): ∀{l:List Oper} {st:St} {acc:List Prop} {a:Act} {w:World},run P ty Γ cO cr ops l st acc=some (vcs,rN)→(∀q,q∈vcs→q)→Inv ty zb st a w→wpList P ops.toArray Q l a w
 | [],st,acc,a,w,h,hv,iv=>by
   simp only[run,Option.some.injEq,Prod.mk.injEq]at h
   obtain⟨_,rfl⟩:=h
   exact hQ a w iv
 |o::r,st,acc,a,w,h,hv,iv=>by
  obtain⟨vc,AB,h1,h2⟩:=tN h
  have:=A9 (Q:=Q) C Z h1 iv (fun q hq=>hv q (p7 h2 q (List.mem_append_left _ hq)))
  exact this.mono fun a' w' lU=>JO C Z hQ h2 hv lU
end
abbrev Post:=Exit→St→Prop
def Ci(ty:Tag→Nat)(zb:cA)(Q:Post):Exit→Act→World→Prop:=fun e a w=> ∃st,Inv ty zb st a w∧Q e st
def W(P:Program)(ty:Tag→Nat)(zb:cA)(c:Code)(Q:Post)(st:St):Prop:= ∀a w,Inv ty zb st a w→c.wp P (Ci ty zb Q) a w
def Post.then(next:St→Prop)(Q:Post):Post
 | .normal,st=>next st
 |e,st=>Q e st
def Post.inBlock(id:Nat)(Q:Post):Post
 | .exit i,st=>if i=id then Q .normal st else Q (.exit i) st
 |e,st=>Q e st
def Ad(sl:List (Nat×SV)):List Nat→Option (List (Nat×SV))
 | []=>some []
 |s::r=>match look sl s with
  |some x=>match fS x,Ad sl r with
   |some x,some l=>some ((s,x)::l)
   |_,_=>none
  |none=>none
def Ae(hp:Hp):List Nat→Option Hp
 | []=>some []
 |s::r=>match look hp s with
  |some x=>match fO x,Ae hp r with
   |some x,some l=>some ((s,x)::l)
   |_,_=>none
  |none=>none
def lV(hp:Hp)(v:V):Bool:=match v.name with|some n=>(match look hp n with|some _=>true|none=>false)|none=>true
def p8(hp:Hp):S1→Bool
 | .a v=>lV hp v
 | .agg l=>l.all (lV hp)
def K7(hp:Hp):SV→Bool
 | .one x=>p8 hp x
 | .rC l=>l.all (p8 hp)
 | .cond _ x=>p8 hp x
def wO(hp:Hp):Obj→Bool
 | .box c=>c.all (lV hp)
 | .arr _ _=>true
 | .lT _ _ s=>match s.name with|some n=>(match look hp n with|some _=>true|none=>false)|none=>true
def p9(sl:List (Nat×SV))(hp:Hp):Bool:=(sl.all fun e=>K7 hp e.2)&&hp.all fun e=>wO hp e.2
def V.Sa(v:V):List Nat:=match v.name with|some n=> [n]|none=> []
def SV.Sa:SV→List Nat
 | .one (.a v)=>v.Sa
 | .one (.agg l)=>l.flatMap V.Sa
 | .rC l=>l.flatMap fun x=>(match x with| .a v=>v.Sa| .agg l=>l.flatMap V.Sa)
 | .cond _ (.a v)=>v.Sa
 | .cond _ (.agg l)=>l.flatMap V.Sa
def JP:Nat→Hp→List Nat→List Nat→List Nat
 |0,_,_,acc=>acc
 |_,_,[],acc=>acc
 |f+1,hp,n::r,acc=>match acc.any (Nat.beq n)with
  |true=>JP f hp r acc
  |false=>JP f hp (match look hp n with|some (.box c)=>c.flatMap V.Sa++r|some (.lT _ _ (.of m))=>m::r|_=>r) (acc++ [n])
def FI(sl:List (Nat×SV)):List Nat→List Nat
 | []=> []
 |s::r=>match look sl s with|some x=>x.Sa++FI sl r|none=>FI sl r
def K8(sl:List (Nat×SV))(hp:Hp)(ks:List Nat):List Nat→List Nat
 | []=>JP 300 hp (FI sl ks++(hp.map Prod.fst).filter iA) []
 |hs=>hs
def fH(P:Program)(ty:Tag→Nat)(Γ:Nat→TK)(cO:List (Nat×Nat))(cr:List (Nat×CR))(ks hs:List Nat)(ops:List Oper):St→Option (List Prop×St)
 | ⟨n,NO,fQ⟩=>match run P ty Γ cO cr ops ops ⟨n,NO,fQ⟩ []with
 |some (vc,st')=>match Ad st'.sl ks,Ae st'.hp (K8 st'.sl st'.hp ks hs)with
  |some sl,some hp=>match p9 sl hp,Nat.beq st'.n n with
   |true,true=>some (vc,⟨n,sl,hp⟩)
   |_,_=>none
  |_,_=>none
 |none=>none
theorem kD{sl:List (Nat×SV)}: ∀{ks:List Nat} {l:List (Nat×SV)},Ad sl ks=some l→ ∀s v,look l s=some v→look sl s=some v
 | [],l,h,s,v,hl=>by
   simp only[Ad,Option.some.injEq]at h
   subst h;cases hl
 |k::r,l,h,s,v,hl=>by
  simp only[Ad]at h
  split at h
  ·rename_i x0 h1
   split at h
   ·rename_i x l' hf h2
    simp only[Option.some.injEq]at h
    subst h
    by_cases hs:s=k
    ·subst hs;rw[look_eq]at hl;rw[←hl,OV hf];exact h1
    ·rw[aW hs]at hl;exact kD h2 s v hl
   ·cases h
  ·cases h
theorem kE{hp:Hp}: ∀{ks:List Nat} {l:Hp},Ae hp ks=some l→ ∀s v,look l s=some v→look hp s=some v
 | [],l,h,s,v,hl=>by
   simp only[Ae,Option.some.injEq]at h
   subst h;cases hl
 |k::r,l,h,s,v,hl=>by
  simp only[Ae]at h
  split at h
  ·rename_i x0 h1
   split at h
   ·rename_i x l' hf h2
    simp only[Option.some.injEq]at h
    subst h
    by_cases hs:s=k
    ·subst hs;rw[look_eq]at hl;rw[←hl,To hf];exact h1
    ·rw[aW hs]at hl;exact kE h2 s v hl
   ·cases h
  ·cases h
theorem tO{hp:Hp}{v:V}(h:lV hp v=true): ∀n,v.name=some n→look hp n≠none:=by
 intro n hn hl
 simp[lV,hn,hl]at h
theorem uY{hp:Hp}{x:S1}(h:p8 hp x=true): ∀v,v∈x.vs→lV hp v=true:=by
 intro v hv
 cases x with
 |a y=>simp only[S1.vs,List.mem_singleton]at hv;subst hv;exact h
 |agg l=>exact List.all_eq_true.1 h v hv
theorem JQ{hp:Hp}{x:SV}(h:K7 hp x=true): ∀v,v∈x.vs→lV hp v=true:=by
 intro v hv
 cases x with
 |one x=>exact uY h v hv
 |rC l=>
  simp only[SV.vs,List.mem_flatMap]at hv
  obtain⟨y,hy,hv⟩:=hv
  exact uY (List.all_eq_true.1 h y hy) v hv
 |cond p x=>exact uY h v hv
theorem Good.weaken{zb:cA}{st st':St}{tmps:Array Value}{w:World}{env:Env}(g:Good ty zb st tmps w env)(hs: ∀s v,look st'.sl s=some v→look st.sl s=some v)(hh: ∀n o,look st'.hp n=some o→look st.hp n=some o)
  (pX: ∀s v,look st'.sl s=some v→ ∀x,x∈v.vs→lV st'.hp x=true)(Ji: ∀m o,look st'.hp m=some o→wO st'.hp o=true):Good ty zb st' tmps w env:=by
 have s:Step (fun n=>look st'.hp n≠none) (fun n=>look st'.hp n≠none) w st.hp env w st'.hp env:=by
  refine⟨fun _ _ _=>rfl,?_,?_,?_⟩
  ·rintro b _ ⟨n,o,h1,h2⟩;exact⟨n,o,hh n o h1,h2⟩
  ·intro n o hK h1
   cases hq:look st'.hp n with
   |none=>exact absurd hq hK
   |some o'=>
    have:=hh n o' hq
    rw[h1]at this
    simp only[Option.some.injEq]at this
    subst this
    exact⟨o,rfl,by cases o<;>simp[Obj.like],rfl⟩
  ·intro n t l hK h1
   cases hq:look st'.hp n with
   |none=>exact absurd hq hK
   |some o'=>
    have:=hh n o' hq
    rw[h1]at this
    simp only[Option.some.injEq]at this
    subst this
    exact⟨rfl,rfl,fun _ _=>rfl⟩
 have WC: ∀v,lV st'.hp v=true→v.rF (fun n=>look st'.hp n≠none) (fun n=>look st'.hp n≠none):=fun v h=>⟨fun n hn=>tO h n hn,fun n hn=>tO h n (V.oD hn)⟩
 refine⟨fun n o hl=> ?_,fun n m o o' hne h1 h2=>g.kj n m o o' hne (hh n o h1) (hh m o' h2),fun t v hl=>oC.step s (fun x hx=>WC x (pX t v hl x hx)) (g.slot t v (hs t v hl)),fun n o hl=>g.dom n o (hh n o hl),g.pins⟩
 refine(g.obj n o (hh n o hl)).step s ?_ (fun _ _=>rfl)
 have hO:=Ji n o hl
 cases o with
 |box c=>exact fun v hv=>WC v (List.all_eq_true.1 hO v hv)
 |arr t l=>trivial
 |lT t l r=>
  intro m hm
  simp only[wO,hm]at hO
  intro he
  rw[he]at hO
  cases hO
theorem JR{sl:List (Nat×SV)}{hp:Hp}(h:p9 sl hp=true):(∀s v,look sl s=some v→ ∀x,x∈v.vs→lV hp x=true)∧(∀m o,look hp m=some o→wO hp o=true):=by
 simp only[p9,Bool.and_eq_true,List.all_eq_true]at h
 exact⟨fun s v hl=>JQ (h.1 _ (eU hl)),fun m o hl=>h.2 _ (eU hl)⟩
theorem Inv.weaken{zb:cA}{st st':St}{a:Act}{w:World}(iv:Inv ty zb st a w)(hn:st'.n=st.n)(hs: ∀s v,look st'.sl s=some v→look st.sl s=some v)(hh: ∀n o,look st'.hp n=some o→look st.hp n=some o)(hc:p9 st'.sl st'.hp=true):Inv ty zb st' a w:=by
 obtain⟨env,g⟩:=iv.good
 obtain⟨c1,c2⟩:=JR hc
 exact⟨by rw[iv.size,hn],iv.defers,iv.kept,iv.A3,env,g.weaken hs hh c1 c2⟩
structure Ctx(P:Program)(ty:Tag→Nat)(Γ:Nat→TK):Prop where
 kind: ∀t,cw P t (Γ t)
 one: ∀t,(∀z tg fo,Γ t≠ .st z tg fo)→Γ t≠ .other→(P.info? t).map (·.size)=some 1
section
variable{P:Program}{Γ:Nat→TK}{zb:cA}{Q:Post}{st:St}
theorem MW{cO:List (Nat×Nat)}{cr:List (Nat×CR)}{ks hs:List Nat}{ops:List Oper}{vc:List Prop}{st':St}(h:fH P ty Γ cO cr ks hs ops st=some (vc,st')): ∃s1,run P ty Γ cO cr ops ops st []=some (vc,s1)∧
  ∀a w,Inv ty zb s1 a w→Inv ty zb st' a w:=by
 obtain⟨n,NO,fQ⟩:=st
 simp only[fH]at h
 split at h
 ·rename_i oc s1 hr
  split at h
  ·rename_i sl hp h1 h2
   split at h
   ·rename_i hc hn
    simp only[Option.some.injEq,Prod.mk.injEq]at h
    obtain⟨rfl,rfl⟩:=h
    exact⟨s1,hr,fun a w iv=>iv.weaken (Nat.eq_of_beq_eq_true hn).symm (kD h1) (kE h2) hc⟩
   ·cases h
  ·cases h
 ·cases h
theorem W.fH(X:Ctx P ty Γ)(cO:List (Nat×Nat))(cr:List (Nat×CR))(ks hs:List Nat){id:Nat}{ops:List Oper}{vc:List Prop}{st':St}(h:fH P ty Γ cO cr ks hs ops st=some (vc,st'))(hv:ah vc)(k:Q .normal st'):W P ty zb (.region id ops.toArray false) Q st:=by
 intro a w iv
 obtain⟨s1,h1,h2⟩:=MW (zb:=zb) h
 exact wp_region_lit (JO X.kind X.one (fun a w lU=>⟨st',h2 a w lU,k⟩) h1 hv.out iv)
theorem W.r0(X:Ctx P ty Γ)(ks:List Nat){id:Nat}{ops:List Oper}{vc:List Prop}{st':St}(h:G.fH P ty Γ [] [] ks [] ops st=some (vc,st'))(hv:ah vc)(k:Q .normal st'):W P ty zb (.region id ops.toArray false) Q st:=W.fH X [] [] ks [] h hv k
theorem W.seq{x y:Code}(h:W P ty zb x (Post.then (W P ty zb y Q) Q) st):W P ty zb (.seq x y) Q st:=by
 intro a w iv
 refine wp_seq (wp_mono (h a w iv) ?_)
 rintro e a' w' ⟨st',lU,hq⟩
 cases e with
 |normal=>exact hq a' w' lU
 |_=>exact⟨st',lU,hq⟩
theorem W.sr(X:Ctx P ty Γ)(cO:List (Nat×Nat))(cr:List (Nat×CR))(ks hs:List Nat){y:Code}{id:Nat}{ops:List Oper}{vc:List Prop}{st':St}(h:G.fH P ty Γ cO cr ks hs ops st=some (vc,st'))(hv:ah vc)(k:W P ty zb y Q st'):W P ty zb (.seq (.region id ops.toArray false) y) Q st:=W.seq (W.fH X cO cr ks hs h hv k)
theorem W.s0(X:Ctx P ty Γ)(ks:List Nat){y:Code}{id:Nat}{ops:List Oper}{vc:List Prop}{st':St}(h:G.fH P ty Γ [] [] ks [] ops st=some (vc,st'))(hv:ah vc)(k:W P ty zb y Q st'):W P ty zb (.seq (.region id ops.toArray false) y) Q st:=W.sr X [] [] ks [] h hv k
theorem W.skip(h:Q .normal st):W P ty zb .skip Q st:=fun _ _ iv=>wp_skip ⟨st,iv,h⟩
theorem W.exit{id:Nat}(h:Q (.exit id) st):W P ty zb (.exit id) Q st:=fun _ _ iv=>wp_exit ⟨st,iv,h⟩
theorem W.ret(h:Q .ret st):W P ty zb .ret Q st:=fun _ _ iv=>wp_ret ⟨st,iv,h⟩
theorem W.block{id:Nat}{c:Code}(h:W P ty zb c (Post.inBlock id Q) st):W P ty zb (.block id c) Q st:=by
 intro a w iv
 refine wp_block (wp_mono (h a w iv) ?_)
 rintro e a' w' ⟨st',lU,hq⟩
 cases e with
 |exit i=>
  simp only[Post.inBlock]at hq
  simp only[Exit.inBlock]
  split
  ·rename_i hi;rw[if_pos hi]at hq;exact⟨st',lU,hq⟩
  ·rename_i hi;rw[if_neg hi]at hq;exact⟨st',lU,hq⟩
 |_=>exact⟨st',lU,hq⟩
theorem W.cond{c:Operand}{x y:Code}{b:Bool}(hc:gf st [] c=some (.a (.lit (.bool b))))(h1:b=true→W P ty zb x Q st)(h2:b=false→W P ty zb y Q st):W P ty zb (.cond c x y) Q st:=by
 intro a w iv
 obtain⟨env,g⟩:=iv.good
 have:=(eg g (fun e he=>by simp at he) hc).lit
 exact wp_cond_split this (fun hb=>h1 hb a w iv) (fun hb=>h2 hb a w iv)
theorem W.loop{ι:Type}(p:ι→Prop)(I:ι→St)(μ:ι→Nat)(i:ι){c:Code}(hp:p i)(h0: ∀a w,Inv ty zb st a w→Inv ty zb (I i) a w)
  (round: ∀i,p i→W P ty zb c (Post.then (fun st'=> ∃j,p j∧μ j<μ i∧ ∀a w,Inv ty zb st' a w→Inv ty zb (I j) a w) Q) (I i)):W P ty zb (.loop c) Q st:=by
 intro a w iv b k cs
 have key: ∀n i a w,μ i=n→p i→Inv ty zb (I i) a w→ ∃e a' w',Ci ty zb Q e a' w'∧Arrives P (lone (b.at a (.code c:: .inLoop c::k)) cs w) b k cs e a' w':=by
  intro n
  induction n using Nat.strongRecOn with
  |_ n ih=>
   intro i a w hn hpi iv
   obtain⟨e,a₁,w₁,⟨st',lU,hq⟩,Hw⟩:=round i hpi a w iv b (.inLoop c::k) cs
   cases e with
   |normal=>
    obtain⟨j,WD,hlt,hj⟩:=hq
    obtain⟨e₂,a₂,w₂,hq₂,WE⟩:=ih (μ j) (hn▸hlt) j a₁ w₁ rfl WD (hj _ _ lU)
    exact⟨e₂,a₂,w₂,hq₂, .of_steps (Steps.trans Hw (.one step_inLoop)) WE⟩
   |exit id=>exact⟨_,a₁,w₁,⟨st',lU,hq⟩, .pass (x:= .inLoop c) rfl (fun _ _=> .inl (by simp)) Hw⟩
   |goto l=>exact⟨_,a₁,w₁,⟨st',lU,hq⟩, .pass (x:= .inLoop c) rfl (fun _ _=> .inl (by simp)) Hw⟩
   |ret=>exact⟨_,a₁,w₁,⟨st',lU,hq⟩, .pass (x:= .inLoop c) rfl (fun _ _=> .inl (by simp)) Hw⟩
   |panic ch=>exact⟨_,a₁,w₁,⟨st',lU,hq⟩, .pass (x:= .inLoop c) rfl (fun _ _=> .inl (by simp)) Hw⟩
   |outgrown=>exact⟨_,a₁,w₁,⟨st',lU,hq⟩, .pass (x:= .inLoop c) rfl (fun _ _=> .inl (by simp)) Hw⟩
 obtain⟨e,a',w',hq,Hw⟩:=key _ i a w rfl hp (h0 a w iv)
 exact⟨e,a',w',hq, .of_steps (.one step_loop) Hw⟩
def Tq:List (Nat×SV)→List (Nat×SV)→Option (List (Nat×SV))
 | [],_=>some []
 | (s,x)::r,ov=>match fS (match look ov s with|some y=>y|none=>x),Tq r ov with
   |some x,some l=>some ((s,x)::l)
   |_,_=>none
def Tr:Hp→Hp→Option Hp
 | [],_=>some []
 | (s,x)::r,ov=>match fO (match look ov s with|some y=>y|none=>x),Tr r ov with
   |some x,some l=>some ((s,x)::l)
   |_,_=>none
def over:St→List (Nat×SV)→Hp→Option St
 | ⟨n,sl,hp⟩,ov,oh=>match Tq sl ov,Tr hp oh with
   |some sl,some hp=>some ⟨n,sl,hp⟩
   |_,_=>none
theorem W.aI{ι:Type}(p:ι→Prop)(ov:ι→List (Nat×SV))(oh:ι→Hp)(μ:ι→Nat)(i:ι){c:Code}{I:ι→St}(_hI: ∀k,over st (ov k) (oh k)=some (I k))(hp:p i)(h0:I i=st)
  (round: ∀i,p i→W P ty zb c (Post.then (fun st'=> ∃j,p j∧μ j<μ i∧st'=I j) Q) (I i)):W P ty zb (.loop c) Q st:=by
 refine W.loop p I μ i hp (fun a w iv=>by rw[h0];exact iv) fun i hi=> ?_
 intro a w iv
 refine wp_mono (round i hi a w iv) ?_
 rintro e a' w' ⟨st',lU,hq⟩
 cases e with
 |normal=>
  obtain⟨j,h1,h2,rfl⟩:=hq
  exact⟨_,lU,j,h1,h2,fun a w h=>h⟩
 |_=>exact⟨st',lU,hq⟩
end
end
section
variable{ty:Tag→Nat}
def enter:Nat→List S1→List (Nat×SV)
 |_,[]=> []
 |i,x::r=>(i, .one x)::enter (i+1) r
def MX(Γ:Nat→TK)(st:St):ResultVar→Option S1
 | .tmp t=>match look st.sl t with|some (.one x)=>some x|_=>none
 | .cell p t=>match look st.sl p with
   |some (.one (.a (.ptr n 0)))=>match look st.hp n,Γ t with
    |some (.box c), .st z _ _=>match Nat.beq c.length z.length with|true=>some (.agg c)|false=>none
    |_,_=>none
   |_=>none
def rO(Γ:Nat→TK)(st:St):List ResultVar→Option (List S1)
 | []=>some []
 |r::rs=>match MX Γ st r,rO Γ st rs with|some x,some xs=>some (x::xs)|_,_=>none
def O2(st:St):V→V→Option (List Prop×List Nat)
 | .lit v, .lit u=>some ([v=u],[])
 | .lit (.slice none 0 0), .sl _ l=>some ([l= []],[])
 | .own n, .sl t l=>match look st.hp n,soft n with
   |some (.arr t' l'),false=>match kg t t' l' with
    |some l2=>some ([l2=l],[n])
    |none=>none
   |_,_=>none
 | .lit (.slice none 0 0), .vw _ _ _ l=>some ([l= []],[])
 | .own n, .vw _ _ t l=>match look st.hp n with
   |some (.arr t' l')=>match kg t t' l' with
    |some l2=>some ([l2=l],[n])
    |none=>none
   |_=>none
 | .vw n _ t' l', .vw _ _ t l=>match kg t t' l' with
   |some l2=>some ([l2=l],[n])
   |none=>none
 |_,_=>none
def meet(st:St):List V→List V→Option (List Prop×List Nat)
 | [],[]=>some ([],[])
 |x::r,y::s=>match O2 st x y,meet st r s with
  |some (vc,k),some (vcs,ks)=>some (mI vc vcs,mI k ks)
  |_,_=>none
 |_,_=>none
def K9(st:St):S1→S1→Option (List Prop×List Nat)
 | .a v, .a u=>meet st [v] [u]
 | .agg l, .agg m=>meet st l m
 |_,_=>none
def meets(st:St):List S1→List S1→Option (List Prop×List Nat)
 | [],[]=>some ([],[])
 |x::r,y::s=>match K9 st x y,meets st r s with
  |some (vc,k),some (vcs,ks)=>some (mI vc vcs,mI k ks)
  |_,_=>none
 |_,_=>none
def ends(Γ:Nat→TK)(st:St)(qI:List ResultVar)(rs:List S1):Option (List Prop):=
 match rO Γ st qI with
 |some xs=>match meets st xs rs with
  |some (vc,k)=>match og k with|true=>some vc|false=>none
  |none=>none
 |none=>none
def Fin(Γ:Nat→TK)(qI:List ResultVar)(rs:List S1):Post:=fun e st=>(e= .ret∨e= .normal)∧ ∃vc,ends Γ st qI rs=some vc∧ah vc
theorem Fin.ret{Γ:Nat→TK}{qI:List ResultVar}{rs:List S1}{st:St}{vc:List Prop}(h:ends Γ st qI rs=some vc)(hv:ah vc):Fin Γ qI rs .ret st:=⟨.inl rfl,vc,h,hv⟩
theorem Fin.normal{Γ:Nat→TK}{qI:List ResultVar}{rs:List S1}{st:St}{vc:List Prop}(h:ends Γ st qI rs=some vc)(hv:ah vc):Fin Γ qI rs .normal st:=⟨.inr rfl,vc,h,hv⟩
theorem iR.lift{α:Type}{k:Nat}{E:ER α}{lo e:Nat}{w:World}{v:Value}{l:List α}{fp:List Nat}(h:iR k E 0 e w v l fp)(hl: ∀b,b∈fp→lo≤b):iR k E lo e w v l fp:=by
 obtain⟨xs,bk,hown,hf,he,rfl,ho⟩:=h
 refine⟨xs,bk,⟨hown.1,?_⟩,hf,he,rfl,⟨ho.nodup,hl,ho.kind⟩⟩
 rcases hown.2 with h| ⟨g,cap,cur,rfl,VP,r⟩
 ·exact Or.inl h
 ·exact Or.inr ⟨g,cap,cur,rfl,hl g (by simp[Value.ownBlock]),r⟩
section
variable{P:Program}{zb:cA}{st:St}{a:Act}{w:World}{env:Env}
theorem uL{Γ:Nat→TK}(C: ∀t,cw P t (Γ t))(g:Good ty zb st a.tmps w env){r:ResultVar}{x:S1}(h:MX Γ st r=some x):
  ∃u,fG w st.hp env x u∧(match r with| .tmp t=>a.tmps.getD t undef=u| .cell p t=> ∃ad,a.tmps.getD p undef= .pointer (some ad)∧(loadVar t ad).run P w= .ok u w):=by
 cases r with
 |tmp t=>
  simp only[MX]at h
  split at h
  ·rename_i y hl
   simp only[Option.some.injEq]at h
   subst h
   exact⟨_,g.slot t _ hl,rfl⟩
  ·cases h
 |cell p t=>
  simp only[MX]at h
  split at h
  ·rename_i n hl
   split at h
   ·rename_i c z tg fo hb hk
    split at h
    ·rename_i hlen
     have hlen:=Nat.eq_of_beq_eq_true hlen
     simp only[Option.some.injEq]at h
     subst h
     obtain⟨_,b,hv,hu⟩:=g.slot p _ hl
     obtain⟨b',cs,e,GI,hh,hc⟩:=g.obj n _ hb
     have T9:b=b':=by rw[GI]at hv;simpa using hv.symm
     subst T9
     have hC:=C t
     rw[hk]at hC
     obtain⟨fs,Tm,hi,_⟩:=hC
     have hi':(P.info? t).map (·.size)=some cs.length:=by
      rw[hc.len,hlen]
      cases hq:P.info? t with
      |none=>simp[hq]at hi
      |some i=>simp[hq]at hi;simp[hi.1]
     refine⟨.agg cs.toArray,⟨cs,rfl,hc⟩,?_⟩
     have Az:w.rangeAt b 0 cs:=by simpa using Oa hh
     exact⟨_,hu,run_loadVar_mid w b 0 t cs _ Az Tm rfl hi'⟩
    ·cases h
   ·cases h
  ·cases h
theorem La(g:Good ty zb st a.tmps w env){k1 k2:List Nat}{f1 f2:List Nat}(hnd:(k1++k2).Nodup)(p2:Own zb.w.heap.size w f1)(p3: ∀b,b∈f1→ ∃i o,i∈k1∧look st.hp i=some o∧b∈(env i).fp)(q2:Own zb.w.heap.size w f2)(q3: ∀b,b∈f2→ ∃i o,i∈k2∧look st.hp i=some o∧b∈(env i).fp):
  Own zb.w.heap.size w (f1++f2)∧ ∀b,b∈f1++f2→ ∃i o,i∈k1++k2∧look st.hp i=some o∧b∈(env i).fp:=by
 obtain⟨n1,n2,n3⟩:=List.nodup_append.1 hnd
 refine⟨⟨List.nodup_append.2 ⟨p2.nodup,q2.nodup,?_⟩,fun b hb=> ?_,fun b hb=> ?_⟩,fun b hb=> ?_⟩
 ·rintro b hb z hz rfl
  obtain⟨n,o1,h1,h2,h3⟩:=p3 b hb
  obtain⟨m,o2,h4,h5,h6⟩:=q3 b hz
  exact g.kj n m _ _ (fun e=>n3 n h1 m h4 e) h2 h5 b h3 h6
 ·rcases List.mem_append.1 hb with hb|hb
  ·exact p2.ge b hb
  ·exact q2.ge b hb
 ·rcases List.mem_append.1 hb with hb|hb
  ·exact p2.kind b hb
  ·exact q2.kind b hb
 ·rcases List.mem_append.1 hb with hb|hb
  ·obtain⟨n,o1,h1,h2,h3⟩:=p3 b hb;exact⟨n,o1,List.mem_append_left _ h1,h2,h3⟩
  ·obtain⟨n,o1,h1,h2,h3⟩:=q3 b hb;exact⟨n,o1,List.mem_append_right _ h1,h2,h3⟩
theorem O3(hL:zb.L= [])(g:Good ty zb st a.tmps w env){x y:V}{u:Value}{vc:List Prop}{k:List Nat}(hr:RA w st.hp env x u)(h:O2 st x y=some (vc,k))(hv: ∀q,q∈vc→q):
  ∃fp,RB ty w zb.w.heap.size y u fp∧Own zb.w.heap.size w fp∧ ∀b,b∈fp→ ∃i o,i∈k∧look st.hp i=some o∧b∈(env i).fp:=by
 unfold O2 at h
 split at h
 ·simp only[Option.some.injEq,Prod.mk.injEq]at h
  obtain⟨rfl,rfl⟩:=h
  have hl:=hv _ (List.mem_singleton.2 rfl)
  obtain⟨rfl,ho⟩:=hr
  exact⟨[],⟨hl,hl▸ho,rfl⟩,Own.nil _ _,by simp⟩
 ·simp only[Option.some.injEq,Prod.mk.injEq]at h
  obtain⟨rfl,rfl⟩:=h
  have hl:=hv _ (List.mem_singleton.2 rfl)
  subst hl
  obtain⟨rfl,ho⟩:=hr
  exact⟨[],iR.nil _ _ _ _ _,Own.nil _ _,by simp⟩
 ·rename_i n t l
  split at h
  ·rename_i t' l' hl DC
   split at h
   ·rename_i l2 hc
    simp only[Option.some.injEq,Prod.mk.injEq]at h
    obtain⟨rfl,rfl⟩:=h
    have jr:=hv _ (List.mem_singleton.2 rfl)
    subst jr
    obtain⟨e,rfl⟩:=dW hc
    subst e
    obtain⟨_,rfl⟩:=hr
    have hb:=iR.lift (RO.KN DC (g.obj n _ hl)) (lo:=zb.w.heap.size) (fun b hb=>by
     rcases g.dom n _ hl b hb with h|h
     ·rw[hL]at h;cases h
     ·exact h)
    exact⟨(env n).fp,hb,hb.own,fun b hb=>⟨n,_,by simp,hl,hb⟩⟩
   ·cases h
  ·cases h
 ·simp only[Option.some.injEq,Prod.mk.injEq]at h
  obtain⟨rfl,rfl⟩:=h
  have hl:=hv _ (List.mem_singleton.2 rfl)
  subst hl
  obtain⟨rfl,ho⟩:=hr
  exact⟨[],⟨iR.sl (iR.nil _ _ 0 0 _),Own.nil _ _⟩,Own.nil _ _,by simp⟩
 ·rename_i n _ _ t l
  split at h
  ·rename_i t' l' hl
   split at h
   ·rename_i l2 hc
    simp only[Option.some.injEq,Prod.mk.injEq]at h
    obtain⟨rfl,rfl⟩:=h
    have jr:=hv _ (List.mem_singleton.2 rfl)
    subst jr
    obtain⟨e,rfl⟩:=dW hc
    subst e
    obtain⟨_,rfl⟩:=hr
    have hs:=RO.sl (g.obj n _ hl)
    have X1:=RO.own (g.obj n _ hl)
    have ho:Own zb.w.heap.size w (env n).fp:=⟨X1.nodup,fun b hb=>by
     rcases g.dom n _ hl b hb with h|h
     ·rw[hL]at h;cases h
     ·exact h,X1.kind⟩
    exact⟨(env n).fp,⟨hs,ho⟩,ho,fun b hb=>⟨n,_,by simp,hl,hb⟩⟩
   ·cases h
  ·cases h
 ·rename_i n _ t' l' _ _ t l
  split at h
  ·rename_i l2 hc
   simp only[Option.some.injEq,Prod.mk.injEq]at h
   obtain⟨rfl,rfl⟩:=h
   have jr:=hv _ (List.mem_singleton.2 rfl)
   subst jr
   obtain⟨e,rfl⟩:=dW hc
   subst e
   obtain⟨⟨t0,l0,hl⟩,⟨fp,hs,hnd,hsub⟩,_⟩:=hr
   have X1:=RO.own (g.obj n _ hl)
   have ho:Own zb.w.heap.size w fp:=⟨hnd,fun b hb=>by
    rcases g.dom n _ hl b (hsub b hb)with h|h
    ·rw[hL]at h;cases h
    ·exact h,fun b hb=>X1.kind b (hsub b hb)⟩
   exact⟨fp,⟨hs,ho⟩,ho,fun b hb=>⟨n,_,by simp,hl,hsub b hb⟩⟩
  ·cases h
 ·cases h
theorem FJ(hL:zb.L= [])(g:Good ty zb st a.tmps w env): ∀{xs ys:List V} {us:List Value} {vc:List Prop} {k:List Nat},bn (RA w st.hp env) xs us→meet st xs ys=some (vc,k)→k.Nodup→(∀q,q∈vc→q)→
  ∃fp,Oi ty w zb.w.heap.size ys us fp∧Own zb.w.heap.size w fp∧ ∀b,b∈fp→ ∃i o,i∈k∧look st.hp i=some o∧b∈(env i).fp
 | [],ys,us,vc,k,hr,h,hnd,hv=>by
   cases ys with
   |nil=>
    simp only[meet,Option.some.injEq,Prod.mk.injEq]at h
    obtain⟨rfl,rfl⟩:=h
    cases us with
    |nil=>exact⟨[],rfl,Own.nil _ _,by simp⟩
    |cons _ _=>exact hr.elim
   |cons y ys=>simp[meet]at h
 |x::r,ys,us,vc,k,hr,h,hnd,hv=>by
  cases us with
  |nil=>exact hr.elim
  |cons u us=>
   cases ys with
   |nil=>simp[meet]at h
   |cons y s=>
    simp only[meet]at h
    split at h
    ·rename_i oc k1 RZ k2 h1 h2
     simp only[Option.some.injEq,Prod.mk.injEq,eo]at h
     obtain⟨rfl,rfl⟩:=h
     obtain⟨n1,n2,n3⟩:=List.nodup_append.1 hnd
     obtain⟨f1,p1,p2,p3⟩:=O3 hL g hr.1 h1 (fun q hq=>hv q (List.mem_append_left _ hq))
     obtain⟨f2,q1,q2,q3⟩:=FJ hL g hr.2 h2 n2 (fun q hq=>hv q (List.mem_append_right _ hq))
     obtain⟨r1,r2⟩:=La g hnd p2 p3 q2 q3
     exact⟨f1++f2,⟨_,_,p1,q1,rfl⟩,r1,r2⟩
    ·cases h
theorem O4(hL:zb.L= [])(g:Good ty zb st a.tmps w env){x y:S1}{u:Value}{vc:List Prop}{k:List Nat}(hr:fG w st.hp env x u)(h:K9 st x y=some (vc,k))(hnd:k.Nodup)(hv: ∀q,q∈vc→q):
  ∃fp,Tg ty w zb.w.heap.size y u fp∧Own zb.w.heap.size w fp∧ ∀b,b∈fp→ ∃i o,i∈k∧look st.hp i=some o∧b∈(env i).fp:=by
 cases x with
 |a v=>
  cases y with
  |a v'=>exact FJ hL g (xs:= [v]) (us:= [u]) ⟨hr,trivial⟩ h hnd hv
  |agg _=>simp[K9]at h
 |agg l=>
  cases y with
  |a v'=>simp[K9]at h
  |agg m=>
   obtain⟨cs,rfl,hl⟩:=hr
   obtain⟨fp,h1,h2,h3⟩:=FJ hL g hl h hnd hv
   exact⟨fp,⟨cs,rfl,h1⟩,h2,h3⟩
theorem Hx(hL:zb.L= [])(g:Good ty zb st a.tmps w env): ∀{xs ys:List S1} {us:List Value} {vc:List Prop} {k:List Nat},bn (fG w st.hp env) xs us→meets st xs ys=some (vc,k)→k.Nodup→(∀q,q∈vc→q)→
  ∃fp,Rk ty w zb.w.heap.size ys us fp∧Own zb.w.heap.size w fp∧ ∀b,b∈fp→ ∃i o,i∈k∧look st.hp i=some o∧b∈(env i).fp
 | [],ys,us,vc,k,hr,h,hnd,hv=>by
   cases ys with
   |nil=>
    simp only[meets,Option.some.injEq,Prod.mk.injEq]at h
    obtain⟨rfl,rfl⟩:=h
    cases us with
    |nil=>exact⟨[],rfl,Own.nil _ _,by simp⟩
    |cons _ _=>exact hr.elim
   |cons y ys=>simp[meets]at h
 |x::r,ys,us,vc,k,hr,h,hnd,hv=>by
  cases us with
  |nil=>exact hr.elim
  |cons u us=>
   cases ys with
   |nil=>simp[meets]at h
   |cons y s=>
    simp only[meets]at h
    split at h
    ·rename_i oc k1 RZ k2 h1 h2
     simp only[Option.some.injEq,Prod.mk.injEq,eo]at h
     obtain⟨rfl,rfl⟩:=h
     obtain⟨n1,n2,n3⟩:=List.nodup_append.1 hnd
     obtain⟨f1,p1,p2,p3⟩:=O4 hL g hr.1 h1 n1 (fun q hq=>hv q (List.mem_append_left _ hq))
     obtain⟨f2,q1,q2,q3⟩:=Hx hL g hr.2 h2 n2 (fun q hq=>hv q (List.mem_append_right _ hq))
     obtain⟨r1,r2⟩:=La g hnd p2 p3 q2 q3
     exact⟨f1++f2,⟨_,_,p1,q1,rfl⟩,r1,r2⟩
    ·cases h
theorem Cj{Γ:Nat→TK}(C: ∀t,cw P t (Γ t))(g:Good ty zb st a.tmps w env){fn:Func}{qI:List ResultVar}(hf:fn.results=qI.toArray){xs:List S1}(h:rO Γ st qI=some xs)(hl:qI.length≤4):
  ∃us,bn (fG w st.hp env) xs us∧us.length=qI.length∧(results fn a.tmps).run P w= .ok (match us with| [u]=>u|us=> .tuple us.toArray) w:=by
 have one: ∀{r:ResultVar} {rs:List ResultVar} {xs:List S1},rO Γ st (r::rs)=some xs→ ∃y ys,xs=y::ys∧MX Γ st r=some y∧rO Γ st rs=some ys:=by
  intro r rs xs h
  simp only[rO]at h
  split at h
  ·rename_i y ys h1 h2
   simp only[Option.some.injEq]at h
   exact⟨y,ys,h.symm,h1,h2⟩
  ·cases h
 have nil: ∀{xs:List S1},rO Γ st []=some xs→xs= []:=by
  intro xs h
  simp only[rO,Option.some.injEq]at h
  exact h.symm
 match qI,hf,h,hl with
 | [],hf,h,_=>
   rw[nil h]
   exact⟨[],trivial,rfl,by simp[results,hf]⟩
 | [r1],hf,h,_=>
   obtain⟨y1,ys,rfl,h1,h⟩:=one h
   rw[nil h]
   obtain⟨u1,k1,e1⟩:=uL C g h1
   refine⟨[u1],⟨k1,trivial⟩,rfl,?_⟩
   cases r1
   ·have e1:a.tmps.getD _ undef=u1:=e1
    rw[Array.getD_eq_getD_getElem?]at e1
    simp[results,hf,asAddr,e1]
   ·obtain⟨_,p1,e1⟩:=e1
    rw[Array.getD_eq_getD_getElem?]at p1
    simp[results,hf,asAddr,e1,p1]
 | [r1,r2],hf,h,_=>
   obtain⟨y1,ys,rfl,h1,h⟩:=one h
   obtain⟨y2,ys,rfl,h2,h⟩:=one h
   rw[nil h]
   obtain⟨u1,k1,e1⟩:=uL C g h1
   obtain⟨u2,k2,e2⟩:=uL C g h2
   refine⟨[u1,u2],⟨k1,k2,trivial⟩,rfl,?_⟩
   cases r1<;>cases r2
   ·have e1:a.tmps.getD _ undef=u1:=e1
    rw[Array.getD_eq_getD_getElem?]at e1
    have e2:a.tmps.getD _ undef=u2:=e2
    rw[Array.getD_eq_getD_getElem?]at e2
    simp[results,hf,asAddr,e1,e2]
   ·have e1:a.tmps.getD _ undef=u1:=e1
    rw[Array.getD_eq_getD_getElem?]at e1
    obtain⟨_,p2,e2⟩:=e2
    rw[Array.getD_eq_getD_getElem?]at p2
    simp[results,hf,asAddr,e1,e2,p2]
   ·obtain⟨_,p1,e1⟩:=e1
    rw[Array.getD_eq_getD_getElem?]at p1
    have e2:a.tmps.getD _ undef=u2:=e2
    rw[Array.getD_eq_getD_getElem?]at e2
    simp[results,hf,asAddr,e1,e2,p1]
   ·obtain⟨_,p1,e1⟩:=e1
    rw[Array.getD_eq_getD_getElem?]at p1
    obtain⟨_,p2,e2⟩:=e2
    rw[Array.getD_eq_getD_getElem?]at p2
    simp[results,hf,asAddr,e1,e2,p1,p2]
 | [r1,r2,r3],hf,h,_=>
   obtain⟨y1,ys,rfl,h1,h⟩:=one h
   obtain⟨y2,ys,rfl,h2,h⟩:=one h
   obtain⟨y3,ys,rfl,h3,h⟩:=one h
   rw[nil h]
   obtain⟨u1,k1,e1⟩:=uL C g h1
   obtain⟨u2,k2,e2⟩:=uL C g h2
   obtain⟨u3,k3,e3⟩:=uL C g h3
   refine⟨[u1,u2,u3],⟨k1,k2,k3,trivial⟩,rfl,?_⟩
   cases r1<;>cases r2<;>cases r3
   ·have e1:a.tmps.getD _ undef=u1:=e1
    rw[Array.getD_eq_getD_getElem?]at e1
    have e2:a.tmps.getD _ undef=u2:=e2
    rw[Array.getD_eq_getD_getElem?]at e2
    have e3:a.tmps.getD _ undef=u3:=e3
    rw[Array.getD_eq_getD_getElem?]at e3
    simp[results,hf,asAddr,e1,e2,e3]
   ·have e1:a.tmps.getD _ undef=u1:=e1
    rw[Array.getD_eq_getD_getElem?]at e1
    have e2:a.tmps.getD _ undef=u2:=e2
    rw[Array.getD_eq_getD_getElem?]at e2
    obtain⟨_,p3,e3⟩:=e3
    rw[Array.getD_eq_getD_getElem?]at p3
    simp[results,hf,asAddr,e1,e2,e3,p3]
   ·have e1:a.tmps.getD _ undef=u1:=e1
    rw[Array.getD_eq_getD_getElem?]at e1
    obtain⟨_,p2,e2⟩:=e2
    rw[Array.getD_eq_getD_getElem?]at p2
    have e3:a.tmps.getD _ undef=u3:=e3
    rw[Array.getD_eq_getD_getElem?]at e3
    simp[results,hf,asAddr,e1,e2,e3,p2]
   ·have e1:a.tmps.getD _ undef=u1:=e1
    rw[Array.getD_eq_getD_getElem?]at e1
    obtain⟨_,p2,e2⟩:=e2
    rw[Array.getD_eq_getD_getElem?]at p2
    obtain⟨_,p3,e3⟩:=e3
    rw[Array.getD_eq_getD_getElem?]at p3
    simp[results,hf,asAddr,e1,e2,e3,p2,p3]
   ·obtain⟨_,p1,e1⟩:=e1
    rw[Array.getD_eq_getD_getElem?]at p1
    have e2:a.tmps.getD _ undef=u2:=e2
    rw[Array.getD_eq_getD_getElem?]at e2
    have e3:a.tmps.getD _ undef=u3:=e3
    rw[Array.getD_eq_getD_getElem?]at e3
    simp[results,hf,asAddr,e1,e2,e3,p1]
   ·obtain⟨_,p1,e1⟩:=e1
    rw[Array.getD_eq_getD_getElem?]at p1
    have e2:a.tmps.getD _ undef=u2:=e2
    rw[Array.getD_eq_getD_getElem?]at e2
    obtain⟨_,p3,e3⟩:=e3
    rw[Array.getD_eq_getD_getElem?]at p3
    simp[results,hf,asAddr,e1,e2,e3,p1,p3]
   ·obtain⟨_,p1,e1⟩:=e1
    rw[Array.getD_eq_getD_getElem?]at p1
    obtain⟨_,p2,e2⟩:=e2
    rw[Array.getD_eq_getD_getElem?]at p2
    have e3:a.tmps.getD _ undef=u3:=e3
    rw[Array.getD_eq_getD_getElem?]at e3
    simp[results,hf,asAddr,e1,e2,e3,p1,p2]
   ·obtain⟨_,p1,e1⟩:=e1
    rw[Array.getD_eq_getD_getElem?]at p1
    obtain⟨_,p2,e2⟩:=e2
    rw[Array.getD_eq_getD_getElem?]at p2
    obtain⟨_,p3,e3⟩:=e3
    rw[Array.getD_eq_getD_getElem?]at p3
    simp[results,hf,asAddr,e1,e2,e3,p1,p2,p3]
 | [r1,r2,r3,r4],hf,h,_=>
   obtain⟨y1,ys,rfl,h1,h⟩:=one h
   obtain⟨y2,ys,rfl,h2,h⟩:=one h
   obtain⟨y3,ys,rfl,h3,h⟩:=one h
   obtain⟨y4,ys,rfl,h4,h⟩:=one h
   rw[nil h]
   obtain⟨u1,k1,e1⟩:=uL C g h1
   obtain⟨u2,k2,e2⟩:=uL C g h2
   obtain⟨u3,k3,e3⟩:=uL C g h3
   obtain⟨u4,k4,e4⟩:=uL C g h4
   refine⟨[u1,u2,u3,u4],⟨k1,k2,k3,k4,trivial⟩,rfl,?_⟩
   cases r1<;>cases r2<;>cases r3<;>cases r4
   ·have e1:a.tmps.getD _ undef=u1:=e1
    rw[Array.getD_eq_getD_getElem?]at e1
    have e2:a.tmps.getD _ undef=u2:=e2
    rw[Array.getD_eq_getD_getElem?]at e2
    have e3:a.tmps.getD _ undef=u3:=e3
    rw[Array.getD_eq_getD_getElem?]at e3
    have e4:a.tmps.getD _ undef=u4:=e4
    rw[Array.getD_eq_getD_getElem?]at e4
    simp[results,hf,asAddr,e1,e2,e3,e4]
   ·have e1:a.tmps.getD _ undef=u1:=e1
    rw[Array.getD_eq_getD_getElem?]at e1
    have e2:a.tmps.getD _ undef=u2:=e2
    rw[Array.getD_eq_getD_getElem?]at e2
    have e3:a.tmps.getD _ undef=u3:=e3
    rw[Array.getD_eq_getD_getElem?]at e3
    obtain⟨_,p4,e4⟩:=e4
    rw[Array.getD_eq_getD_getElem?]at p4
    simp[results,hf,asAddr,e1,e2,e3,e4,p4]
   ·have e1:a.tmps.getD _ undef=u1:=e1
    rw[Array.getD_eq_getD_getElem?]at e1
    have e2:a.tmps.getD _ undef=u2:=e2
    rw[Array.getD_eq_getD_getElem?]at e2
    obtain⟨_,p3,e3⟩:=e3
    rw[Array.getD_eq_getD_getElem?]at p3
    have e4:a.tmps.getD _ undef=u4:=e4
    rw[Array.getD_eq_getD_getElem?]at e4
    simp[results,hf,asAddr,e1,e2,e3,e4,p3]
   ·have e1:a.tmps.getD _ undef=u1:=e1
    rw[Array.getD_eq_getD_getElem?]at e1
    have e2:a.tmps.getD _ undef=u2:=e2
    rw[Array.getD_eq_getD_getElem?]at e2
    obtain⟨_,p3,e3⟩:=e3
    rw[Array.getD_eq_getD_getElem?]at p3
    obtain⟨_,p4,e4⟩:=e4
    rw[Array.getD_eq_getD_getElem?]at p4
    simp[results,hf,asAddr,e1,e2,e3,e4,p3,p4]
   ·have e1:a.tmps.getD _ undef=u1:=e1
    rw[Array.getD_eq_getD_getElem?]at e1
    obtain⟨_,p2,e2⟩:=e2
    rw[Array.getD_eq_getD_getElem?]at p2
    have e3:a.tmps.getD _ undef=u3:=e3
    rw[Array.getD_eq_getD_getElem?]at e3
    have e4:a.tmps.getD _ undef=u4:=e4
    rw[Array.getD_eq_getD_getElem?]at e4
    simp[results,hf,asAddr,e1,e2,e3,e4,p2]
   ·have e1:a.tmps.getD _ undef=u1:=e1
    rw[Array.getD_eq_getD_getElem?]at e1
    obtain⟨_,p2,e2⟩:=e2
    rw[Array.getD_eq_getD_getElem?]at p2
    have e3:a.tmps.getD _ undef=u3:=e3
    rw[Array.getD_eq_getD_getElem?]at e3
    obtain⟨_,p4,e4⟩:=e4
    rw[Array.getD_eq_getD_getElem?]at p4
    simp[results,hf,asAddr,e1,e2,e3,e4,p2,p4]
   ·have e1:a.tmps.getD _ undef=u1:=e1
    rw[Array.getD_eq_getD_getElem?]at e1
    obtain⟨_,p2,e2⟩:=e2
    rw[Array.getD_eq_getD_getElem?]at p2
    obtain⟨_,p3,e3⟩:=e3
    rw[Array.getD_eq_getD_getElem?]at p3
    have e4:a.tmps.getD _ undef=u4:=e4
    rw[Array.getD_eq_getD_getElem?]at e4
    simp[results,hf,asAddr,e1,e2,e3,e4,p2,p3]
   ·have e1:a.tmps.getD _ undef=u1:=e1
    rw[Array.getD_eq_getD_getElem?]at e1
    obtain⟨_,p2,e2⟩:=e2
    rw[Array.getD_eq_getD_getElem?]at p2
    obtain⟨_,p3,e3⟩:=e3
    rw[Array.getD_eq_getD_getElem?]at p3
    obtain⟨_,p4,e4⟩:=e4
    rw[Array.getD_eq_getD_getElem?]at p4
    simp[results,hf,asAddr,e1,e2,e3,e4,p2,p3,p4]
   ·obtain⟨_,p1,e1⟩:=e1
    rw[Array.getD_eq_getD_getElem?]at p1
    have e2:a.tmps.getD _ undef=u2:=e2
    rw[Array.getD_eq_getD_getElem?]at e2
    have e3:a.tmps.getD _ undef=u3:=e3
    rw[Array.getD_eq_getD_getElem?]at e3
    have e4:a.tmps.getD _ undef=u4:=e4
    rw[Array.getD_eq_getD_getElem?]at e4
    simp[results,hf,asAddr,e1,e2,e3,e4,p1]
   ·obtain⟨_,p1,e1⟩:=e1
    rw[Array.getD_eq_getD_getElem?]at p1
    have e2:a.tmps.getD _ undef=u2:=e2
    rw[Array.getD_eq_getD_getElem?]at e2
    have e3:a.tmps.getD _ undef=u3:=e3
    rw[Array.getD_eq_getD_getElem?]at e3
    obtain⟨_,p4,e4⟩:=e4
    rw[Array.getD_eq_getD_getElem?]at p4
    simp[results,hf,asAddr,e1,e2,e3,e4,p1,p4]
   ·obtain⟨_,p1,e1⟩:=e1
    rw[Array.getD_eq_getD_getElem?]at p1
    have e2:a.tmps.getD _ undef=u2:=e2
    rw[Array.getD_eq_getD_getElem?]at e2
    obtain⟨_,p3,e3⟩:=e3
    rw[Array.getD_eq_getD_getElem?]at p3
    have e4:a.tmps.getD _ undef=u4:=e4
    rw[Array.getD_eq_getD_getElem?]at e4
    simp[results,hf,asAddr,e1,e2,e3,e4,p1,p3]
   ·obtain⟨_,p1,e1⟩:=e1
    rw[Array.getD_eq_getD_getElem?]at p1
    have e2:a.tmps.getD _ undef=u2:=e2
    rw[Array.getD_eq_getD_getElem?]at e2
    obtain⟨_,p3,e3⟩:=e3
    rw[Array.getD_eq_getD_getElem?]at p3
    obtain⟨_,p4,e4⟩:=e4
    rw[Array.getD_eq_getD_getElem?]at p4
    simp[results,hf,asAddr,e1,e2,e3,e4,p1,p3,p4]
   ·obtain⟨_,p1,e1⟩:=e1
    rw[Array.getD_eq_getD_getElem?]at p1
    obtain⟨_,p2,e2⟩:=e2
    rw[Array.getD_eq_getD_getElem?]at p2
    have e3:a.tmps.getD _ undef=u3:=e3
    rw[Array.getD_eq_getD_getElem?]at e3
    have e4:a.tmps.getD _ undef=u4:=e4
    rw[Array.getD_eq_getD_getElem?]at e4
    simp[results,hf,asAddr,e1,e2,e3,e4,p1,p2]
   ·obtain⟨_,p1,e1⟩:=e1
    rw[Array.getD_eq_getD_getElem?]at p1
    obtain⟨_,p2,e2⟩:=e2
    rw[Array.getD_eq_getD_getElem?]at p2
    have e3:a.tmps.getD _ undef=u3:=e3
    rw[Array.getD_eq_getD_getElem?]at e3
    obtain⟨_,p4,e4⟩:=e4
    rw[Array.getD_eq_getD_getElem?]at p4
    simp[results,hf,asAddr,e1,e2,e3,e4,p1,p2,p4]
   ·obtain⟨_,p1,e1⟩:=e1
    rw[Array.getD_eq_getD_getElem?]at p1
    obtain⟨_,p2,e2⟩:=e2
    rw[Array.getD_eq_getD_getElem?]at p2
    obtain⟨_,p3,e3⟩:=e3
    rw[Array.getD_eq_getD_getElem?]at p3
    have e4:a.tmps.getD _ undef=u4:=e4
    rw[Array.getD_eq_getD_getElem?]at e4
    simp[results,hf,asAddr,e1,e2,e3,e4,p1,p2,p3]
   ·obtain⟨_,p1,e1⟩:=e1
    rw[Array.getD_eq_getD_getElem?]at p1
    obtain⟨_,p2,e2⟩:=e2
    rw[Array.getD_eq_getD_getElem?]at p2
    obtain⟨_,p3,e3⟩:=e3
    rw[Array.getD_eq_getD_getElem?]at p3
    obtain⟨_,p4,e4⟩:=e4
    rw[Array.getD_eq_getD_getElem?]at p4
    simp[results,hf,asAddr,e1,e2,e3,e4,p1,p2,p3,p4]
 |_::_::_::_::_::_,_,_,hl=>simp at hl
end
end
section
variable{ty:Tag→Nat}
theorem RI.ra{w:World}{env:Env}{v:V}{u:Value}{fp:List Nat}(h:RI w v u fp):RA w [] env v u:=by
 have hno: ∀b, ¬Ow [] env b:=by rintro b ⟨n,o,hl,_⟩;simp[look]at hl
 cases v with
 |lit x=>exact⟨h.1,h.2.1⟩
 |sl t l=>exact⟨fp,h,fun b _=>hno b⟩
 |_=>exact h.elim
theorem BO.XT{w:World}{env:Env}{x:S1}{u:Value}(h:BO w x u):fG w [] env x u:=by
 cases x with
 |a v=>obtain⟨fp,h⟩:=h;exact h.ra
 |agg l=>
  obtain⟨cs,fp,rfl,h⟩:=h
  exact⟨cs,rfl,h.BP fun b _=>by rintro⟨n,o,hl,_⟩;simp[look]at hl⟩
theorem qa: ∀{as:List S1} {i s:Nat} {v:SV},look (enter i as) s=some v→ ∃x,v= .one x∧i≤s∧as[s-i]? =some x
 |x::r,i,s,v,h=>by
  by_cases hs:s=i
  ·subst hs
   rw[enter,look_eq]at h
   simp only[Option.some.injEq]at h
   exact⟨x,h.symm,Nat.le_refl _,by simp⟩
  ·rw[enter,aW hs]at h
   obtain⟨y,h1,h2,h3⟩:=qa h
   refine⟨y,h1,by omega,?_⟩
   rw[show s-i=(s-(i+1))+1 by omega,List.getElem?_cons_succ];exact h3
theorem entry{as:List S1}{us:List Value}{w:World}{n:Nat}(hA:D6 w)(ha:bn (BO w) as us)(hn:as.length≤n):
  Inv ty ⟨w,[],fun _=>⟨.tuple #[],[]⟩⟩ ⟨n,enter 0 as,[]⟩ {tmps:=us.toArray++Array.replicate (n-us.toArray.size) undef,defers:= []} w:=by
 have hl:=ha.len
 refine⟨by simp;omega,rfl,Kept.refl _ _,⟨hA,fun _ _ h=>by cases h⟩,fun _=>⟨.tuple #[],[]⟩,⟨fun n o h=>by simp[look]at h,fun n m o o' _ h=>by simp[look]at h,fun s v hv=> ?_,fun n o h=>by simp[look]at h,fun n _=>⟨rfl,fun b hb=>hb⟩⟩⟩
 obtain⟨x,rfl,_,hx⟩:=qa hv
 rw[Nat.sub_zero]at hx
 obtain⟨u,hu,hr⟩:=ha.at hx
 have hs:s<us.length:=(List.getElem?_eq_some_iff.1 hu).1
 have:(us.toArray++Array.replicate (n-us.toArray.size) undef).getD s undef=u:=by
  rw[Array.getD_eq_getD_getElem?,Array.getElem?_append_left (by simpa using hs)]
  simp[hu]
 show fG w [] _ x _
 rw[this]
 exact hr.XT
theorem Sound.of{P:Program}{Γ:Nat→TK}(X:Ctx P ty Γ){f:FuncId}{fn:Func}{c:Code}{qI:List ResultVar}{n:Nat}{as rs:List S1}
  (Ck: ∀(args:Array Value) (w:World),(callFunc f args).run P w= .ok (.enter f args) w)(hf:P.funcs[f]? =some fn)(hb:fn.body=some c)(hr:fn.results=qI.toArray)(hl:qI.length≤4)(hn:fn.ntmps=n)(hlen:as.length≤n)
  (h: ∀zb,W P ty zb c (Fin Γ qI rs) ⟨n,enter 0 as,[]⟩):Sound ty P f as rs:=by
 refine⟨Ck,fun w us hA ha=>calls_of_wp hf hb ?_⟩
 rw[hn]
 refine wp_mono (h _ _ w (entry hA ha hlen)) ?_
 rintro e a w' ⟨st,iv,he,vc,gC,hv⟩
 have key:a.defers= []∧ ∃v,(results fn a.tmps).run P w'= .ok v w'∧V8 ty w rs (.returned v) w':=by
  obtain⟨env,g⟩:=iv.good
  unfold ends at gC
  split at gC
  ·rename_i xs hx
   split at gC
   ·rename_i oc k hm
    split at gC
    ·rename_i hnd
     simp only[Option.some.injEq]at gC
     subst gC
     obtain⟨vs,h1,h2,h3⟩:=Cj X.kind g hr hx hl
     obtain⟨fp,q1,q2,_⟩:=Hx rfl g h1 hm (jt hnd) hv.out
     have TY:Below w.heap.size w w':=⟨iv.kept.os,iv.kept.tape,iv.kept.output,iv.kept.size,fun b hb=>iv.kept.block b hb (by simp)⟩
     refine⟨iv.defers,_,h3,_,fp,rfl,TY,q2,?_⟩
     match rs,vs,q1 with
     | [],[],q1=>exact⟨[],rfl,q1⟩
     | [r],[u],⟨f1,f2,p1,p2,e⟩=>
       have p2:f2= []:=p2
       rw[p2,List.append_nil]at e
       rw[e];exact p1
     |r1::r2::r,u1::u2::u,q1=>exact⟨_,rfl,q1⟩
     | [],_::_,q1=>exact q1.elim
     |_::_,[],q1=>exact q1.elim
     | [r],u1::u2::u,⟨_,_,_,p,_⟩=>exact p.elim
     |r1::r2::r,[u],⟨_,_,_,p,_⟩=>exact p.elim
    ·cases gC
   ·cases gC
  ·cases gC
 rcases he with rfl|rfl<;>exact key
theorem Sound.o{P:Program}{Γ:Nat→TK}(X:Ctx P ty Γ){f:FuncId}{fn:Func}{c:Code}{qI:List ResultVar}{n:Nat}{xs rs:List S1}
  (Ck: ∀(args:Array Value) (w:World),(callFunc f args).run P w= .ok (.enter f args) w)(hf:P.funcs[f]? =some fn)(hn:fn.ntmps=n)(hb:fn.body=some c)(hr:fn.results=qI.toArray)
  (h: ∀zb,W P ty zb c (Fin Γ qI rs) ⟨n,enter 0 xs,[]⟩)(hl:qI.length≤4:=by decide)(hlen:xs.length≤n:=by simp):Sound ty P f xs rs:=Sound.of X Ck hf hb hr hl hn hlen h
def iC(m:Nat):List V→List V×Hp
 | []=>([],[])
 | .sl t l::r=>match iC (m+1) r with| (vs,os)=>(.own m::vs,(m, .arr t l)::os)
 |v::r=>match iC (m+1) r with| (vs,os)=>(v::vs,os)
def gW(m:Nat):List S1→List S1×Hp
 | []=>([],[])
 | .a v::r=>match iC m [v],gW (m+1) r with
   | ([v'],os),(as,os')=>(.a v'::as,os++os')
   |_,(as,os')=>(.a .any::as,os')
 | .agg l::r=>match iC m l,gW (m+l.length) r with
   | (l',os),(as,os')=>(.agg l'::as,os++os')
def eE(st:St)(m:Nat):List V→List V→Option (List Prop)
 | [],[]=>some []
 | .sl _ _::r, .sl t' l'::s=>match look st.hp m,eE st (m+1) r s with
   |some (.arr t l2),some vc=>match kg t' t l2 with|some l2=>some ((l2=l')::vc)|none=>none
   |_,_=>none
 | .lit v::r, .lit v'::s=>match eE st (m+1) r s with|some vc=>some ((v=v')::vc)|none=>none
 |_,_=>none
def Cl(st:St)(m:Nat):List S1→List S1→Option (List Prop)
 | [],[]=>some []
 | .a v::r, .a v'::s=>match eE st m [v] [v'],Cl st (m+1) r s with|some x,some y=>some (x++y)|_,_=>none
 | .agg l::r, .agg l'::s=>match eE st m l l',Cl st (m+l.length) r s with|some x,some y=>some (x++y)|_,_=>none
 |_,_=>none
def O5(Γ:Nat→TK)(st:St)(rv:ResultVar)(as as':List S1)(v:Value):Option (List Prop):=
 match MX Γ st rv,Cl st 1000 as as' with
 |some (.a (.lit v')),some vc=>some ((v'=v)::vc)
 |_,_=>none
def wP(Γ:Nat→TK)(rv:ResultVar)(as as':List S1)(v:Value):Post:=fun e st=>(e= .ret∨e= .normal)∧ ∃vc,O5 Γ st rv as as' v=some vc∧ah vc
theorem wP.ret{Γ:Nat→TK}{rv:ResultVar}{as as':List S1}{v:Value}{st:St}{vc:List Prop}(h:O5 Γ st rv as as' v=some vc)(hv:ah vc):wP Γ rv as as' v .ret st:=⟨.inl rfl,vc,h,hv⟩
def Hy(m:Nat):List Value→List (List Nat)→List (Nat×CO)
 |u::us,f::fs=>(m,⟨u,f⟩)::Hy (m+1) us fs
 |_,_=> []
theorem Cm: ∀{us:List Value} {fs:List (List Nat)} {m i:Nat} {u:Value} {f:List Nat},us[i]? =some u→fs[i]? =some f→look (Hy m us fs) (m+i)=some ⟨u,f⟩
 |u::us,f::fs,m,0,u',f',h1,h2=>by
  simp at h1 h2
  subst h1;subst h2
  rw[Hy];exact look_eq
 |u::us,f::fs,m,i+1,u',f',h1,h2=>by
  rw[Hy,aW (by omega),show m+(i+1)=(m+1)+i by omega]
  exact Cm (by simpa using h1) (by simpa using h2)
 | [],_,_,_,_,_,h1,_=>by simp at h1
 |_::_,[],_,_,_,_,_,h2=>by simp at h2
theorem Cn{w:World}: ∀{vs:List V} {us:List Value} {bk:List (List Nat)} (m:Nat),RF w vs us bk→(∀n o,look (iC m vs).2 n=some o→ ∃t l u f,o= .arr t l∧m≤n∧n<m+vs.length∧us[n-m]? =some u∧bk[n-m]? =some f∧vs[n-m]? =some (.sl t l)∧Sl (kk t) (rd t) w u l f)∧
  ∀hp env,(∀n o,look (iC m vs).2 n=some o→look hp n=some o)→(∀i u f,us[i]? =some u→bk[i]? =some f→env (m+i)=⟨u,f⟩)→bn (RA w hp env) (iC m vs).1 us
 | [],[],_,m,h=>⟨fun n o hl=>by simp[iC,look]at hl,fun _ _ _ _=>trivial⟩
 |v::vs,u::us,bk,m,⟨f,fr,h1,h2,e⟩=>by
  subst e
  obtain⟨q1,q2⟩:=Cn (m+1) h2
  have up: ∀n o,(∃t l u' f',o=Obj.arr t l∧m+1≤n∧n<m+1+vs.length∧us[n-(m+1)]? =some u'∧fr[n-(m+1)]? =some f'∧vs[n-(m+1)]? =some (.sl t l)∧Sl (kk t) (rd t) w u' l f')→
    ∃t l u' f',o=Obj.arr t l∧m≤n∧n<m+(v::vs).length∧(u::us)[n-m]? =some u'∧(f::fr)[n-m]? =some f'∧(v::vs)[n-m]? =some (.sl t l)∧Sl (kk t) (rd t) w u' l f':=by
   rintro n o ⟨t,l,u',f',k1,k2,k3,k4,k5,k6,k7⟩
   have e:n-m=(n-(m+1))+1:=by omega
   exact⟨t,l,u',f',k1,by omega,by simp;omega,by rw[e];simpa using k4,by rw[e];simpa using k5,by rw[e];simpa using k6,k7⟩
  cases v with
  |sl t l=>
   refine⟨fun n o hl=> ?_,fun hp env hh he=>⟨?_,q2 hp env (fun n o hl=>hh n o ?_) (fun i u' f' hu hf=> ?_)⟩⟩
   ·by_cases hn:n=m
    ·subst hn
     simp only[iC]at hl
     rw[look_eq]at hl
     simp only[Option.some.injEq]at hl
     exact⟨t,l,u,f,hl.symm,Nat.le_refl _,by simp,by simp,by simp,by simp,h1⟩
    ·simp only[iC]at hl
     rw[aW hn]at hl
     exact up n o (q1 n o hl)
   ·refine⟨⟨t,l,hh m _ ?_⟩,?_⟩
    ·simp only[iC];exact look_eq
    ·have:=he 0 u f (by simp) (by simp)
     rw[Nat.add_zero]at this
     rw[this]
   ·have hge:=(q1 n o hl)
    obtain⟨_,_,_,_,_,hge,_⟩:=hge
    simp only[iC]
    rw[aW (by omega)];exact hl
   ·have:=he (i+1) u' f' (by simpa using hu) (by simpa using hf)
    rwa [show m+(i+1)=m+1+i by omega]at this
  |lit x=>
   refine⟨fun n o hl=>up n o (q1 n o hl),fun hp env hh he=>⟨⟨h1.1,h1.2.1⟩,q2 hp env hh (fun i u' f' hu hf=> ?_)⟩⟩
   have:=he (i+1) u' f' (by simpa using hu) (by simpa using hf)
   rwa [show m+(i+1)=m+1+i by omega]at this
  |_=>exact h1.elim
 | [],_::_,_,_,h=>h.elim
 |_::_,[],_,_,h=>h.elim
theorem RF.len{w:World}: ∀{vs:List V} {us:List Value} {bk:List (List Nat)},RF w vs us bk→us.length=vs.length∧bk.length=vs.length
 | [],[],_,h=>by rw[show _=_ from h];exact⟨rfl,rfl⟩
 |_::_,_::_,_,⟨_,_,_,h,e⟩=>by obtain⟨h1,h2⟩:=RF.len h;rw[e];exact⟨by simp[h1],by simp[h2]⟩
 | [],_::_,_,h=>h.elim
 |_::_,[],_,h=>h.elim
theorem yI: ∀{vs:List V} (m:Nat),(iC m vs).1.length=vs.length
 | [],_=>rfl
 |v::r,m=>by
  have:=yI (vs:=r) (m+1)
  cases v<;>simp[iC,this]
theorem Co{w:World}: ∀{as:List S1} {us:List Value} {bk:List (List Nat)} (m:Nat),oH w as us bk→
  (∀n o,look (gW m as).2 n=some o→ ∃t l u f,o= .arr t l∧m≤n∧(us.flatMap fun u=>u.cells.toList)[n-m]? =some u∧bk[n-m]? =some f∧Sl (kk t) (rd t) w u l f)∧
  ∀hp env,(∀n o,look (gW m as).2 n=some o→look hp n=some o)→(∀i u f,(us.flatMap fun u=>u.cells.toList)[i]? =some u→bk[i]? =some f→env (m+i)=⟨u,f⟩)→bn (fG w hp env) (gW m as).1 us
 | [],[],bk,m,h=>⟨fun n o hl=>by simp[gW,look]at hl,fun _ _ _ _=>trivial⟩
 | .a v::as,u::us,bk,m,⟨f,g,h1,h2,e⟩=>by
   subst e
   have hc:u.cells.toList= [u]:=by rw[h1.cells]
   obtain⟨p1,p2⟩:=Cn m (show RF w [v] [u] [f]from ⟨f,[],h1,rfl,rfl⟩)
   obtain⟨q1,q2⟩:=Co (m+1) h2
   have nr:=yI (vs:= [v]) m
   rw[List.flatMap_cons,hc]
   simp only[gW]
   generalize iC m [v]=x at p1 p2 nr ⊢
   obtain⟨xs,os⟩:=x
   match xs,nr with
   | [v'],_=>
     have up: ∀n o,look (gW (m+1) as).2 n=some o→look os n=none:=by
      intro n o hl
      cases hq:look os n with
      |none=>rfl
      |some o'=>
       obtain⟨_,_,_,_,_,k1,_⟩:=q1 n o hl
       obtain⟨_,_,_,_,_,_,k2,_⟩:=p1 n o' hq
       simp at k2;omega
     refine⟨fun n o hl=> ?_,fun hp env hh he=>⟨?_,q2 hp env (fun n o hl=>hh n o (by
       show look (os++(gW (m+1) as).2) n=some o
       rw[aQ (up n o hl)];exact hl)) fun i u' f' hu hf=> ?_⟩⟩
     ·have hl:look (os++(gW (m+1) as).2) n=some o:=hl
      cases hq:look os n with
      |some o'=>
       rw[bG hq]at hl
       simp only[Option.some.injEq]at hl
       subst hl
       obtain⟨t,l,u',f',k1,k2,k3,k4,k5,k6,k7⟩:=p1 n _ hq
       have h0:n-m=0:=by simp at k3;omega
       rw[h0]at k4 k5 ⊢
       simp at k4 k5
       subst k4;subst k5
       exact⟨t,l,u,f,k1,k2,by simp,by simp,k7⟩
      |none=>
       rw[aQ hq]at hl
       obtain⟨t,l,u',f',k1,k2,k3,k4,k5⟩:=q1 n o hl
       have e:n-m=(n-(m+1))+1:=by omega
       exact⟨t,l,u',f',k1,by omega,by rw[e];simpa using k3,by rw[e];simpa using k4,k5⟩
     ·have:=p2 hp env (fun n o hl=>hh n o (bG hl)) (fun i u' f' hu hf=>by
       match i with
       |0=>exact he 0 u' f' (by simpa using hu) (by simpa using hf)
       |i+1=>simp at hu)
      exact this.1
     ·have:=he (i+1) u' f' (by simpa using hu) (by simpa using hf)
      rwa [show m+(i+1)=m+1+i by omega]at this
 | .agg l::as,u::us,bk,m,⟨cs,f,g,e1,h1,h2,e⟩=>by
   subst e;subst e1
   have hc:(Value.agg cs.toArray).cells.toList=cs:=by simp[Value.cells]
   obtain⟨p1,p2⟩:=Cn m h1
   obtain⟨q1,q2⟩:=Co (m+l.length) h2
   obtain⟨n1,n2⟩:=RF.len h1
   rw[List.flatMap_cons,hc]
   have up: ∀n o,look (gW (m+l.length) as).2 n=some o→look (iC m l).2 n=none:=by
    intro n o hl
    cases hq:look (iC m l).2 n with
    |none=>rfl
    |some o'=>
     obtain⟨_,_,_,_,_,k1,_⟩:=q1 n o hl
     obtain⟨_,_,_,_,_,_,k2,_⟩:=p1 n o' hq
     omega
   refine⟨fun n o hl=> ?_,fun hp env hh he=>⟨⟨cs,rfl,?_⟩,q2 hp env (fun n o hl=>hh n o (by
     show look ((iC m l).2++(gW (m+l.length) as).2) n=some o
     rw[aQ (up n o hl)];exact hl)) fun i u' f' hu hf=> ?_⟩⟩
   ·have hl:look ((iC m l).2++(gW (m+l.length) as).2) n=some o:=hl
    cases hq:look (iC m l).2 n with
    |some o'=>
     rw[bG hq]at hl
     simp only[Option.some.injEq]at hl
     subst hl
     obtain⟨t,l',u',f',k1,k2,k3,k4,k5,k6,k7⟩:=p1 n _ hq
     exact⟨t,l',u',f',k1,k2,by rw[List.getElem?_append_left (by omega)];exact k4,by rw[List.getElem?_append_left (by omega)];exact k5,k7⟩
    |none=>
     rw[aQ hq]at hl
     obtain⟨t,l',u',f',k1,k2,k3,k4,k5⟩:=q1 n o hl
     have e:n-m-l.length=n-(m+l.length):=by omega
     exact⟨t,l',u',f',k1,by omega,by rw[List.getElem?_append_right (by omega),n1,e];exact k3,by rw[List.getElem?_append_right (by omega),n2,e];exact k4,k5⟩
   ·exact p2 hp env (fun n o hl=>hh n o (bG hl)) (fun i u' f' hu hf=>he i u' f'
     (by rw[List.getElem?_append_left (List.getElem?_eq_some_iff.1 hu).1];exact hu)
     (by rw[List.getElem?_append_left (List.getElem?_eq_some_iff.1 hf).1];exact hf))
   ·have:=he (l.length+i) u' f' (by rw[List.getElem?_append_right (by omega),n1,show l.length+i-l.length=i by omega];exact hu)
     (by rw[List.getElem?_append_right (by omega),n2,show l.length+i-l.length=i by omega];exact hf)
    rwa [show m+(l.length+i)=m+l.length+i by omega]at this
 | [],_::_,_,_,h=>h.elim
 | .a _::_,[],_,_,h=>h.elim
 | .agg _::_,[],_,_,h=>h.elim
theorem uc.nodup: ∀{fs gs:List (List Nat)},uc fs gs→gs.flatten.Nodup→(∀f,f∈fs→f.Nodup)→fs.flatten.Nodup∧ ∀b,b∈fs.flatten→b∈gs.flatten
 | [],[],_,_,_=>⟨by simp,by simp⟩
 |f::fs,g::gs,⟨h1,h2⟩,hn,hf=>by
  rw[List.flatten_cons]at hn
  obtain⟨_,n2,n3⟩:=List.nodup_append.1 hn
  obtain⟨q1,q2⟩:=uc.nodup h2 n2 (fun f hm=>hf f (List.mem_cons_of_mem _ hm))
  refine⟨?_,fun b hb=> ?_⟩
  ·rw[List.flatten_cons]
   exact List.nodup_append.2 ⟨hf f (by simp),q1,fun b hb c hc e=>n3 b (h1 b hb) c (q2 c hc) e⟩
  ·rw[List.flatten_cons]at hb ⊢
   rcases List.mem_append.1 hb with hb|hb
   ·exact List.mem_append_left _ (h1 b hb)
   ·exact List.mem_append_right _ (q2 b hb)
 | [],_::_,h,_,_=>h.elim
 |_::_,[],h,_,_=>h.elim
theorem uc.app: ∀{a b c d:List (List Nat)},uc a b→uc c d→uc (a++c) (b++d)
 | [],[],_,_,_,h=>h
 |_::_,_::_,_,_,⟨h1,h2⟩,h=>⟨h1,uc.app h2 h⟩
 | [],_::_,_,_,h,_=>h.elim
 |_::_,[],_,_,h,_=>h.elim
section
variable{zb:cA}{st:St}{tmps:Array Value}{w0 w:World}{env:Env}
theorem Ba(g:Good ty zb st tmps w env): ∀{vs vs':List V} {us:List Value} {bk:List (List Nat)} {vc:List Prop} (m:Nat),iA m=true→eE st m vs vs'=some vc→(∀q,q∈vc→q)→RF w0 vs us bk→
  (∀i u f,us[i]? =some u→bk[i]? =some f→zb.pv (m+i)=⟨u,f⟩)→ ∃jI,RF w vs' us jI∧uc jI bk∧ ∀f,f∈jI→Own 0 w f
 | [],[],[],bk,vc,m,_,_,_,h,_=>⟨[],rfl,by rw[show bk= []from h];trivial,by simp⟩
 | .sl t l::r, .sl t' l'::s,u::us,bk,vc,m,hm,hh,hv,⟨f,fr,h1,h2,e⟩,hz=>by
   subst e
   simp only[eE]at hh
   split at hh
   ·rename_i t2 l2 vcs hl hr
    split at hh
    ·rename_i l3 hc
     simp only[Option.some.injEq]at hh
     subst hh
     obtain⟨e,rfl⟩:=dW hc
     subst e
     have e2:l2=l':=hv _ (by simp)
     subst e2
     obtain⟨jI,q1,q2,q3⟩:=Ba g (m+1) (by unfold iA at hm ⊢;exact Nat.ble_eq_true_of_le (Nat.le_succ_of_le (Nat.le_of_ble_eq_true hm))) hr (fun q hq=>hv q (List.mem_cons_of_mem _ hq)) h2 (fun i u' f' hu hf=>by
      have:=hz (i+1) u' f' (by simpa using hu) (by simpa using hf)
      rwa [show m+(i+1)=m+1+i by omega]at this)
     have hp:=hz 0 u f (by simp) (by simp)
     rw[Nat.add_zero]at hp
     obtain⟨k1,k2⟩:=g.pins m hm
     rw[hp]at k1 k2
     have hro:=g.obj m _ hl
     refine⟨(env m).fp::jI,⟨_,_,?_,q1,rfl⟩,⟨k2,q2⟩,?_⟩
     ·have:=RO.sl hro
      rw[k1]at this
      exact this
     ·intro f' hf'
      rcases List.mem_cons.1 hf' with rfl|hf'
      ·exact RO.own hro
      ·exact q3 f' hf'
    ·cases hh
   ·cases hh
 | .lit x::r, .lit x'::s,u::us,bk,vc,m,hm,hh,hv,⟨f,fr,h1,h2,e⟩,hz=>by
   subst e
   simp only[eE]at hh
   split at hh
   ·rename_i vcs hr
    simp only[Option.some.injEq]at hh
    subst hh
    have e2:x=x':=hv _ (by simp)
    subst e2
    obtain⟨jI,q1,q2,q3⟩:=Ba g (m+1) (by unfold iA at hm ⊢;exact Nat.ble_eq_true_of_le (Nat.le_succ_of_le (Nat.le_of_ble_eq_true hm))) hr (fun q hq=>hv q (List.mem_cons_of_mem _ hq)) h2 (fun i u' f' hu hf=>by
     have:=hz (i+1) u' f' (by simpa using hu) (by simpa using hf)
     rwa [show m+(i+1)=m+1+i by omega]at this)
    refine⟨[]::jI,⟨_,_,⟨h1.1,h1.2.1,rfl⟩,q1,rfl⟩,⟨by simp,q2⟩,?_⟩
    intro f' hf'
    rcases List.mem_cons.1 hf' with rfl|hf'
    ·exact Own.nil _ _
    ·exact q3 f' hf'
   ·cases hh
 | [],_::_,_,_,_,_,_,hh,_,_,_=>by simp[eE]at hh
 | .sl _ _::_,[],_,_,_,_,_,hh,_,_,_=>by simp[eE]at hh
 | .sl _ _::_, .lit _::_,_,_,_,_,_,hh,_,_,_=>by simp[eE]at hh
 | .sl _ _::_, .any::_,_,_,_,_,_,hh,_,_,_=>by simp[eE]at hh
 | .sl _ _::_, .own _::_,_,_,_,_,_,hh,_,_,_=>by simp[eE]at hh
 | .sl _ _::_, .ptr _ _::_,_,_,_,_,_,hh,_,_,_=>by simp[eE]at hh
 | .sl _ _::_, .lS _ _ _::_,_,_,_,_,_,hh,_,_,_=>by simp[eE]at hh
 | .sl _ _::_, .ip _ _ _::_,_,_,_,_,_,hh,_,_,_=>by simp[eE]at hh
 | .sl _ _::_, .vw _ _ _ _::_,_,_,_,_,_,hh,_,_,_=>by simp[eE]at hh
 | .sl _ _::_, .Aw _ _ _ _ _::_,_,_,_,_,_,hh,_,_,_=>by simp[eE]at hh
 | .sl _ _::_, .AX _ _ _::_,_,_,_,_,_,hh,_,_,_=>by simp[eE]at hh
 | .sl _ _::_, .mix _ _ _ _::_,_,_,_,_,_,hh,_,_,_=>by simp[eE]at hh
 | .sl _ _::_, .yu _::_,_,_,_,_,_,hh,_,_,_=>by simp[eE]at hh
 | .sl _ _::_, .yx _ _::_,_,_,_,_,_,hh,_,_,_=>by simp[eE]at hh
 | .sl _ _::_, .tY _::_,_,_,_,_,_,hh,_,_,_=>by simp[eE]at hh
 | .lit _::_,[],_,_,_,_,_,hh,_,_,_=>by simp[eE]at hh
 | .lit _::_, .sl _ _::_,_,_,_,_,_,hh,_,_,_=>by simp[eE]at hh
 | .lit _::_, .any::_,_,_,_,_,_,hh,_,_,_=>by simp[eE]at hh
 | .lit _::_, .own _::_,_,_,_,_,_,hh,_,_,_=>by simp[eE]at hh
 | .lit _::_, .ptr _ _::_,_,_,_,_,_,hh,_,_,_=>by simp[eE]at hh
 | .lit _::_, .lS _ _ _::_,_,_,_,_,_,hh,_,_,_=>by simp[eE]at hh
 | .lit _::_, .ip _ _ _::_,_,_,_,_,_,hh,_,_,_=>by simp[eE]at hh
 | .lit _::_, .vw _ _ _ _::_,_,_,_,_,_,hh,_,_,_=>by simp[eE]at hh
 | .lit _::_, .Aw _ _ _ _ _::_,_,_,_,_,_,hh,_,_,_=>by simp[eE]at hh
 | .lit _::_, .AX _ _ _::_,_,_,_,_,_,hh,_,_,_=>by simp[eE]at hh
 | .lit _::_, .mix _ _ _ _::_,_,_,_,_,_,hh,_,_,_=>by simp[eE]at hh
 | .lit _::_, .yu _::_,_,_,_,_,_,hh,_,_,_=>by simp[eE]at hh
 | .lit _::_, .yx _ _::_,_,_,_,_,_,hh,_,_,_=>by simp[eE]at hh
 | .lit _::_, .tY _::_,_,_,_,_,_,hh,_,_,_=>by simp[eE]at hh
 | .any::_,_,_,_,_,_,_,hh,_,_,_=>by simp[eE]at hh
 | .own _::_,_,_,_,_,_,_,hh,_,_,_=>by simp[eE]at hh
 | .ptr _ _::_,_,_,_,_,_,_,hh,_,_,_=>by simp[eE]at hh
 | .lS _ _ _::_,_,_,_,_,_,_,hh,_,_,_=>by simp[eE]at hh
 | .ip _ _ _::_,_,_,_,_,_,_,hh,_,_,_=>by simp[eE]at hh
 | .vw _ _ _ _::_,_,_,_,_,_,_,hh,_,_,_=>by simp[eE]at hh
 | .Aw _ _ _ _ _::_,_,_,_,_,_,_,hh,_,_,_=>by simp[eE]at hh
 | .AX _ _ _::_,_,_,_,_,_,_,hh,_,_,_=>by simp[eE]at hh
 | .mix _ _ _ _::_,_,_,_,_,_,_,hh,_,_,_=>by simp[eE]at hh
 | .yu _::_,_,_,_,_,_,_,hh,_,_,_=>by simp[eE]at hh
 | .yx _ _::_,_,_,_,_,_,_,hh,_,_,_=>by simp[eE]at hh
 | .tY _::_,_,_,_,_,_,_,hh,_,_,_=>by simp[eE]at hh
 |_::_,_,[],_,_,_,_,_,_,h,_=>h.elim
 | [],[],_::_,_,_,_,_,_,_,h,_=>h.elim
theorem RF.one{w:World}{v:V}{u:Value}{bk:List (List Nat)}(h:RF w [v] [u] bk): ∃f,RI w v u f∧bk= [f]:=by
 obtain⟨f,g,h1,h2,h3⟩:=h
 exact⟨f,h1,by rw[h3,show g= []from h2]⟩
theorem FK(g:Good ty zb st tmps w env): ∀{as as':List S1} {us:List Value} {bk:List (List Nat)} {vc:List Prop} (m:Nat),iA m=true→Cl st m as as'=some vc→(∀q,q∈vc→q)→oH w0 as us bk→
  (∀i u f,(us.flatMap fun u=>u.cells.toList)[i]? =some u→bk[i]? =some f→zb.pv (m+i)=⟨u,f⟩)→ ∃jI,oH w as' us jI∧uc jI bk∧ ∀f,f∈jI→Own 0 w f
 | [],[],[],bk,vc,m,_,_,_,h,_=>⟨[],rfl,by rw[show bk= []from h];trivial,by simp⟩
 | .a v::r, .a v'::s,u::us,bk,vc,m,hm,hh,hv,⟨f,fr,h1,h2,e⟩,hz=>by
   subst e
   have hc:u.cells.toList= [u]:=by rw[h1.cells]
   rw[List.flatMap_cons,hc]at hz
   simp only[Cl]at hh
   split at hh
   ·rename_i x y hx hy
    simp only[Option.some.injEq]at hh
    subst hh
    obtain⟨f1,p1,p2,p3⟩:=Ba g m hm hx (fun q hq=>hv q (List.mem_append_left _ hq)) (show RF w0 [v] [u] [f]from ⟨f,[],h1,rfl,rfl⟩) (fun i u' f' hu hf=>by
     match i with
     |0=>exact hz 0 u' f' (by simpa using hu) (by simpa using hf)
     |i+1=>simp at hu)
    obtain⟨f2,rfl⟩: ∃f2,f1= [f2]:=by obtain⟨f2,_,h⟩:=RF.one p1;exact⟨f2,h⟩
    obtain⟨f3,p4,p5⟩:=RF.one p1
    simp only[List.cons.injEq,and_true]at p5
    subst p5
    obtain⟨jI,q1,q2,q3⟩:=FK g (m+1) (by unfold iA at hm ⊢;exact Nat.ble_eq_true_of_le (Nat.le_succ_of_le (Nat.le_of_ble_eq_true hm))) hy (fun q hq=>hv q (List.mem_append_right _ hq)) h2 (fun i u' f' hu hf=>by
     have:=hz (i+1) u' f' (by simpa using hu) (by simpa using hf)
     rwa [show m+(i+1)=m+1+i by omega]at this)
    refine⟨f2::jI,⟨_,_,p4,q1,rfl⟩,⟨p2.1,q2⟩,?_⟩
    intro f' hf'
    rcases List.mem_cons.1 hf' with rfl|hf'
    ·exact p3 _ (by simp)
    ·exact q3 f' hf'
   ·cases hh
 | .agg l::r, .agg l'::s,u::us,bk,vc,m,hm,hh,hv,⟨cs,f,fr,e1,h1,h2,e⟩,hz=>by
   subst e;subst e1
   have hc:(Value.agg cs.toArray).cells.toList=cs:=by simp[Value.cells]
   obtain⟨n1,n2⟩:=RF.len h1
   rw[List.flatMap_cons,hc]at hz
   simp only[Cl]at hh
   split at hh
   ·rename_i x y hx hy
    simp only[Option.some.injEq]at hh
    subst hh
    obtain⟨f1,p1,p2,p3⟩:=Ba g m hm hx (fun q hq=>hv q (List.mem_append_left _ hq)) h1 (fun i u' f' hu hf=>hz i u' f'
     (by rw[List.getElem?_append_left (List.getElem?_eq_some_iff.1 hu).1];exact hu)
     (by rw[List.getElem?_append_left (List.getElem?_eq_some_iff.1 hf).1];exact hf))
    obtain⟨jI,q1,q2,q3⟩:=FK g (m+l.length) (by unfold iA at hm ⊢;exact Nat.ble_eq_true_of_le (Nat.le_trans (Nat.le_of_ble_eq_true hm) (Nat.le_add_right _ _))) hy (fun q hq=>hv q (List.mem_append_right _ hq)) h2 (fun i u' f' hu hf=>by
     have:=hz (l.length+i) u' f' (by rw[List.getElem?_append_right (by omega),n1,show l.length+i-l.length=i by omega];exact hu)
      (by rw[List.getElem?_append_right (by omega),n2,show l.length+i-l.length=i by omega];exact hf)
     rwa [show m+(l.length+i)=m+l.length+i by omega]at this)
    refine⟨f1++jI,⟨cs,f1,jI,rfl,p1,q1,rfl⟩,uc.app p2 q2,?_⟩
    intro f' hf'
    rcases List.mem_append.1 hf' with hf'|hf'
    ·exact p3 _ hf'
    ·exact q3 f' hf'
   ·cases hh
 | [],_::_,_,_,_,_,_,hh,_,_,_=>by simp[Cl]at hh
 | .a _::_,[],_,_,_,_,_,hh,_,_,_=>by simp[Cl]at hh
 | .agg _::_,[],_,_,_,_,_,hh,_,_,_=>by simp[Cl]at hh
 | .a _::_, .agg _::_,_,_,_,_,_,hh,_,_,_=>by simp[Cl]at hh
 | .agg _::_, .a _::_,_,_,_,_,_,hh,_,_,_=>by simp[Cl]at hh
 | .a _::_,_,[],_,_,_,_,_,_,h,_=>h.elim
 | .agg _::_,_,[],_,_,_,_,_,_,h,_=>h.elim
 | [],[],_::_,_,_,_,_,_,_,h,_=>h.elim
end
theorem yJ: ∀{as:List S1} (m:Nat),(gW m as).1.length=as.length
 | [],_=>rfl
 | .a v::r,m=>by
   have:=yJ (as:=r) (m+1)
   have h2:=yI (vs:= [v]) m
   simp only[gW]
   generalize iC m [v]=x at h2 ⊢
   obtain⟨xs,os⟩:=x
   match xs,h2 with
   | [v'],_=>simp[this]
 | .agg l::r,m=>by
   have:=yJ (as:=r) (m+l.length)
   simp[gW,this]
theorem UB{bk:List (List Nat)}(h:bk.flatten.Nodup){i j:Nat}{f f':List Nat}(hi:bk[i]? =some f)(hj:bk[j]? =some f')(hne:i≠j): ∀b,b∈f→b∉f':=by
 induction bk generalizing i j with
 |nil=>simp at hi
 |cons g r ih=>
  rw[List.flatten_cons]at h
  obtain⟨_,n2,n3⟩:=List.nodup_append.1 h
  intro b hb hb'
  cases i with
  |zero=>
   cases j with
   |zero=>exact hne rfl
   |succ j=>
    simp at hi hj
    subst hi
    exact n3 b hb b (List.mem_flatten.2 ⟨f',List.mem_of_getElem? hj,hb'⟩) rfl
  |succ i=>
   cases j with
   |zero=>
    simp at hi hj
    subst hj
    exact n3 b hb' b (List.mem_flatten.2 ⟨f,List.mem_of_getElem? hi,hb⟩) rfl
   |succ j=>exact ih n2 (by simpa using hi) (by simpa using hj) (by omega) b hb hb'
def FL(us:List Value)(bk:List (List Nat)):Nat→CO:=fun n=>match look (Hy 1000 (us.flatMap fun u=>u.cells.toList) bk) n with|some c=>c|none=>⟨.tuple #[],[]⟩
theorem UC{as:List S1}{us:List Value}{bk:List (List Nat)}{w:World}{n:Nat}(hA:D6 w)(hL: ∀b,GS b→b∉bk.flatten)(ha:oH w as us bk)(ho:Own 0 w bk.flatten)(hn:as.length≤n):
  Inv ty ⟨w,bk.flatten,FL us bk⟩ ⟨n,enter 0 (gW 1000 as).1,(gW 1000 as).2⟩ {tmps:=us.toArray++Array.replicate (n-us.toArray.size) undef,defers:= []} w:=by
 obtain⟨q1,q2⟩:=Co 1000 ha
 have XX: ∀i u f,(us.flatMap fun u=>u.cells.toList)[i]? =some u→bk[i]? =some f→FL us bk (1000+i)=⟨u,f⟩:=by
  intro i u f hu hf
  unfold FL
  rw[Cm hu hf]
 have hall:=q2 (gW 1000 as).2 (FL us bk) (fun _ _ h=>h) XX
 have hl:=hall.len
 rw[yJ]at hl
 have MY: ∀m o,look (gW 1000 as).2 m=some o→ ∃t l f,o= .arr t l∧1000≤m∧bk[m-1000]? =some f∧(FL us bk m).fp=f∧Sl (kk t) (rd t) w (FL us bk m).v l f:=by
  intro m o hm
  obtain⟨t,l,u,f,k1,k2,k3,k4,k5⟩:=q1 m o hm
  have h:=XX _ _ _ k3 k4
  rw[show 1000+(m-1000)=m by omega]at h
  refine⟨t,l,f,k1,k2,k4,by rw[h],by rw[h];exact k5⟩
 refine⟨by simp;omega,rfl,Kept.refl _ _,⟨hA,hL⟩,FL us bk,⟨?_,?_,?_,?_,fun n _=>⟨rfl,fun b hb=>hb⟩⟩⟩
 ·intro m o hm
  obtain⟨t,l,f,rfl,k2,k3,k4,k5⟩:=MY m o hm
  have hp:iA m=true:=by unfold iA;exact Nat.ble_eq_true_of_le k2
  show mh ty w m t l _
  unfold mh
  rw[GY hp]
  refine⟨by rw[k4];exact k5,?_⟩
  rw[k4]
  have hmem:=List.mem_of_getElem? k3
  exact⟨(List.pairwise_flatten.1 ho.nodup).1 f hmem,fun _ _=>Nat.zero_le _,fun b hb=>ho.kind b (List.mem_flatten.2 ⟨f,hmem,hb⟩)⟩
 ·intro m m' o o' hne hm hm' b hb hb'
  obtain⟨t,l,f,_,k2,k3,k4,_⟩:=MY m o hm
  obtain⟨t',l',f',_,X0,ZM,k4',_⟩:=MY m' o' hm'
  rw[k4]at hb
  rw[k4']at hb'
  exact UB ho.nodup k3 ZM (by omega) b hb hb'
 ·intro s v hv
  obtain⟨x,rfl,_,hx⟩:=qa hv
  rw[Nat.sub_zero]at hx
  obtain⟨u,hu,hr⟩:=hall.at hx
  have hs:s<us.length:=(List.getElem?_eq_some_iff.1 hu).1
  have:(us.toArray++Array.replicate (n-us.toArray.size) undef).getD s undef=u:=by
   rw[Array.getD_eq_getD_getElem?,Array.getElem?_append_left (by simpa using hs)]
   simp[hu]
  show fG w _ _ x _
  rw[this]
  exact hr
 ·intro m o hm b hb
  obtain⟨t,l,f,_,k2,k3,k4,_⟩:=MY m o hm
  rw[k4]at hb
  exact Or.inl (List.mem_flatten.2 ⟨f,List.mem_of_getElem? k3,hb⟩)
theorem dr.of{P:Program}{Γ:Nat→TK}(X:Ctx P ty Γ){f:FuncId}{fn:Func}{c:Code}{rv:ResultVar}{n:Nat}{as as':List S1}{v:Value}
  (Ck: ∀(args:Array Value) (w:World),(callFunc f args).run P w= .ok (.enter f args) w)(hf:P.funcs[f]? =some fn)(hb:fn.body=some c)(hr:fn.results= [rv].toArray)(hn:fn.ntmps=n)(hlen:as.length≤n)
  (h: ∀zb,W P ty zb c (wP Γ rv as as' v) ⟨n,enter 0 (gW 1000 as).1,(gW 1000 as).2⟩):dr P f as as' v:=by
 refine⟨Ck,fun w us bk hA hL ha ho=>calls_of_wp hf hb ?_⟩
 rw[hn]
 refine wp_mono (h _ _ w (UC (ty:=ty) hA hL ha ho hlen)) ?_
 rintro e a w' ⟨st,iv,he,vc,gC,hv⟩
 have key:a.defers= []∧ ∃v',(results fn a.tmps).run P w'= .ok v' w'∧ ∃jI,(Ending.returned v'= .returned v)∧Kept ⟨w,bk.flatten,fun _=>⟨v,[]⟩⟩ w w'∧oH w' as' us jI∧Own 0 w' jI.flatten∧uc jI bk:=by
  obtain⟨env,g⟩:=iv.good
  unfold O5 at gC
  split at gC
  ·rename_i v1 oc h1 h2
   simp only[Option.some.injEq]at gC
   subst gC
   have hx:rO Γ st [rv]=some [.a (.lit v1)]:=by simp[rO,h1]
   obtain⟨vs,k1,k2,k3⟩:=Cj X.kind g hr hx (by simp)
   match vs,k1 with
   | [u],⟨k4,_⟩=>
     have hu:u=v1:=k4.1
     have Jf:v1=v:=hv.out _ (by simp)
     obtain⟨jI,q1,q2,q3⟩:=FK g 1000 rfl h2 (fun q hq=>hv.out q (List.mem_cons_of_mem _ hq)) ha (fun i u f hu hf=>by
      show FL us bk (1000+i)=_
      unfold FL
      rw[Cm hu hf])
     obtain⟨r1,r2⟩:=uc.nodup q2 ho.nodup (fun f hf=>(q3 f hf).nodup)
     refine⟨iv.defers,_,k3,jI,by rw[hu,Jf],⟨iv.kept.os,iv.kept.tape,iv.kept.output,iv.kept.size,iv.kept.block,iv.kept.shape⟩,q1,⟨r1,fun _ _=>Nat.zero_le _,fun b hb=> ?_⟩,q2⟩
     obtain⟨f,hf,hb⟩:=List.mem_flatten.1 hb
     exact(q3 f hf).kind b hb
  ·cases gC
 rcases he with rfl|rfl<;>exact key
end
section
variable{ty:Tag→Nat}
def Qk:V→V→Option (List Prop)
 |_, .any=>some []
 | .lit v, .lit u=>some [v=u]
 | .own n, .own m=>match Nat.beq n m with|true=>some []|false=>none
 | .ptr n o, .ptr m q=>match Nat.beq n m&&Nat.beq o q with|true=>some []|false=>none
 |_,_=>none
def sK:List V→List V→Option (List Prop)
 | [],[]=>some []
 |x::r,y::s=>match Qk x y,sK r s with|some vc,some vcs=>some (mI vc vcs)|_,_=>none
 |_,_=>none
def m4:Obj→Obj→Option (List Prop)
 | .arr t l, .arr t' l'=>match kg t' t l with|some l2=>some [l2=l']|none=>none
 | .box c, .box d=>sK c d
 |_,_=>none
def Gc(hp:Hp):Hp→Option (List Prop)
 | []=>some []
 | (n,o)::r=>match look hp n with
   |some x=>match m4 x o,Gc hp r with|some vc,some vcs=>some (mI vc vcs)|_,_=>none
   |none=>none
def Gd:S1→S1→Option (List Prop)
 | .a v, .a u=>sK [v] [u]
 | .agg l, .agg m=>sK l m
 |_,_=>none
def zz:List S1→List S1→Option (List Prop)
 | [],[]=>some []
 |x::r,y::s=>match Gd x y,zz r s with|some vc,some vcs=>some (mI vc vcs)|_,_=>none
 |_,_=>none
def LI(Γ:Nat→TK)(st:St)(qI:List ResultVar)(eZ:Hp)(rs:List S1):Option (List Prop):=
 match rO Γ st qI with
 |some xs=>match zz xs rs,Gc st.hp eZ with
  |some vc,some vcs=>some (mI vc vcs)
  |_,_=>none
 |none=>none
def zA(Γ:Nat→TK)(qI:List ResultVar)(eZ:Hp)(rs:List S1):Post:=fun e st=>(e= .ret∨e= .normal)∧ ∃vc,LI Γ st qI eZ rs=some vc∧ah vc
theorem zA.ret{Γ:Nat→TK}{qI:List ResultVar}{eZ:Hp}{rs:List S1}{st:St}{vc:List Prop}(h:LI Γ st qI eZ rs=some vc)(hv:ah vc):zA Γ qI eZ rs .ret st:=⟨.inl rfl,vc,h,hv⟩
theorem zA.normal{Γ:Nat→TK}{qI:List ResultVar}{eZ:Hp}{rs:List S1}{st:St}{vc:List Prop}(h:LI Γ st qI eZ rs=some vc)(hv:ah vc):zA Γ qI eZ rs .normal st:=⟨.inr rfl,vc,h,hv⟩
def ZY(eZ:Hp)(rs:List S1):Bool:=(rs.all (p8 eZ))&&(eZ.all fun e=>wO eZ e.2)&&gb eZ
section
variable{P:Program}{zb:cA}{st:St}{a:Act}{w:World}{env:Env}
theorem C5{x o:Obj}{vc:List Prop}(h:m4 x o=some vc):(∀t l,x= .arr t l→ ∃t' l',o= .arr t' l')∧ ∀c,x= .box c→ ∃d,o= .box d:=by
 cases x<;>cases o<;>simp[m4]at h ⊢
theorem C6{hp:Hp}: ∀{eZ:Hp} {vc:List Prop},Gc hp eZ=some vc→(∀q,q∈vc→q)→ ∀n o,(n,o)∈eZ→ ∃x v1,look hp n=some x∧m4 x o=some v1∧ ∀q,q∈v1→q
 | (k,y)::r,vc,h,hv,n,o,hm=>by
   simp only[Gc]at h
   split at h
   ·rename_i x hx
    split at h
    ·rename_i v1 v2 h1 h2
     simp only[Option.some.injEq,eo]at h
     subst h
     rcases List.mem_cons.1 hm with h'|h'
     ·simp only[Prod.mk.injEq]at h'
      obtain⟨rfl,rfl⟩:=h'
      exact⟨x,v1,hx,h1,fun q hq=>hv q (List.mem_append_left _ hq)⟩
     ·exact C6 h2 (fun q hq=>hv q (List.mem_append_right _ hq)) n o h'
    ·cases h
   ·cases h
theorem Ql{hp eZ:Hp}(hT: ∀n o,look eZ n=some o→ ∃x v1,look hp n=some x∧m4 x o=some v1){x y:V}{u:Value}{vc:List Prop}(hr:RA w hp env x u)(h:Qk x y=some vc)(hv: ∀q,q∈vc→q)(hn:lV eZ y=true):RA w eZ env y u:=by
 unfold Qk at h
 split at h
 ·trivial
 ·simp only[Option.some.injEq]at h
  subst h
  have e:=hv _ (List.mem_singleton.2 rfl)
  subst e
  exact hr
 ·rename_i n m
  split at h
  ·rename_i hb
   have hb:=Nat.eq_of_beq_eq_true hb
   subst hb
   obtain⟨⟨t,l,hl⟩,hu⟩:=hr
   have hno:=tO hn n rfl
   cases hq:look eZ n with
   |none=>exact absurd hq hno
   |some o=>
    obtain⟨x,v1,h1,h2⟩:=hT n o hq
    rw[hl]at h1
    simp only[Option.some.injEq]at h1
    subst h1
    obtain⟨t',l',rfl⟩:=(C5 h2).1 t l rfl
    exact⟨⟨t',l',hq⟩,hu⟩
  ·cases h
 ·rename_i n o m q
  split at h
  ·rename_i hb
   simp only[Bool.and_eq_true]at hb
   have aD:=Nat.eq_of_beq_eq_true hb.1
   have aR:=Nat.eq_of_beq_eq_true hb.2
   subst aD;subst aR
   obtain⟨⟨c,hl⟩,hu⟩:=hr
   have hno:=tO hn n rfl
   cases hq:look eZ n with
   |none=>exact absurd hq hno
   |some z=>
    obtain⟨x,v1,h1,h2⟩:=hT n z hq
    rw[hl]at h1
    simp only[Option.some.injEq]at h1
    subst h1
    obtain⟨d,rfl⟩:=(C5 h2).2 c rfl
    exact⟨⟨d,hq⟩,hu⟩
  ·cases h
 ·cases h
theorem tT{hp eZ:Hp}(hT: ∀n o,look eZ n=some o→ ∃x v1,look hp n=some x∧m4 x o=some v1): ∀{xs ys:List V} {us:List Value} {vc:List Prop},bn (RA w hp env) xs us→sK xs ys=some vc→(∀q,q∈vc→q)→(∀y,y∈ys→lV eZ y=true)→bn (RA w eZ env) ys us
 | [],ys,us,vc,hr,h,_,_=>by
   cases ys with
   |nil=>
    cases us with
    |nil=>trivial
    |cons _ _=>exact hr.elim
   |cons _ _=>simp[sK]at h
 |x::r,ys,us,vc,hr,h,hv,hn=>by
  cases us with
  |nil=>exact hr.elim
  |cons u us=>
   cases ys with
   |nil=>simp[sK]at h
   |cons y s=>
    simp only[sK]at h
    split at h
    ·rename_i v1 v2 h1 h2
     simp only[Option.some.injEq,eo]at h
     subst h
     exact⟨Ql hT hr.1 h1 (fun q hq=>hv q (List.mem_append_left _ hq)) (hn y (by simp)),tT hT hr.2 h2 (fun q hq=>hv q (List.mem_append_right _ hq)) (fun z hz=>hn z (List.mem_cons_of_mem _ hz))⟩
    ·cases h
theorem Np{hp eZ:Hp}(hT: ∀n o,look eZ n=some o→ ∃x v1,look hp n=some x∧m4 x o=some v1){x y:S1}{u:Value}{vc:List Prop}(hr:fG w hp env x u)(h:Gd x y=some vc)(hv: ∀q,q∈vc→q)(hn:p8 eZ y=true):fG w eZ env y u:=by
 cases x with
 |a v=>
  cases y with
  |a v'=>
   have:=tT hT (xs:= [v]) (us:= [u]) ⟨hr,trivial⟩ h hv (fun z hz=>by rw[List.mem_singleton.1 hz];exact hn)
   exact this.1
  |agg _=>simp[Gd]at h
 |agg l=>
  cases y with
  |a v'=>simp[Gd]at h
  |agg m=>
   obtain⟨cs,rfl,hl⟩:=hr
   exact⟨cs,rfl,tT hT hl h hv (fun z hz=>List.all_eq_true.1 hn z hz)⟩
theorem EP{hp eZ:Hp}(hT: ∀n o,look eZ n=some o→ ∃x v1,look hp n=some x∧m4 x o=some v1): ∀{xs ys:List S1} {us:List Value} {vc:List Prop},bn (fG w hp env) xs us→zz xs ys=some vc→(∀q,q∈vc→q)→(∀y,y∈ys→p8 eZ y=true)→bn (fG w eZ env) ys us
 | [],ys,us,vc,hr,h,_,_=>by
   cases ys with
   |nil=>
    cases us with
    |nil=>trivial
    |cons _ _=>exact hr.elim
   |cons _ _=>simp[zz]at h
 |x::r,ys,us,vc,hr,h,hv,hn=>by
  cases us with
  |nil=>exact hr.elim
  |cons u us=>
   cases ys with
   |nil=>simp[zz]at h
   |cons y s=>
    simp only[zz]at h
    split at h
    ·rename_i v1 v2 h1 h2
     simp only[Option.some.injEq,eo]at h
     subst h
     exact⟨Np hT hr.1 h1 (fun q hq=>hv q (List.mem_append_left _ hq)) (hn y (by simp)),EP hT hr.2 h2 (fun q hq=>hv q (List.mem_append_right _ hq)) (fun z hz=>hn z (List.mem_cons_of_mem _ hz))⟩
    ·cases h
end
theorem Vj{as:List S1}{us:List Value}{w:World}{env:Env}{fQ:Hp}{n:Nat}(hA:D6 w)(hL: ∀b,GS b→b∉wL fQ env)(hG:Hr ty w fQ env)(ha:bn (fG w fQ env) as us)(hn:as.length≤n):
  Inv ty ⟨w,wL fQ env,env⟩ ⟨n,enter 0 as,fQ⟩ {tmps:=us.toArray++Array.replicate (n-us.toArray.size) undef,defers:= []} w:=by
 have hl:=ha.len
 refine⟨by simp;omega,rfl,Kept.refl _ _,⟨hA,hL⟩,env,⟨hG.1,hG.2,fun s v hv=> ?_,fun n o h b hb=>Or.inl (List.mem_flatMap.2 ⟨_,eU h,hb⟩),fun n _=>⟨rfl,fun b hb=>hb⟩⟩⟩
 obtain⟨x,rfl,_,hx⟩:=qa hv
 rw[Nat.sub_zero]at hx
 obtain⟨u,hu,hr⟩:=ha.at hx
 have hs:s<us.length:=(List.getElem?_eq_some_iff.1 hu).1
 have:(us.toArray++Array.replicate (n-us.toArray.size) undef).getD s undef=u:=by
  rw[Array.getD_eq_getD_getElem?,Array.getElem?_append_left (by simpa using hs)]
  simp[hu]
 show fG w fQ env x _
 rw[this]
 exact hr
theorem gZ.of{P:Program}{Γ:Nat→TK}(X:Ctx P ty Γ){f:FuncId}{fn:Func}{c:Code}{qI:List ResultVar}{n:Nat}{fQ eZ:Hp}{as rs:List S1}
  (Ck: ∀(args:Array Value) (w:World),(callFunc f args).run P w= .ok (.enter f args) w)(hf:P.funcs[f]? =some fn)(hb:fn.body=some c)(hr:fn.results=qI.toArray)(hl:qI.length≤4)(hn:fn.ntmps=n)(hlen:as.length≤n)(hT:ZY eZ rs=true)
  (h: ∀zb,W P ty zb c (zA Γ qI eZ rs) ⟨n,enter 0 as,fQ⟩):gZ ty P f fQ as eZ rs:=by
 refine⟨Ck,fun w env us hA hL hG ha=>calls_of_wp hf hb ?_⟩
 rw[hn]
 refine wp_mono (h _ _ w (Vj hA hL hG ha hlen)) ?_
 simp only[ZY,Bool.and_eq_true,List.all_eq_true]at hT
 obtain⟨⟨t1,t2⟩,t3⟩:=hT
 rintro e a w' ⟨st,iv,he,vc,gC,hv⟩
 have key:a.defers= []∧ ∃v,(results fn a.tmps).run P w'= .ok v w'∧ ∃env' u,Ending.returned v= .returned u∧Kept ⟨w,wL fQ env,env⟩ w w'∧Hr ty w' eZ env'∧
   (∀n o,look eZ n=some o→ ∀b,b∈(env' n).fp→b∈wL fQ env∨w.heap.size≤b)∧(∀n,iA n=true→(env' n).v=(env n).v∧ ∀b,b∈(env' n).fp→b∈(env n).fp)∧Ws w' eZ env' rs u:=by
  obtain⟨env',g⟩:=iv.good
  unfold LI at gC
  split at gC
  ·rename_i xs hx
   split at gC
   ·rename_i v1 v2 hm1 hm2
    simp only[Option.some.injEq,eo]at gC
    subst gC
    have Jf: ∀q,q∈v1→q:=fun q hq=>hv.out q (List.mem_append_left _ hq)
    have Oy: ∀q,q∈v2→q:=fun q hq=>hv.out q (List.mem_append_right _ hq)
    obtain⟨vs,h1,h2,h3⟩:=Cj X.kind g hr hx hl
    have hmem:=C6 hm2 Oy
    have hT: ∀n o,look eZ n=some o→ ∃x v1,look st.hp n=some x∧m4 x o=some v1:=fun n o hl=>by
     obtain⟨x,v1,p1,p2,_⟩:=hmem n o (eU hl)
     exact⟨x,v1,p1,p2⟩
    have hres:=EP hT h1 hm1 Jf t1
    refine⟨iv.defers,_,h3,env',_,rfl,iv.kept,⟨fun n o hl=> ?_,fun n m o o' hne nr iI=> ?_⟩,fun n o hl b hb=> ?_,fun n hp=>g.pins n hp,?_⟩
    ·obtain⟨x,v1,p1,p2,p3⟩:=hmem n o (eU hl)
     have hro:=g.obj n x p1
     cases x with
     |arr t l=>
      cases o with
      |box d=>simp[m4]at p2
      |lT t' l' s'=>simp[m4]at p2
      |arr t' l'=>
       simp only[m4]at p2
       split at p2
       ·rename_i l2 hc
        simp only[Option.some.injEq]at p2
        subst p2
        have e2:=p3 _ (List.mem_singleton.2 rfl)
        subst e2
        obtain⟨e,rfl⟩:=dW hc
        subst e
        exact K3 (fun h=>h) hro
       ·cases p2
     |lT t l s=>cases o<;>simp[m4]at p2
     |box c=>
      cases o with
      |arr t' l'=>simp[m4]at p2
      |lT t' l' s'=>simp[m4]at p2
      |box d=>
       obtain⟨b,cs,e,q1,q2,q3⟩:=hro
       exact⟨b,cs,e,q1,q2,tT hT q3 p2 p3 (fun y hy=>List.all_eq_true.1 (t2 _ (eU hl)) y hy)⟩
    ·obtain⟨x,_,p1,_⟩:=hT n o nr
     obtain⟨y,_,p2,_⟩:=hT m o' iI
     exact g.kj n m x y hne p1 p2
    ·obtain⟨x,_,p1,_⟩:=hT n o hl
     exact g.dom n x p1 b hb
    ·match rs,vs,hres with
     | [r],[u],hres=>exact hres.1
     | [],[],hres=>exact⟨[],rfl,trivial⟩
     |r1::r2::r,u1::u2::u,hres=>exact⟨_,rfl,hres⟩
     | [],_::_,hres=>exact hres.elim
     |_::_,[],hres=>exact hres.elim
     | [_],_::_::_,hres=>exact hres.2.elim
     |_::_::_,[_],hres=>exact hres.2.elim
   ·cases gC
  ·cases gC
 rcases he with rfl|rfl<;>exact key
end
end Go.Proofs.YtmcgjpdljafkeaaGreat.G
