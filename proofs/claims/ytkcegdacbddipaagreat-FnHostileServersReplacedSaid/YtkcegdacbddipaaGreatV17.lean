/-
  Regions whose guards are known.
-/
import Derived.Test.YtkcegdacbddipaaGreatV9
namespace Go.Proofs.YtkcegdacbddipaaGreat.G
set_option linter.all false
open Go.RowKit L D
section
variable{ty:Tag→Nat}
def gk(cr:List (Nat×CR))(ops:List Oper)(st:St)(o:Oper):Option (Bool×Prop):=match o.guard with
 |some (j,x)=>match ops[j]? with
  |some q=>match q.dst with
   |some d=>match look cr (d+1100000),look st.sl d with
    |some ⟨y,_⟩,some (.one (.a (.lit (.bool b))))=>some (x==y,b=y)
    |_,_=>none
   |none=>none
  |none=>none
 |none=>none
def pk(cr:List (Nat×CR))(st:St)(o:Oper):Option (Oper×Prop):=match o.op with
 | .pick (.tmp c) x y=>match look cr (c+1100000),look st.sl c with
   |some ⟨z,_⟩,some (.one (.a (.lit (.bool b))))=>some ({o with op:= .move (match z with|true=>x|false=>y)},b=z)
   |_,_=>none
 |_=>none
def ung(o:Oper):Oper:={o with guard:=none}
def step2(P:Program)(ty:Tag→Nat)(Γ:Nat→TK)(cO:List (Nat×Nat))(cr:List (Nat×CR))(ops:List Oper)(st:St)(o:Oper):Option (List Prop×St):=
 match gk cr ops st o with
 |none=>match pk cr st o with
  |some (o',p)=>match step P ty Γ cO cr ops st o' with
   |some (vc,st')=>some (p::vc,st')
   |none=>none
  |none=>step P ty Γ cO cr ops st o
 |some (true,p)=>match step P ty Γ cO cr ops st (ung o)with
  |some (vc,st')=>some (p::vc,st')
  |none=>none
 |some (false,p)=>match wD st o.dst with
  |true=>some ([p],st.put o.dst (.one (.a .any)))
  |false=>none
def tE(P:Program)(ty:Tag→Nat)(Γ:Nat→TK)(cO:List (Nat×Nat))(cr:List (Nat×CR))(ops:List Oper):List Oper→St→List Prop→Option (List Prop×St)
 | [],st,acc=>some (acc,st)
 |o::r,st,acc=>match step2 P ty Γ cO cr ops st o with
  |some ([],⟨n,sl,hp⟩)=>tE P ty Γ cO cr ops r ⟨n,sl,hp⟩ (acc)
  |some ([p0],⟨n,sl,hp⟩)=>tE P ty Γ cO cr ops r ⟨n,sl,hp⟩ (p0::acc)
  |some ([p0,p1],⟨n,sl,hp⟩)=>tE P ty Γ cO cr ops r ⟨n,sl,hp⟩ (p0::p1::acc)
  |some ([p0,p1,p2],⟨n,sl,hp⟩)=>tE P ty Γ cO cr ops r ⟨n,sl,hp⟩ (p0::p1::p2::acc)
  |some ([p0,p1,p2,p3],⟨n,sl,hp⟩)=>tE P ty Γ cO cr ops r ⟨n,sl,hp⟩ (p0::p1::p2::p3::acc)
  |some ([p0,p1,p2,p3,p4],⟨n,sl,hp⟩)=>tE P ty Γ cO cr ops r ⟨n,sl,hp⟩ (p0::p1::p2::p3::p4::acc)
  |some ([p0,p1,p2,p3,p4,p5],⟨n,sl,hp⟩)=>tE P ty Γ cO cr ops r ⟨n,sl,hp⟩ (p0::p1::p2::p3::p4::p5::acc)
  |some (l,⟨n,sl,hp⟩)=>tE P ty Γ cO cr ops r ⟨n,sl,hp⟩ (l++acc)
  |none=>none
def abw(P:Program)(ty:Tag→Nat)(Γ:Nat→TK)(cO:List (Nat×Nat))(cr:List (Nat×CR))(ks hs:List Nat)(ops:List Oper):St→Option (List Prop×St)
 | ⟨n,WB,gl⟩=>match tE P ty Γ cO cr ops ops ⟨n,WB,gl⟩ []with
 |some (vc,st')=>match AI st'.sl ks,AJ st'.hp (Mq st'.sl st'.hp ks hs)with
  |some sl,some hp=>match qd sl hp,Nat.beq st'.n n with
   |true,true=>some (vc,⟨n,sl,hp⟩)
   |_,_=>none
  |_,_=>none
 |none=>none
section
variable{P:Program}{zb:cm}{st st':St}{a:Act}{w:World}{Q:Exit→Act→World→Prop}{o:Oper}
theorem gD.ung{ops:Array Oper}{K:Act→World→Prop}(hw:Region.wanted o (yielded ops a.tmps)=true)(h:gD P ops (ung o) a w K Q):gD P ops o a w K Q:=by
 unfold gD at h ⊢
 rw[if_pos (by simp[Region.wanted,G.ung])]at h
 rw[if_pos hw]
 exact h
theorem gD.as{ops:Array Oper}{op':Op}{K:Act→World→Prop}(he:execOp a.eval o=execOp a.eval {o with op:=op'})(hr:gD P ops {o with op:=op'} a w K Q):gD P ops o a w K Q:=by
 have hwp:o.wp P a w K Q↔Oper.wp P {o with op:=op'} a w K Q:=by
  unfold Oper.wp
  rw[he]
  rfl
 have has:o.asks P a w↔Oper.asks P {o with op:=op'} a w:=by
  unfold Oper.asks
  rw[he]
 unfold gD at hr ⊢
 rw[hwp,has]
 exact hr
theorem gD.pk{cr:List (Nat×CR)}{ops:Array Oper}{o':Oper}{p:Prop}{K:Act→World→Prop}(iv:Inv ty zb st a w)(h:G.pk cr st o=some (o',p))(hp:p)(hr:gD P ops o' a w K Q):gD P ops o a w K Q:=by
 unfold G.pk at h
 split at h
 case h_2=>cases h
 rename_i c x y ho
 split at h
 case h_2=>cases h
 rename_i z rs b hl hs
 simp only[oI,pI]at h
 obtain⟨rfl,rfl⟩:=h
 obtain⟨env,g⟩:=iv.good
 have hs1:=g.slot c _ hs
 have oK:a.eval (.tmp c)= .bool b:=(show eT w st.hp env (.a (.lit (.bool b))) (a.tmps.getD c undef)from hs1).lit
 subst hp
 cases b with
 |true=>exact gD.as (by unfold execOp;simp only[ho,oK];rfl) hr
 |false=>exact gD.as (by unfold execOp;simp only[ho,oK];rfl) hr
theorem Tw{Γ:Nat→TK}(C: ∀t,cG P t (Γ t))(Z: ∀t,(∀z tg fo,Γ t≠ .st z tg fo)→Γ t≠ .other→(P.info? t).map (·.size)=some 1){cO:List (Nat×Nat)}{cr:List (Nat×CR)}{ops:List Oper}{vc:List Prop}(h:step2 P ty Γ cO cr ops st o=some (vc,st'))(iv:Inv ty zb st a w)(hv: ∀q,q∈vc→q):
  gD P ops.toArray o a w (fun a' w'=>Inv ty zb st' a' w') Q:=by
 have hgk: ∀{x:Bool} {p:Prop},gk cr ops st o=some (x,p)→p→(Region.wanted o (yielded ops.toArray a.tmps)=true↔x=true):=by
  intro x p hq hp
  unfold gk at hq
  split at hq
  case h_2=>cases hq
  rename_i j y hg
  split at hq
  case h_2=>cases hq
  rename_i q hj
  split at hq
  case h_2=>cases hq
  rename_i d hd
  split at hq
  case h_2=>cases hq
  rename_i z rs b hl hs
  simp only[oI,pI]at hq
  obtain⟨rfl,rfl⟩:=hq
  rw[p8 hg (by simpa using hj) hd]
  obtain⟨env,g⟩:=iv.good
  have hs1:=g.slot d _ hs
  have oK:=(show eT w st.hp env (.a (.lit (.bool b))) (a.tmps.getD d undef)from hs1).lit
  rw[Array.getD_eq_getD_getElem?]at oK
  have hs3:a.tmps[d]? =some (.bool b):=by
   cases Et:a.tmps[d]? with
   |none=>rw[Et]at oK;simp[undef]at oK
   |some u=>rw[Et]at oK;simp only[Option.getD_some]at oK;rw[oK]
  rw[hs3]
  simp only[oI,Value.bool.injEq]
  subst hp
  constructor
  ·rintro rfl;simp
  ·intro h;exact(eq_of_beq h).symm
 unfold step2 at h
 split at h
 ·split at h
  ·rename_i o' p hq
   split at h
   case h_2=>cases h
   rename_i nH Bc hs
   simp only[oI,pI]at h
   obtain⟨rfl,rfl⟩:=h
   have hp:p:=hv p (by simp)
   exact gD.pk iv hq hp (tR C Z hs iv fun q hq=>hv q (by simp[hq]))
  ·exact tR C Z h iv hv
 ·rename_i p hq
  split at h
  case h_2=>cases h
  rename_i nH Bc hs
  simp only[oI,pI]at h
  obtain⟨rfl,rfl⟩:=h
  have hp:p:=hv p (by simp)
  exact gD.ung ((hgk hq hp).2 rfl) (tR C Z hs iv fun q hq=>hv q (by simp[hq]))
 ·rename_i p hq
  split at h
  case h_2=>cases h
  rename_i hd
  simp only[oI,pI]at h
  obtain⟨rfl,rfl⟩:=h
  have hp:p:=hv p (by simp)
  have hw: ¬Region.wanted o (yielded ops.toArray a.tmps)=true:=fun hw=>by have:=(hgk hq hp).1 hw;cases this
  unfold gD
  rw[if_neg hw]
  obtain⟨env,g⟩:=iv.good
  exact⟨by rw[gC,uR];exact iv.size,by rw[put_defers];exact iv.defers,iv.kept,iv.Ej,env,mL g (Gi iv hd) trivial (fun d _=>rfl)⟩
theorem Ec{Γ:Nat→TK}{cO:List (Nat×Nat)}{cr:List (Nat×CR)}{ops:List Oper}{BC:St}{vcs:List Prop}{o:Oper}{r:List Oper}{st:St}{acc:List Prop}(h:tE P ty Γ cO cr ops (o::r) st acc=some (vcs,BC)):
  ∃q:List Prop×St,step2 P ty Γ cO cr ops st o=some q∧tE P ty Γ cO cr ops r q.2 (q.1++acc)=some (vcs,BC):=by
 simp only[tE]at h
 repeat' split at h
 all_goals first
  | (cases h;done)
  | (rename_i h1;exact⟨_,h1,h⟩)
theorem Ke{Γ:Nat→TK}{cO:List (Nat×Nat)}{cr:List (Nat×CR)}{ops:List Oper}{BC:St}{vcs:List Prop}: ∀{l:List Oper} {st:St} {acc:List Prop},tE P ty Γ cO cr ops l st acc=some (vcs,BC)→ ∀q,q∈acc→q∈vcs
 | [],st,acc,h,q,hq=>by
   simp only[tE,oI,pI]at h
   rw[←h.1];exact hq
 |o::r,st,acc,h,q,hq=>by
  obtain⟨l,h⟩:=Ec h
  exact Ke h.2 q (List.mem_append_right _ hq)
theorem NJ{Γ:Nat→TK}(C: ∀t,cG P t (Γ t))(Z: ∀t,(∀z tg fo,Γ t≠ .st z tg fo)→Γ t≠ .other→(P.info? t).map (·.size)=some 1){cO:List (Nat×Nat)}{cr:List (Nat×CR)}{ops:List Oper}{BC:St}{vcs:List Prop}
  (hQ: ∀a w,Inv ty zb BC a w→Q .normal a w): ∀{l:List Oper} {st:St} {acc:List Prop} {a:Act} {w:World},tE P ty Γ cO cr ops l st acc=some (vcs,BC)→(∀q,q∈vcs→q)→Inv ty zb st a w→wpList P ops.toArray Q l a w
 | [],st,acc,a,w,h,hv,iv=>by
   simp only[tE,oI,pI]at h
   obtain⟨_,rfl⟩:=h
   exact hQ a w iv
 |o::r,st,acc,a,w,h,hv,iv=>by
  obtain⟨⟨l,s1⟩,h1,h2⟩:=Ec h
  have:=Tw (Q:=Q) C Z h1 iv (fun q hq=>hv q (Ke h2 q (List.mem_append_left _ hq)))
  exact this.mono fun a' w' oA=>NJ C Z hQ h2 hv oA
end
section
variable{P:Program}{Γ:Nat→TK}{zb:cm}{Q:Post}{st:St}
theorem NK(X:Ctx P ty Γ)(cO:List (Nat×Nat))(cr:List (Nat×CR))(ks hs:List Nat){id:Nat}{ops:List Oper}{vc:List Prop}{st':St}(h:G.abw P ty Γ cO cr ks hs ops st=some (vc,st'))(hv:jX vc)(k:Q .normal st'):W P ty zb (.region id ops.toArray false) Q st:=by
 intro a w iv
 have hsp: ∃s1,tE P ty Γ cO cr ops ops st []=some (vc,s1)∧ ∀a w,Inv ty zb s1 a w→Inv ty zb st' a w:=by
  obtain⟨n,WB,gl⟩:=st
  simp only[G.abw]at h
  split at h
  ·rename_i nH s1 hr
   split at h
   ·rename_i sl hp h1 h2
    split at h
    ·rename_i hc hn
     simp only[oI,pI]at h
     obtain⟨rfl,rfl⟩:=h
     exact⟨s1,hr,fun a w iv=>iv.weaken (Nat.eq_of_beq_eq_true hn).symm (kj h1) (ko h2) hc⟩
    ·cases h
   ·cases h
  ·cases h
 obtain⟨s1,h1,h2⟩:=hsp
 exact wp_region_lit (NJ X.kind X.one (fun a w oA=>⟨st',h2 a w oA,k⟩) h1 hv.out iv)
end
end
end Go.Proofs.YtkcegdacbddipaaGreat.G
