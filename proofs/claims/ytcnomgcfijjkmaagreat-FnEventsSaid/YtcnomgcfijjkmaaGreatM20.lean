/-
  Regions whose guards are known, and in which nil slices of a struct that was written out are taken as immutable slices.
-/
import Derived.Test.YtcnomgcfijjkmaaGreatM9
namespace Go.Proofs.YtcnomgcfijjkmaaGreat.G
set_option linter.all false
open Go.RowKit L D
section
variable{ty:Tag→Nat}
def fzn:List V→List V→List V
 | .lit (.slice none 0 0)::r, .sl t _::s=> .sl t []::fzn r s
 |v::r,_::s=>v::fzn r s
 |l,_=>l
theorem Nj{w:World}{hp:Hp}{env:Env}: ∀{l s:List V} {us:List Value},bN (RA w hp env) l us→bN (RA w hp env) (fzn l s) us
 | [],s,us,h=>by
   unfold fzn
   exact h
 |v::r,[],us,h=>by
  unfold fzn
  first
   |exact h
   | (split<;>first|exact h| (rename_i h1 h2;cases h2))
 |v::r,x::s,[],h=>h.elim
 |v::r,x::s,u::us,⟨h1,h2⟩=>by
  unfold fzn
  split
  ·rename_i r' t l' s' e1 e2
   simp only[List.cons.injEq]at e1 e2
   obtain⟨rfl,rfl⟩:=e1
   obtain⟨rfl,rfl⟩:=e2
   refine⟨⟨[],?_,by simp⟩,Nj h2⟩
   rw[h1.1]
   exact⟨none,0,rfl,Nat.le_refl _,Nat.zero_le _,Or.inl ⟨rfl,rfl,rfl⟩⟩
  ·rename_i v' r' x' s' _ e1 e2
   simp only[List.cons.injEq]at e1 e2
   obtain⟨rfl,rfl⟩:=e1
   obtain⟨rfl,rfl⟩:=e2
   exact⟨h1,Nj h2⟩
  ·exact⟨h1,h2⟩
def Vi(cr:List (Nat×CR))(d:Option Nat)(st:St):St:=match d with
 |some d=>match look cr (d+1200000),look st.sl d with
  |some ⟨_,[.agg s]⟩,some (.one (.agg c))=>⟨st.n,(d, .one (.agg (fzn c s)))::st.sl,st.hp⟩
  |_,_=>st
 |none=>st
theorem XG{zb:cK}{cr:List (Nat×CR)}{d:Option Nat}{st:St}{a:Act}{w:World}(iv:Inv ty zb st a w):Inv ty zb (Vi cr d st) a w:=by
 unfold Vi
 split
 ·rename_i d
  split
  ·rename_i own s c hq hl
   obtain⟨env,g⟩:=iv.good
   refine⟨iv.size,iv.defers,iv.kept,iv.Ap,env,g.obj,g.iB,fun t v hv=> ?_,g.dom,g.pins⟩
   by_cases ht:t=d
   ·subst ht
    rw[look_eq]at hv
    simp only[oI]at hv
    subst hv
    obtain⟨us,h1,h2⟩:fG w st.hp env (.agg c) (a.tmps.getD t undef):=g.slot t _ hl
    exact⟨us,h1,Nj h2⟩
   ·rw[bg ht]at hv
    exact g.slot t v hv
  ·exact iv
 ·exact iv
def An(P:Program)(ty:Tag→Nat)(Γ:Nat→TK)(cH:List (Nat×Nat))(cr:List (Nat×CR))(ops:List Oper):List Oper→St→List Prop→Option (List Prop×St)
 | [],st,acc=>some (acc,st)
 |o::r,st,acc=>match Hi P ty Γ cH cr ops st o with
  |some (l,s)=>match Vi cr o.dst s with
   | ⟨n,sl,hp⟩=>match l with
     | []=>An P ty Γ cH cr ops r ⟨n,sl,hp⟩ acc
     | [p]=>An P ty Γ cH cr ops r ⟨n,sl,hp⟩ (p::acc)
     | [p,q]=>An P ty Γ cH cr ops r ⟨n,sl,hp⟩ (p::q::acc)
     | [p,q,t]=>An P ty Γ cH cr ops r ⟨n,sl,hp⟩ (p::q::t::acc)
     |l=>An P ty Γ cH cr ops r ⟨n,sl,hp⟩ (l++acc)
  |none=>none
def adO(P:Program)(ty:Tag→Nat)(Γ:Nat→TK)(cH:List (Nat×Nat))(cr:List (Nat×CR))(ks hs:List Nat)(ops:List Oper):St→Option (List Prop×St)
 | ⟨n,I8,fQ⟩=>match An P ty Γ cH cr ops ops ⟨n,I8,fQ⟩ []with
 |some (vc,st')=>match wP st'.sl ks,wQ st'.hp (Gz st'.sl st'.hp ks hs)with
  |some sl,some hp=>match ng sl hp,Nat.beq st'.n n with
   |true,true=>some (vc,⟨n,sl,hp⟩)
   |_,_=>none
  |_,_=>none
 |none=>none
section
variable{P:Program}{zb:cK}{st st':St}{a:Act}{w:World}{Q:Exit→Act→World→Prop}{o:Oper}
theorem FF{Γ:Nat→TK}{cH:List (Nat×Nat)}{cr:List (Nat×CR)}{ops:List Oper}{mM:St}{vcs:List Prop}{o:Oper}{r:List Oper}{st:St}{acc:List Prop}(h:An P ty Γ cH cr ops (o::r) st acc=some (vcs,mM)):
  ∃q:List Prop×St,Hi P ty Γ cH cr ops st o=some q∧An P ty Γ cH cr ops r (Vi cr o.dst q.2) (q.1++acc)=some (vcs,mM):=by
 simp only[An]at h
 split at h
 case h_2=>cases h
 rename_i l s h1
 refine⟨(l,s),h1,?_⟩
 generalize Vi cr o.dst s=z at h ⊢
 obtain⟨n,sl,hp⟩:=z
 dsimp only at h ⊢
 repeat' split at h
 all_goals exact h
theorem Lr{Γ:Nat→TK}{cH:List (Nat×Nat)}{cr:List (Nat×CR)}{ops:List Oper}{mM:St}{vcs:List Prop}: ∀{l:List Oper} {st:St} {acc:List Prop},An P ty Γ cH cr ops l st acc=some (vcs,mM)→ ∀q,q∈acc→q∈vcs
 | [],st,acc,h,q,hq=>by
   simp only[An,oI,pI]at h
   rw[←h.1];exact hq
 |o::r,st,acc,h,q,hq=>by
  obtain⟨l,h⟩:=FF h
  exact Lr h.2 q (List.mem_append_right _ hq)
theorem O6{Γ:Nat→TK}(C: ∀t,c8 P t (Γ t))(Z: ∀t,(∀z tg fo,Γ t≠ .st z tg fo)→Γ t≠ .other→(P.info? t).map (·.size)=some 1){cH:List (Nat×Nat)}{cr:List (Nat×CR)}{ops:List Oper}{mM:St}{vcs:List Prop}
  (hQ: ∀a w,Inv ty zb mM a w→Q .normal a w): ∀{l:List Oper} {st:St} {acc:List Prop} {a:Act} {w:World},An P ty Γ cH cr ops l st acc=some (vcs,mM)→(∀q,q∈vcs→q)→Inv ty zb st a w→wpList P ops.toArray Q l a w
 | [],st,acc,a,w,h,hv,iv=>by
   simp only[An,oI,pI]at h
   obtain⟨_,rfl⟩:=h
   exact hQ a w iv
 |o::r,st,acc,a,w,h,hv,iv=>by
  obtain⟨⟨l,s1⟩,h1,h2⟩:=FF h
  have:=Ln (Q:=Q) C Z h1 iv (fun q hq=>hv q (Lr h2 q (List.mem_append_left _ hq)))
  exact this.mono fun a' w' kI=>O6 C Z hQ h2 hv (XG kI)
end
section
variable{P:Program}{Γ:Nat→TK}{zb:cK}{Q:Post}{st:St}
theorem XH(X:Ctx P ty Γ)(cH:List (Nat×Nat))(cr:List (Nat×CR))(ks hs:List Nat){id:Nat}{ops:List Oper}{vc:List Prop}{st':St}(h:G.adO P ty Γ cH cr ks hs ops st=some (vc,st'))(hv:lB vc)(k:Q .normal st'):W P ty zb (.region id ops.toArray false) Q st:=by
 intro a w iv
 have hsp: ∃s1,An P ty Γ cH cr ops ops st []=some (vc,s1)∧ ∀a w,Inv ty zb s1 a w→Inv ty zb st' a w:=by
  obtain⟨n,I8,fQ⟩:=st
  simp only[G.adO]at h
  split at h
  ·rename_i nM s1 hr
   split at h
   ·rename_i sl hp h1 h2
    split at h
    ·rename_i hc hn
     simp only[oI,pI]at h
     obtain⟨rfl,rfl⟩:=h
     exact⟨s1,hr,fun a w iv=>iv.weaken (Nat.eq_of_beq_eq_true hn).symm (iC h1) (iD h2) hc⟩
    ·cases h
   ·cases h
  ·cases h
 obtain⟨s1,h1,h2⟩:=hsp
 exact wp_region_lit (O6 X.kind X.one (fun a w kI=>⟨st',h2 a w kI,k⟩) h1 hv.out iv)
end
end
end Go.Proofs.YtcnomgcfijjkmaaGreat.G
