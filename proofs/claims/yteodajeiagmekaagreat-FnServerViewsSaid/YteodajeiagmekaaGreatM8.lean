/-
  Calls that are lent memory: what they find there and what they leave.
-/
import Derived.ArgAppend
import Derived.Test.YteodajeiagmekaaGreatM7
namespace Go.Proofs.YteodajeiagmekaaGreat.G
set_option linter.all false
open Go.RowKit L D
section
variable{ty:Tag→Nat}
section
variable{P:Program}{zb:bY}{st:St}{a:Act}{w:World}{env:Env}{Q:Exit→Act→World→Prop}{o:Oper}
theorem DF{hp:Hp}{env:Env}: ∀{z:List Value},(∀v,v∈z→v.oneCell'=true)→bt (RA w hp env) (z.map V.lit) z
 | [],_=>trivial
 |v::r,h=>⟨⟨rfl,h v (by simp)⟩,DF fun u hu=>h u (by simp[hu])⟩
theorem jR(g:Good ty zb st a.tmps w env){v:V}{u:Value}(h:RA w st.hp env v u)(hv:v≠ .any):u.cells= #[u]:=by
 cases v with
 |any=>exact absurd rfl hv
 |lit x=>obtain⟨rfl,h1⟩:=h;cases u<;>simp_all [Value.cells,Value.oneCell']
 |sl t l=>obtain⟨fp,⟨oa,cap,rfl,_⟩,_⟩:=h;rfl
 |own n=>
  obtain⟨⟨t,l,hl⟩,rfl⟩:=h
  obtain⟨oa,cap,h,_⟩:=RO.sl (g.obj n _ hl)
  rw[h];rfl
 |ptr n off=>obtain⟨_,b,_,rfl⟩:=h;rfl
 |Aj f n=>obtain⟨_,b,_,rfl⟩:=h;rfl
 |vR k=>obtain⟨oa,cap,rfl,_⟩:=h;rfl
 |fY v t l=>obtain⟨_,fp,⟨oa,cap,rfl,_⟩,_⟩:=h;rfl
 |mM n i off=>obtain⟨t,l,_,b,o,len,cap,_,rfl⟩:=h;rfl
 |ip t x off=>obtain⟨b,o,cs,fp,rfl,_⟩:=h;rfl
 |vw n p t l=>obtain⟨_,⟨fp,⟨oa,cap,rfl,_⟩,_⟩,_⟩:=h;rfl
 |BZ n t l=>obtain⟨_,b,fp,⟨oa,cap,rfl,_⟩,_⟩:=h;rfl
 |mix n c t l=>obtain⟨_,⟨fp,⟨oa,cap,rfl,_⟩,_⟩,_⟩:=h;rfl
 |Ag n=>
  obtain⟨⟨t,l,s,hl⟩,rfl⟩:=h
  obtain⟨_,us,hB,_⟩:=g.obj n _ hl
  obtain⟨oa,cap,h,_⟩:=hB.sl
  rw[h];rfl
 |BY n p t x off=>obtain⟨_,b,o,cs,fp,rfl,_⟩:=h;rfl
theorem Vr{op:BinOp}{k k':IntKind}{x y:Int}{vc:List Prop}{v:Value}(h:Vh op k k' x y=some (vc,v))(hv: ∀q,q∈vc→q){t:TypeId}{X Y:Operand}:
  (do eqGuard op t X Y (.int k x) (.int k' y);binOp op t (.int k x) (.int k' y):Sem Value).run P w= .ok v w∧v.oneCell'=true:=by
 have gen:(∀(_: ¬(op= .shl∨op= .shr)),(match decEq k k' with|isTrue _=>bop op k x y|isFalse _=>none)=some (vc,v)→(do eqGuard op t X Y (.int k x) (.int k' y);binOp op t (.int k x) (.int k' y):Sem Value).run P w= .ok v w∧v.oneCell'=true):=by
  intro _ h'
  clear h
  split at h'
  ·rename_i hk _
   subst hk
   exact YH h' hv
  ·cases h'
 cases op with
 |shl=>
  simp only[Vh,Option.some.injEq,Prod.mk.injEq]at h
  obtain⟨rfl,rfl⟩:=h
  have hy: ¬y<0:=by have:0≤y:=hv _ (List.mem_singleton.2 rfl);omega
  refine⟨?_,rfl⟩
  simp[eqGuard,binOp,Op.shift,hy]
 |shr=>
  simp only[Vh,Option.some.injEq,Prod.mk.injEq]at h
  obtain⟨rfl,rfl⟩:=h
  have hy: ¬y<0:=by have:0≤y:=hv _ (List.mem_singleton.2 rfl);omega
  refine⟨?_,rfl⟩
  simp[eqGuard,binOp,Op.shift,hy]
 |_=>exact gen (by simp) h
theorem Vt{op:BinOp}{x y:ByteArray}{vc:List Prop}{v:Value}(h:Pe op x y=some (vc,v))(hv: ∀q,q∈vc→q){t:TypeId}{X Y:Operand}:
  (do eqGuard op t X Y (.string x) (.string y);binOp op t (.string x) (.string y):Sem Value).run P w= .ok v w∧v.oneCell'=true:=by
 cases op with
 |add=>
  simp only[Pe,Option.some.injEq,Prod.mk.injEq]at h
  obtain⟨rfl,rfl⟩:=h
  have hy:((x.size+y.size:Nat):Int)≤IntKind.i64.max:=hv _ (List.mem_singleton.2 rfl)
  refine⟨?_,rfl⟩
  have hy': ¬((x.size+y.size:Nat):Int)>IntKind.i64.max:=by omega
  simp only[eqGuard,binOp,Op.stringOp,if_neg hy']
  rfl
 |eql=>
  simp only[Pe,Option.some.injEq,Prod.mk.injEq]at h
  obtain⟨rfl,rfl⟩:=h
  exact⟨by simp[eqGuard,binOp,Op.stringOp],rfl⟩
 |neq=>
  simp only[Pe,Option.some.injEq,Prod.mk.injEq]at h
  obtain⟨rfl,rfl⟩:=h
  exact⟨by simp[eqGuard,binOp,Op.stringOp],rfl⟩
 |_=>simp[Pe]at h
theorem No{v:S1}{u:Value}{f:FuncId}(hr:fP w st.hp env v u)(h:Vi v=some f):u= .func (.func f) #[] #[]:=by
 unfold Vi at h
 split at h
 ·simp only[Option.some.injEq]at h
  subst h
  exact hr.lit
 ·cases h
theorem Pj(l:List UInt8):strOfNums (l.map fun n=>(n.toNat:Int))=Fv l:=by
 unfold strOfNums Fv
 congr 2
 rw[List.map_map]
 conv=>rhs;rw[←List.map_id l]
 apply List.map_congr_left
 intro n _
 simp
theorem B3(ad:Addr)(cap:Nat):(Conv.bytesToString (.slice (some ad) 0 cap)).run P w= .ok (.string (Fv [])) w:=by
 have:=run_bytesToString (P:=P) w ad 0 cap [] (by simp[loadCells,loadCellsFrom])
 exact this
theorem Bv{a b:List (List Nat)}(h:a.Sublist b):a.flatten.Sublist b.flatten:=by
 induction h with
 |slnil=>exact List.Sublist.refl _
 |cons x _ ih=>rw[List.flatten_cons];exact ih.trans (List.sublist_append_right _ _)
 |cons_cons x _ ih=>rw[List.flatten_cons,List.flatten_cons];exact List.Sublist.append (List.Sublist.refl _) ih
theorem As{t:Nat}{x:Operand}{lo hi:Option Operand}(ho:o.op= .slice t x lo hi none){g:Tag}{e:Nat}(hk:cA P t (.sl g e)){t':Tag}{l:List (T t')}(hkk:kk g=kk t'){fp:List Nat}(hx:Sl (kk t') (rd t') w (a.eval x) l fp){n1 n2:Int}
  (h1:(lo=none∧n1=0)∨ ∃y k,lo=some y∧a.eval y= .int k n1)(h2:(hi=none∧n2=l.length)∨ ∃y k,hi=some y∧a.eval y= .int k n2)(q0:0≤n1)(q1:n1≤n2)(q2:n2≤(l.length:Int)):
  ∃u' gA,(execOp a.eval o).run P w= .ok (.value u') w∧Sl (kk t') (rd t') w u' ((l.take n2.toNat).drop n1.toNat) gA∧gA.Sublist fp:=by
 obtain⟨hu,hs⟩:=hk
 obtain⟨oa,cap,hv,hc,hm,h3⟩:=hx
 cases hq:P.info? e with
 |none=>simp[hq]at hs
 |some inf=>
  have hsz:inf.size=kk g:=by simpa[hq]using hs
  have hcap:n2≤(cap:Int):=by omega
  have hn2:0≤n2:=by omega
  have Lo:max n2 0=n2:=by omega
  have hlen:((l.take n2.toNat).drop n1.toNat).length=n2.toNat-n1.toNat:=by simp;omega
  have hrun:(Instr.sliceAt t (.slice oa l.length cap) (lo.map a.eval) (hi.map a.eval) none).run P w= .ok (.slice (if cap=n1.toNat then oa else oa.map (·.add (n1.toNat*kk g))) (n2.toNat-n1.toNat) (cap-n1.toNat)) w:=by
   rcases h1 with⟨rfl,rfl⟩| ⟨y1,k1,rfl,e1⟩<;>rcases h2 with⟨rfl,rfl⟩| ⟨y2,k2,rfl,e2⟩
   all_goals simp[Instr.sliceAt,Instr.slice,Instr.sliceBounds,Instr.sliceBound,asIntOf,run_underlying hu,sizeOf,typeInfo,hq,hsz, *]
  have hex:(execOp a.eval o).run P w= .ok (.value (.slice (if cap=n1.toNat then oa else oa.map (·.add (n1.toNat*kk g))) (n2.toNat-n1.toNat) (cap-n1.toNat))) w:=by
   unfold execOp
   simp only[ho,hv,Option.map_none,Sem.run_bind,hrun,Result.andThen_ok,Sem.run_pure]
  rcases h3 with⟨rfl,rfl,hn⟩| ⟨b,off,bh,rfl,hb,rfl,hE⟩
  ·have e0:n1=0:=by simp at q2;omega
   have e2:n2=0:=by simp at q2;omega
   subst e0;subst e2
   refine⟨_,[],hex,⟨_,_,rfl,by simp,by omega,Or.inl ⟨by simp,rfl,?_⟩⟩,List.nil_sublist _⟩
   intro Lp
   split at Lp
   ·rw[hn Lp];rfl
   ·cases oa with
    |none=>rw[hn rfl];rfl
    |some _=>simp at Lp
  ·by_cases hcn:cap=n1.toNat
   ·have e0:(l.take n2.toNat).drop n1.toNat= []:=by
     apply List.eq_nil_of_length_eq_zero;omega
    refine⟨_,[],hex,⟨_,_,by rw[hlen],by rw[hlen];omega,by omega,Or.inl ⟨e0,rfl,?_⟩⟩,List.nil_sublist _⟩
    intro Lp;rw[if_pos hcn]at Lp;cases Lp
   ·refine⟨_,b::((bh.take n2.toNat).drop n1.toNat).flatten,hex,⟨_,_,by rw[hlen],by rw[hlen];omega,by omega,Or.inr ⟨b,off+n1.toNat*kk t',(bh.take n2.toNat).drop n1.toNat,?_,hb,rfl,?_,?_⟩⟩,?_⟩
    ·rw[if_neg hcn,hkk];simp[Addr.add_mid]
    ·have:=hE.1;simp[this]
    ·intro i x f hx hf
     rw[List.getElem?_drop,List.getElem?_take]at hx hf
     split at hx
     ·rename_i hlt
      rw[if_pos hlt]at hf
      obtain⟨cs,k1,k2⟩:=hE.2 _ x f hx hf
      exact⟨cs,by rw[Nat.add_assoc, ←Nat.add_mul];exact k1,k2⟩
     ·cases hx
    ·exact List.Sublist.cons_cons _ (Bv ((List.drop_sublist _ _).trans (List.take_sublist _ _)))
theorem I7{t:Nat}{x:Operand}{lo:Option Operand}(ho:o.op= .slice t x lo none none){g:Tag}{e:Nat}(hk:cA P t (.sl g e)){oa:Option Addr}{n cap:Nat}(hv:a.eval x= .slice oa n cap)(hc:n≤cap){n1:Int}
  (h1:(lo=none∧n1=0)∨ ∃y k,lo=some y∧a.eval y= .int k n1)(hn:n1=(n:Int)):
  ∃XB,(execOp a.eval o).run P w= .ok (.value (.slice XB 0 (cap-n))) w∧(XB=none→oa=none):=by
 obtain⟨hu,hs⟩:=hk
 cases hq:P.info? e with
 |none=>simp[hq]at hs
 |some inf=>
  have hsz:inf.size=kk g:=by simpa[hq]using hs
  subst hn
  have Lo:max (n:Int) 0=n:=by omega
  refine⟨if cap=n then oa else oa.map (·.add (n*kk g)),?_,fun h=> ?_⟩
  ·have hrun:(Instr.sliceAt t (.slice oa n cap) (lo.map a.eval) none none).run P w= .ok (.slice (if cap=n then oa else oa.map (·.add (n*kk g))) 0 (cap-n)) w:=by
    have h0:(n:Int)≤(cap:Int):=by omega
    rcases h1 with⟨rfl,e1⟩| ⟨y1,k1,rfl,e1⟩
    ·have:n=0:=by omega
     subst this
     simp[Instr.sliceAt,Instr.slice,Instr.sliceBounds,Instr.sliceBound,asIntOf,run_underlying hu,sizeOf,typeInfo,hq,hsz]
    ·simp[Instr.sliceAt,Instr.slice,Instr.sliceBounds,Instr.sliceBound,asIntOf,run_underlying hu,sizeOf,typeInfo,hq,hsz, *]
   unfold execOp
   simp only[ho,hv,Option.map_none,Sem.run_bind,hrun,Result.andThen_ok,Sem.run_pure]
  ·split at h
   ·exact h
   ·simpa using h
theorem bW.at{w:World}: ∀{c:List V} {cs:List Value} {f:List Nat} {i:Nat} {v:V},bW w c cs f→yp c i=some v→ ∃u f',cs[i]? =some u∧RI w v u f'∧f'.Sublist f
 |x::r,u::us,_,0,v,⟨f1,f2,h1,_,rfl⟩,h=>by
  simp only[yp,Option.some.injEq]at h
  subst h
  exact⟨u,f1,rfl,h1,List.sublist_append_left _ _⟩
 |x::r,u::us,_,i+1,v,⟨f1,f2,_,h2,rfl⟩,h=>by
  obtain⟨u',f',k1,k2,k3⟩:=bW.at h2 (show yp r i=some v from h)
  exact⟨u',f',by simpa using k1,k2,k3.trans (List.sublist_append_right _ _)⟩
 | [],_,_,_,_,_,h=>by simp[yp]at h
 |_::_,[],_,_,_,h,_=>h.elim
theorem DG(g:Good ty zb st a.tmps w env){n:Nat}{t:Tag}{l:List (T t)}(hl:look st.hp n=some (.arr t l)){i:Nat}(hi:i<l.length):
  ∃b o cap cs f,(env n).v= .slice (some ⟨b,o,none⟩) l.length cap∧b∈(env n).fp∧w.rangeAt b (o+i*kk t) cs∧rd t w cs (l.getD i (au t)) f∧f.Sublist (env n).fp:=by
 obtain⟨oa,cap,hv,_,_,h3⟩:=RO.sl (g.obj n _ hl)
 rcases h3 with⟨rfl,_⟩| ⟨b,o,bh,rfl,hb,ig,he⟩
 ·simp at hi
 ·have hx:l[i]? =some (l.getD i (au t)):=by rw[List.getD_eq_getElem?_getD,List.getElem?_eq_getElem hi];rfl
  obtain⟨f,hf⟩:=ji he.1 hx
  obtain⟨cs,hr,hE⟩:=he.2 _ _ f hx hf
  exact⟨b,o,cap,cs,f,hv,by rw[ig];simp,hr,hE,by rw[ig];exact(List.sublist_flatten_of_mem (List.mem_of_getElem? hf)).trans (List.sublist_cons_self _ _)⟩
theorem Hh{hp:Hp}{n:Nat}{t0:Tag}{l0:List (T t0)}(hl:look hp n=some (.arr t0 l0)){p:Option (Nat×Nat)}{v:V}{u:Value}{f:List Nat}(h:RI w v u f)(hnd:f.Nodup)(hf: ∀b,b∈f→b∈(env n).fp)
  (iZ: ∀i off,p=some (i,off)→ ∃b o len cap,i<l0.length∧yp (dec t0 (l0.getD i (au t0))) off=some v∧(env n).v= .slice (some ⟨b,o,none⟩) len cap∧b∈(env n).fp∧w.cell? ⟨b,o+i*kk t0+off,none⟩=some u):RA w hp env (bor n p v) u:=by
 cases v with
 |sl t l=>
  refine⟨⟨t0,l0,hl⟩,⟨f,h,hnd,hf⟩,fun i off YI=> ?_⟩
  obtain⟨b,o,len,cap,h1,h2,h3,h4,h5⟩:=iZ i off YI
  exact⟨t0,l0,b,o,len,cap,hl,h1,h2,h3,h4,h5⟩
 |lit x=>exact⟨h.1,h.2.1⟩
 |_=>trivial
theorem Np{hp:Hp}{n:Nat}{t0:Tag}{l0:List (T t0)}(hl:look hp n=some (.arr t0 l0)){i:Nat}(hi:i<l0.length){b o len cap:Nat}(hv:(env n).v= .slice (some ⟨b,o,none⟩) len cap)(hb:b∈(env n).fp):
  ∀{c:List V} {us:List Value} {f:List Nat} {k:Nat},bW w c us f→f.Nodup→(∀x,x∈f→x∈(env n).fp)→(∀j v,c[j]? =some v→yp (dec t0 (l0.getD i (au t0))) (k+j)=some v)→w.rangeAt b (o+i*kk t0+k) us→bt (RA w hp env) (YC n i k c) us
 | [],[],_,_,_,_,_,_,_=>trivial
 |v::r,u::us,_,k,⟨f1,f2,h1,h2,rfl⟩,hnd,hf,hc,hr=>by
  obtain⟨hn1,hn2,_⟩:=List.nodup_append.1 hnd
  refine⟨Hh hl h1 hn1 (fun x hx=>hf x (List.mem_append_left _ hx)) ?_,Np hl hi hv hb h2 hn2 (fun x hx=>hf x (List.mem_append_right _ hx)) ?_ ?_⟩
  ·rintro i' off' YI
   simp only[Option.some.injEq,Prod.mk.injEq]at YI
   obtain⟨rfl,rfl⟩:=YI
   exact⟨b,o,len,cap,hi,hc 0 v rfl,hv,hb,by have:=hr 0 u rfl;simpa using this⟩
  ·intro j v' hj
   have:=hc (j+1) v' (by simpa using hj)
   rwa [show k+(j+1)=k+1+j by omega]at this
  ·intro j v' hj
   have:=hr (j+1) v' (by simpa using hj)
   rwa [show o+i*kk t0+k+(j+1)=o+i*kk t0+(k+1)+j by omega]at this
 | [],_::_,_,_,h,_,_,_,_=>h.elim
 |_::_,[],_,_,h,_,_,_,_=>h.elim
theorem Nq{hp:Hp}{n:Nat}{t0:Tag}{l0:List (T t0)}(hl:look hp n=some (.arr t0 l0)):
  ∀{c:List V} {us:List Value} {f:List Nat},bW w c us f→f.Nodup→(∀x,x∈f→x∈(env n).fp)→bt (RA w hp env) (YD n c) us
 | [],[],_,_,_,_=>trivial
 |v::r,u::us,_,⟨f1,f2,h1,h2,rfl⟩,hnd,hf=>
  ⟨Hh hl h1 (List.nodup_append.1 hnd).1 (fun x hx=>hf x (List.mem_append_left _ hx)) (by simp),Nq hl h2 (List.nodup_append.1 hnd).2.1 (fun x hx=>hf x (List.mem_append_right _ hx))⟩
 | [],_::_,_,h,_,_=>h.elim
 |_::_,[],_,h,_,_=>h.elim
theorem CD: ∀{l:List V} {i:Nat},yp l i=l[i]?
 | [],_=>by simp[yp]
 |_::_,0=>rfl
 |_::r,i+1=>by rw[yp,CD (l:=r)];simp
theorem bW.sub{w:World}{c d:List V}{cs:List Value}{f:List Nat}{off k:Nat}(h:bW w c cs f)(hs:sub c off k=some d): ∃f',bW w d ((cs.drop off).take k) f'∧f'.Sublist f∧d=(c.drop off).take k∧((cs.drop off).take k).length=k:=by
 have drop: ∀(n:Nat) {c:List V} {cs:List Value} {f:List Nat},bW w c cs f→ ∃f',bW w (c.drop n) (cs.drop n) f'∧f'.Sublist f:=by
  intro n
  induction n with
  |zero=>intro c cs f h;exact⟨f,by simpa using h,List.Sublist.refl _⟩
  |succ n ih=>
   intro c cs f h
   cases c with
   |nil=>cases cs with
    |nil=>exact⟨f,by simpa using h,List.Sublist.refl _⟩
    |cons _ _=>exact h.elim
   |cons v r=>cases cs with
    |nil=>exact h.elim
    |cons u us=>
     obtain⟨f1,f2,_,h2,rfl⟩:=h
     obtain⟨f',k1,k2⟩:=ih h2
     exact⟨f',by simpa using k1,k2.trans (List.sublist_append_right _ _)⟩
 have take: ∀(n:Nat) {c:List V} {cs:List Value} {f:List Nat},bW w c cs f→ ∃f',bW w (c.take n) (cs.take n) f'∧f'.Sublist f:=by
  intro n
  induction n with
  |zero=>intro c cs f h;exact⟨[],by simp[bW],List.nil_sublist _⟩
  |succ n ih=>
   intro c cs f h
   cases c with
   |nil=>cases cs with
    |nil=>exact⟨f,by simpa using h,List.Sublist.refl _⟩
    |cons _ _=>exact h.elim
   |cons v r=>cases cs with
    |nil=>exact h.elim
    |cons u us=>
     obtain⟨f1,f2,h1,h2,rfl⟩:=h
     obtain⟨f',k1,k2⟩:=ih h2
     exact⟨f1++f',⟨f1,f',h1,k1,rfl⟩,List.Sublist.append (List.Sublist.refl _) k2⟩
 unfold G.sub at hs
 split at hs
 ·rename_i hb
  have hb:=Nat.le_of_ble_eq_true hb
  simp only[Option.some.injEq]at hs
  obtain⟨f1,h1,h2⟩:=drop off h
  obtain⟨f2,h3,h4⟩:=take k h1
  refine⟨f2,by rw[←hs];exact h3,h4.trans h2,hs.symm,?_⟩
  have:=h.len
  rw[List.length_take,List.length_drop];omega
 ·cases hs
theorem Vu{n:Nat}{p:Option (Nat×Nat)}{t:Tag}{l:List (T t)}{u:Value}{k:Int}(h:RA w st.hp env (.vw n p t l) u)(h0:0≤k)(h1:k<l.length):
  ∃b off len cap,u= .slice (some ⟨b,off,none⟩) len cap∧k<len∧RA w st.hp env (.BY n (YE p k.toNat) t (l.getD k.toNat (au t)) 0) (.pointer (some ⟨b,off+k.toNat*kk t,none⟩)):=by
 have hRV:RV w st.hp env n p t l u:=h
 obtain⟨hA,⟨fp,⟨oa,cap,rfl,hc,hm,h3⟩,hnd,hd⟩,_⟩:=h
 have hn:k.toNat<l.length:=by omega
 rcases h3 with⟨rfl,_⟩| ⟨b,off,bh,rfl,hb,rfl,he⟩
 ·simp at hn
 ·have hx:l[k.toNat]? =some (l.getD k.toNat (au t)):=by rw[List.getD_eq_getElem?_getD,List.getElem?_eq_getElem hn];rfl
  obtain⟨f,hf⟩:=ji he.1 hx
  obtain⟨cs,hr,hE⟩:=he.2 _ _ f hx hf
  refine⟨b,off,l.length,cap,rfl,h1,hA,b,off+k.toNat*kk t,cs,f,rfl,hd b (by simp),hr,hE,((List.sublist_flatten_of_mem (List.mem_of_getElem? hf)).trans (List.sublist_cons_self _ _)).nodup hnd,fun c hc=>hd c (List.mem_cons_of_mem _ (cC hf hc)),fun i o2 j hp=> ?_⟩
  cases p with
  |none=>cases hp
  |some ab=>
   obtain⟨a1,b1⟩:=ab
   simp only[YE,Option.some.injEq,Prod.mk.injEq]at hp
   obtain⟨rfl,rfl,rfl⟩:=hp
   exact⟨l,_,b,off,l.length,cap,hRV,hn,rfl,rfl,rfl⟩
theorem Hi{t:Nat}{x:Operand}{lo hi:Option Operand}(ho:o.op= .slice t x lo hi none)(hu:P.underlying t=some .string){s:ByteArray}(hv:a.eval x= .string s){n1 n2:Int}
  (h1:(lo=none∧n1=0)∨ ∃y k,lo=some y∧a.eval y= .int k n1)(h2:(hi=none∧n2=s.size)∨ ∃y k,hi=some y∧a.eval y= .int k n2)(q0:0≤n1)(q1:n1≤n2)(q2:n2≤(s.size:Int)):
  o.wp P a w (Ap ty st a w env o.dst (.one (.a (.lit (.string (s.extract n1.toNat n2.toNat))))) []) Q:=by
 have hn2:0≤n2:=by omega
 have Lo:max n2 0=n2:=by omega
 have hrun:(Instr.sliceAt t (.string s) (lo.map a.eval) (hi.map a.eval) none).run P w= .ok (.string (s.extract n1.toNat n2.toNat)) w:=by
  rcases h1 with⟨rfl,rfl⟩| ⟨y1,k1,rfl,e1⟩<;>rcases h2 with⟨rfl,rfl⟩| ⟨y2,k2,rfl,e2⟩
  all_goals simp[Instr.sliceAt,Instr.slice,Instr.sliceBounds,Instr.sliceBound,asIntOf,run_underlying hu, *]
 refine dF (u:= .string (s.extract n1.toNat n2.toNat)) ?_ ⟨rfl,rfl⟩
 unfold execOp
 simp only[ho,hv,Option.map_none,Sem.run_bind,hrun,Result.andThen_ok,Sem.run_pure]
theorem Pk(g:Good ty zb st a.tmps w env){v:V}{u:Value}(hr:fP w st.hp env (.a v) u){l:List UInt8}(hl:bytesOf st v=some l){s e t:Nat}(hs:P.underlying s=some (.slice e))(he:P.underlying e=some (.int .u8))(ht:P.underlying t=some .string):
  (convert s t u).run P w= .ok (.string (Fv l)) w:=by
 have key: ∀{b off len cap:Nat},len=l.length→(∀i x,l[i]? =some x→w.cell? ⟨b,off+i,none⟩=some (.int .u8 x.toNat))→(convert s t (.slice (some ⟨b,off,none⟩) len cap)).run P w= .ok (.string (Fv l)) w:=by
  intro b off len cap hlen hc
  rw[run_convert_bytes_arg w s e hs he b off len cap (l.map fun n=>(n.toNat:Int)) (by simp[hlen]) (fun i hi=> ?_) t ht,Pj]
  have hi2:i<l.length:=by omega
  rw[hc i _ (List.getElem?_eq_getElem hi2),List.getD_eq_getElem?_getD,List.getElem?_map,List.getElem?_eq_getElem hi2]
  rfl
 have nil: ∀{c:Nat},(convert s t (.slice none 0 c)).run P w= .ok (.string (Fv [])) w:=by
  intro c
  rw[run_convert_bytes_nil w s e hs he 0 c t ht];rfl
 have sl: ∀{fp:List Nat},Sl 1 Fu w u l fp→(convert s t u).run P w= .ok (.string (Fv l)) w:=by
  rintro fp ⟨oa,cap,rfl,_,_,h3⟩
  rcases h3 with⟨rfl,_,_⟩| ⟨b,off,bh,rfl,_,_,hE⟩
  ·cases oa with
   |none=>exact nil
   |some ad=>
    rw[run_convert_bytes_string w s t e _ _ _ hs he ht]
    exact B3 ad cap
  ·refine key rfl fun i x hx=> ?_
   obtain⟨f,hf⟩:=ji hE.1 hx
   obtain⟨cs,q1,rfl,_⟩:=hE.2 i x f hx hf
   have:=q1 0 _ rfl
   simpa using this
 unfold bytesOf at hl
 split at hl
 ·simp only[Option.some.injEq]at hl
  subst hl
  obtain⟨fp,h,_⟩:=hr
  exact sl h
 ·rename_i n
  split at hl
  ·rename_i l' hlk
   simp only[Option.some.injEq]at hl
   subst hl
   obtain⟨_,hu⟩:=hr
   have hb:Sl 1 Fu w (env n).v l' (env n).fp:=RO.sl (g.obj n _ hlk)
   rw[←show u=(env n).v from hu]at hb
   exact sl hb
  ·cases hl
 ·simp only[Option.some.injEq]at hl
  subst hl
  obtain⟨_,⟨fp,h,_⟩,_⟩:=hr
  exact sl h
 ·simp only[Option.some.injEq]at hl
  subst hl
  have hu:=(show fP w st.hp env (.a (.lit Dv)) u from hr).lit
  rw[hu]
  exact nil
 ·cases hl
theorem mN{p:List (Nat×Bool)}(hop: ∀{x v},iO st p x=some v→fP w st.hp env v (a.eval x)){z n:Int}{b:Option Operand}(h:IJ st p z b=some n):(b=none∧n=z)∨ ∃x k,b=some x∧a.eval x= .int k n:=by
 cases b with
 |none=>simp only[IJ,Option.some.injEq]at h;exact Or.inl ⟨rfl,h.symm⟩
 |some x=>
  simp only[IJ]at h
  split at h
  ·rename_i k i hx
   simp only[Option.some.injEq]at h
   subst h
   exact Or.inr ⟨x,k,rfl,(hop hx).lit⟩
  ·cases h
theorem F4{m:Nat}{t:Tag}{l:List (T t)}{w':World}{u:Value}{fp:List Nat}(hr:(execOp a.eval o).run P w= .ok (.value u) w')(hb:Below w.heap.size w w')(hB:jE (kk t) (rd t) w.heap.size (ty t) w' u l fp):
  o.wp P a w (Ap ty st a w env o.dst (.one (.a (.own m))) [(m, .arr t l)]) Q:=by
 unfold Oper.wp
 rw[hr]
 obtain⟨env',hN,hl⟩:=ld.list (ty:=ty) (hp:=st.hp) (env:=env) (os:= [(m, .arr t l)]) (ce:= [⟨u,fp⟩]) hb (by simp[gR,look]) ⟨⟨fun _ _=>RO.FZ (jE.mono hB (Nat.zero_le _)),(jE.own hB).ge⟩,trivial⟩ (by simpa using(jE.own hB).nodup)
 have h2:env' m=⟨u,fp⟩:=hl.1.2
 exact⟨u,env',rfl,hN,⟨t,l,look_eq⟩,by rw[h2]⟩
theorem yx{α:Type}{k:Nat}{E:ER α}(G:gd k E)(hk:0<k){w:World}{u:Value}{l:List α}{fp:List Nat}(h:Sl k E w u l fp):
  ∃(news:List Value) (fx:List (List Nat)),Src w u l.length news∧fx.length=l.length∧news.length=l.length*k∧(∀i x f,l[i]? =some x→fx[i]? =some f→E w ((news.drop (i*k)).take k) x f)∧fx.flatten.Sublist fp∧ ∀b r,fp=b::r→fx.flatten=r:=by
 obtain⟨oa,cap,rfl,hc,hm,h3⟩:=h
 rcases h3 with⟨rfl,rfl,hno⟩| ⟨b,off,bh,rfl,hb,rfl,he⟩
 ·refine⟨[],[],?_,rfl,by simp,by simp,by simp,fun b r h=>by cases h⟩
  cases oa with
  |none=>exact Or.inl ⟨by simp[hno rfl],rfl,rfl⟩
  |some a=>exact Or.inr ⟨a,cap,rfl,by simp⟩
 ·have hcell: ∀j,j<l.length*k→ ∃v,w.cell? ⟨b,off+j,none⟩=some v:=by
   intro j hj
   have hi:j/k<l.length:=Nat.div_lt_of_lt_mul (by rw[Nat.mul_comm];omega)
   obtain⟨f,hf⟩:=ji he.1 (List.getElem?_eq_getElem hi)
   obtain⟨cs,hr,hE⟩:=he.2 _ _ f (List.getElem?_eq_getElem hi) hf
   have hl:=G.len hE
   have hml:=Nat.mod_lt j hk
   have:=hr (j % k) cs[j % k] (List.getElem?_eq_getElem (by omega))
   refine⟨cs[j % k]'(by omega),?_⟩
   rw[←this]
   congr 2
   have:=Nat.div_add_mod j k
   have:=Nat.mul_comm k (j/k)
   omega
  refine⟨(List.range (l.length*k)).map fun j=>(w.cell? ⟨b,off+j,none⟩).getD undef,bh,Or.inr ⟨_,cap,rfl,?_⟩,he.1,by simp,?_,List.sublist_cons_self _ _,fun b r h=>by cases h;rfl⟩
  ·intro j u hu
   have hj:j<l.length*k:=by have:=(List.getElem?_eq_some_iff.1 hu).1;simpa using this
   obtain⟨v,hv⟩:=hcell j hj
   simp[hj,hv]at hu
   rw[Addr.add_mid,hv,hu]
  ·intro i x f hx hf
   obtain⟨cs,hr,hE⟩:=he.2 i x f hx hf
   have hl:=G.len hE
   have hi:i<l.length:=(List.getElem?_eq_some_iff.1 hx).1
   have h5:i*k+k≤l.length*k:=by
    have:=Nat.mul_le_mul_right k (show i+1≤l.length by omega)
    rw[Nat.add_mul]at this;omega
   have:(((List.range (l.length*k)).map fun j=>(w.cell? ⟨b,off+j,none⟩).getD undef).drop (i*k)).take k=cs:=by
    apply List.ext_getElem?
    intro j
    by_cases hj:j<k
    ·rw[List.getElem?_take,if_pos hj,List.getElem?_drop]
     have h6:=hr j cs[j] (List.getElem?_eq_getElem (by omega))
     rw[List.getElem?_map,List.getElem?_range (by omega)]
     simp[←Nat.add_assoc,h6,show j<cs.length by omega]
    ·rw[List.getElem?_take,if_neg hj,List.getElem?_eq_none (by omega)]
   rw[this];exact hE
theorem Vv{α:Type}{k:Nat}{E:ER α}(G:gd k E)(hk:0<k){w:World}{l:List α}{news:List Value}{fx:List (List Nat)}(hf:fx.length=l.length)(hl:news.length=l.length*k)
  (hE: ∀i x f,l[i]? =some x→fx[i]? =some f→E w ((news.drop (i*k)).take k) x f): ∀u,u∈news→u.oneCell'=true:=yh G hf hl hk hE
theorem Vw{P:Program}{w:World}{t ty' e:TypeId}{z:Value}{k bytes:Nat}(ht:P.underlying t=some (.slice e))(QI:(P.info? e).map (fun i=>(i.zero,i.size,i.bytes))=some (some z,k,bytes))(hzs:z.cells.size=k)(hk:0<k)
  {n:Nat}{oa:Option Addr}{olds:List Value}(hsx:Src w (.slice oa n n) n olds)(hlo:olds.length=n*k)
  {m:Nat}{y:Value}{news:List Value}(hsy:Src w y m news)(hl:news.length=m*k)(h1: ∀u,u∈news→u.oneCell'=true)(b1:n+m≤maxLen)(b2:(n+m)*bytes≤140737488355328):
  ∃v' w',(Builtin.append_ #[t,t] ty' #[.slice oa n n,y]).run P w= .ok v' w'∧((m=0∧v'= .slice oa n n∧w'=w)∨(w'.ownsRow w.heap.size e k v' (n+m) (olds++news)∧w.grownBy w' none)):=by
 obtain⟨i,hi,hz,hsize,hby⟩:=info_parts QI
 rcases hsy with⟨rfl,rfl,rfl⟩| ⟨a,c,rfl,hnews⟩
 ·refine⟨.slice oa n n,w,?_,Or.inl ⟨rfl,rfl,rfl⟩⟩
  cases oa with
  |none=>simp[Builtin.append_,run_underlying ht,sizeOf,typeInfo,hi,Builtin.lenOf,Builtin.firstCells,storeCells]
  |some b=>simp[Builtin.append_,run_underlying ht,sizeOf,typeInfo,hi,Builtin.lenOf,Builtin.firstCells,storeCells]
 ·by_cases hm:m=0
  ·subst hm
   have hn0:news= []:=List.eq_nil_of_length_eq_zero (by omega)
   subst hn0
   refine⟨.slice oa n n,w,?_,Or.inl ⟨rfl,rfl,rfl⟩⟩
   have hfc:=run_firstCells_some (P:=P) w i.size 0 a 0 c [] (by simp) (by simp)
   cases oa with
   |none=>simp[Builtin.append_,run_underlying ht,sizeOf,typeInfo,hi,Builtin.lenOf,hfc]
   |some b=>simp[Builtin.append_,run_underlying ht,sizeOf,typeInfo,hi,Builtin.lenOf,hfc,storeCells]
  ·rcases hsx with⟨hx,rfl,rfl⟩| ⟨b,cb,hx,holds⟩
   ·simp only[Value.slice.injEq]at hx
    obtain⟨rfl,_⟩:=hx
    obtain⟨v',w',hrun,r1,r2,_⟩:=run_append_own (P:=P) w w.heap.size t ty' e i z k bytes ht hi hz hsize hby hzs hk (.slice none 0 0) 0 [] (World.ownsRow_nil w _ e k) a m c news hl hnews h1 b1 b2 (Nat.le_refl _)
    exact⟨v',w',hrun,Or.inr ⟨r1,r2⟩⟩
   ·simp only[Value.slice.injEq]at hx
    obtain⟨rfl,_,rfl⟩:=hx
    obtain⟨v',w',hrun,r1,r2⟩:=run_append_arg_grows (P:=P) w t ty' e i z k bytes ht hi hz hsize hby hzs hk b n n olds hlo holds a m c news hl hnews (by omega) b1 b2
    exact⟨v',w',hrun,Or.inr ⟨r1,r2⟩⟩
theorem YJ{α:Type}{k:Nat}{E:ER α}{w:World}{oa:Option Addr}{cap:Nat}{l:List α}{fp:List Nat}(h:Sl k E w (.slice oa l.length cap) l fp){j q:Nat}(hj:j≤l.length)(hq:q=0):
  ∃gA,Sl k E w (.slice (if j=0 then oa else oa.map (·.add q)) j j) (l.take j) gA∧ ∀b,b∈gA→b∈fp:=by
 subst hq
 obtain⟨XB,cap',hu,hc,hm,h3⟩:=h
 simp only[Value.slice.injEq,true_and]at hu
 obtain⟨rfl,rfl⟩:=hu
 have hlen:(l.take j).length=j:=by rw[List.length_take];omega
 by_cases h0:j=0
 ·subst h0
  refine⟨[],⟨oa,0,by simp,by simp,Nat.zero_le _,Or.inl ⟨by simp,rfl,fun _=>rfl⟩⟩,by simp⟩
 ·rcases h3 with⟨rfl,_⟩| ⟨b,off,bh,rfl,hb,rfl,he⟩
  ·simp at hj;omega
  ·rw[if_neg h0]
   refine⟨b::(bh.take j).flatten,⟨_,j,by rw[hlen],by omega,by omega,Or.inr ⟨b,off,bh.take j,by simp[Addr.add_mid],hb,rfl,?_,fun i x f hx hf=> ?_⟩⟩,fun c hc=> ?_⟩
   ·have:=he.1;simp[this]
   ·rw[List.getElem?_take]at hx hf
    split at hx
    ·rename_i hij
     rw[if_pos hij]at hf
     exact he.2 i x f hx hf
    ·cases hx
   ·rcases List.mem_cons.1 hc with rfl|hc
    ·simp
    ·exact List.mem_cons_of_mem _ ((Bv (List.take_sublist j bh)).subset hc)
theorem YK{α:Type}{k:Nat}{E:ER α}{w:World}{lo e:Nat}{v:Value}{l:List α}{xs:List Value}{bh:List (List Nat)}(h:w.ownsRow lo e k v l.length xs)(hf:bh.length=l.length)(he: ∀i x f,l[i]? =some x→bh[i]? =some f→E w ((xs.drop (i*k)).take k) x f):
  Sl k E w v l (v.ownBlock.toList++bh.flatten):=by
 have hlt:=h.lt
 have Lz: ∀g,v.ownBlock=some g→ ∀j u,xs[j]? =some u→w.cell? ((⟨g,0,none⟩:Addr).add j)=some u:=fun g hg=>h.cells (g:=g) hg
 rcases h.2 with⟨rfl,h0⟩| ⟨g,cap,cur,rfl,Yw,hg,hnc,U9,hcs,XC⟩
 ·have hl:l= []:=List.eq_nil_of_length_eq_zero h0
  subst hl
  have:bh= []:=List.eq_nil_of_length_eq_zero (by simpa using hf)
  subst this
  exact⟨none,0,rfl,Nat.le_refl _,Nat.zero_le _,Or.inl ⟨rfl,rfl,fun _=>rfl⟩⟩
 ·refine⟨some ⟨g,0,none⟩,cap,rfl,hnc,U9,Or.inr ⟨g,0,bh,rfl,(hlt g rfl).2,rfl,yg hf (fun j u hu=> ?_) he⟩⟩
  have:=Lz g rfl j u hu
  rwa [Addr.add_mid,Nat.zero_add]at this
theorem I8{w:World}{hp:Hp}{env:Env}: ∀{l:List V} {us:List Value},plain l=true→bt (RA w hp env) l us→bW w l us []:=by
 intro l
 induction l with
 |nil=>intro us _ h;cases us with
  |nil=>rfl
  |cons _ _=>exact h.elim
 |cons v r ih=>
  intro us oD h
  cases us with
  |nil=>exact h.elim
  |cons u us=>
   unfold plain at oD
   split at oD
   ·rename_i heq;cases heq
   ·cases oD
   ·rename_i heq
    simp only[List.cons.injEq]at heq
    obtain⟨rfl,rfl⟩:=heq
    exact⟨[],[],⟨h.1.1,h.1.2,rfl⟩,ih oD h.2,rfl⟩
   ·cases oD
theorem Nr(g:Good ty zb st a.tmps w env): ∀{l c:List V} {n:Nat} {us:List Value},bt (RA w st.hp env) l us→wT st.hp l=some (c,n)→ ∃t l' fp,look st.hp n=some (.arr t l')∧bW w c us fp∧fp.Nodup∧ ∀b,b∈fp→b∈(env n).fp
 | [],_,_,_,_,h=>by simp[wT]at h
 |v::r,c,n,us,hr,h=>by
  cases us with
  |nil=>exact hr.elim
  |cons u us=>
   unfold wT at h
   split at h
   ·rename_i m r' he
    simp only[List.cons.injEq]at he
    obtain⟨rfl,rfl⟩:=he
    split at h
    ·rename_i t l hl oD
     simp only[Option.some.injEq,Prod.mk.injEq]at h
     obtain⟨rfl,rfl⟩:=h
     obtain⟨_,rfl⟩:=hr.1
     exact⟨t,l,(env m).fp,hl,⟨_,[],RO.sl (g.obj m _ hl),I8 oD hr.2,by simp⟩,(RO.own (g.obj m _ hl)).nodup,fun _ hb=>hb⟩
    ·cases h
   ·rename_i m pp t l r' he
    simp only[List.cons.injEq]at he
    obtain⟨rfl,rfl⟩:=he
    split at h
    ·rename_i t0 l0 hl oD
     simp only[Option.some.injEq,Prod.mk.injEq]at h
     obtain⟨rfl,rfl⟩:=h
     obtain⟨_,⟨fp,h1,h2,h3⟩,_⟩:=hr.1
     exact⟨t0,l0,fp,hl,⟨fp,[],h1,I8 oD hr.2,by simp⟩,h2,h3⟩
    ·cases h
   ·cases h
   ·rename_i x r' _ he
    simp only[List.cons.injEq]at he
    obtain⟨rfl,rfl⟩:=he
    split at h
    ·rename_i c' n' h'
     simp only[Option.some.injEq,Prod.mk.injEq]at h
     obtain⟨rfl,rfl⟩:=h
     obtain⟨t,l',fp,h1,h2,h3,h4⟩:=Nr g hr.2 h'
     exact⟨t,l',fp,h1,⟨[],_,⟨hr.1.1,hr.1.2,rfl⟩,h2,by simp⟩,h3,h4⟩
    ·cases h
   ·cases h
theorem LN(g:Good ty zb st a.tmps w env){s:S1}{u:Value}(hr:fP w st.hp env s u){c:List V}{n:Nat}(h:wT st.hp (cellsOf s)=some (c,n)):bt (RA w st.hp env) (cellsOf s) u.cells.toList:=by
 cases s with
 |agg l=>obtain⟨cs,rfl,hl⟩:=hr;exact hl
 |a v=>
  have hv:v≠ .any:=by rintro rfl;simp[cellsOf,wT]at h
  have:=jR g (show RA w st.hp env v u from hr) hv
  rw[this]
  exact⟨hr,trivial⟩
theorem F5(g:Good ty zb st a.tmps w env){p:List (Nat×Bool)}(hp:holds a.tmps p){t:Tag}: ∀{ps:List (Nat×Operand)} {i:Nat} {vc:List Prop} {xs:List (T t)},pM st p t i ps=some (vc,xs)→(∀q,q∈vc→q)→
  (ps.map fun p=>(p.1,a.eval p.2))=vS i (ps.map fun p=>a.eval p.2)∧xs.length=ps.length∧ ∀(i:Nat) (x:T t),xs[i]? =some x→ ∃p:Nat×Operand,ps[i]? =some p∧rd t w (a.eval p.2).cells.toList x []
 | [],i,vc,xs,h,_=>by
   simp only[pM,Option.some.injEq,Prod.mk.injEq]at h
   obtain⟨rfl,rfl⟩:=h
   exact⟨rfl,rfl,by simp⟩
 | (j,x)::r,i,vc,xs,h,hv=>by
   simp only[pM]at h
   split at h
   ·rename_i s hij hx
    have hij:=Nat.eq_of_beq_eq_true hij
    subst hij
    split at h
    ·rename_i pO y vcs ys oD he hb
     simp only[Option.some.injEq,Prod.mk.injEq]at h
     obtain⟨rfl,rfl⟩:=h
     obtain⟨q1,q2,q3⟩:=F5 g hp hb (fun q hq=>hv q (List.mem_append_right _ hq))
     have hc: ∃us,(a.eval x).cells.toList=us∧bW w (cellsOf s) us []:=by
      have hs:=fC g hp hx
      have key: ∀{l:List V} {us:List Value},plain l=true→bt (RA w st.hp env) l us→bW w l us []:=by
       intro l
       induction l with
       |nil=>intro us _ h;cases us with
        |nil=>rfl
        |cons _ _=>exact h.elim
       |cons v r ih=>
        intro us oD h
        cases us with
        |nil=>exact h.elim
        |cons u us=>
         unfold plain at oD
         split at oD
         ·rename_i heq;cases heq
         ·cases oD
         ·rename_i heq
          simp only[List.cons.injEq]at heq
          obtain⟨rfl,rfl⟩:=heq
          exact⟨[],[],⟨h.1.1,h.1.2,rfl⟩,ih oD h.2,rfl⟩
         ·cases oD
      cases s with
      |agg l=>
       obtain⟨cs,hu,hl⟩:=hs
       exact⟨cs,by rw[hu];rfl,key oD hl⟩
      |a v=>
       have hne:v≠ .any:=by rintro rfl;cases oD
       exact⟨[a.eval x],by rw[jR g hs hne],key oD ⟨hs,trivial⟩⟩
     obtain⟨us,Vx,Ns⟩:=hc
     refine⟨by simp[vS,q1],by simp[q2],fun i' x' hx'=> ?_⟩
     cases i' with
     |zero=>
      simp at hx'
      subst hx'
      exact⟨(i,x),rfl,by rw[Vx];exact tJ t he (fun q hq=>hv q (List.mem_append_left _ hq)) Ns⟩
     |succ n=>
      obtain⟨p,h1,h2⟩:=q3 n x' (by simpa using hx')
      exact⟨p,by simpa using h1,h2⟩
    ·cases h
   ·cases h
theorem Vy(g:Good ty zb st a.tmps w env){p:List (Nat×Bool)}(hp:holds a.tmps p){x:Operand}{k:IntKind}{i:Int}(h:Vj st p x=some (k,i)):a.eval x= .int k i:=by
 unfold Vj at h
 split at h
 ·rename_i k' i' hx
  simp only[Option.some.injEq,Prod.mk.injEq]at h
  obtain⟨rfl,rfl⟩:=h
  exact(fC g hp hx).lit
 ·cases h
theorem DH(g:Good ty zb st a.tmps w env){p:List (Nat×Bool)}(hp:holds a.tmps p): ∀{xs:List Operand} {ys:List (IntKind×Int)},yq st p xs=some ys→xs.map a.eval=ys.map fun y=> .int y.1 y.2
 | [],ys,h=>by simp only[yq,Option.some.injEq]at h;subst h;rfl
 |x::r,ys,h=>by
  simp only[yq]at h
  split at h
  ·rename_i y ys' h1 h2
   simp only[Option.some.injEq]at h
   subst h
   rw[List.map_cons,List.map_cons,DH g hp h2,Vy g hp h1]
  ·cases h
theorem DI{F:Int→Int→Int}{f:Value→Value→Sem Value}(hf: ∀(k:IntKind) (x y:Int),f (.int k x) (.int k y)=pure (.int k (F x y))){k:IntKind}: ∀{ys:List (IntKind×Int)} {x z:Int},FY F k x ys=some z→(List.foldlM f (.int k x) (ys.map fun y=> .int y.1 y.2)).run P w= .ok (.int k z) w
 | [],x,z,h=>by simp only[FY,Option.some.injEq]at h;subst h;rfl
 | (k',y)::r,x,z,h=>by
   simp only[FY]at h
   split at h
   ·rename_i hk _
    subst hk
    rw[List.map_cons,List.foldlM_cons,hf]
    simp only[pure_bind]
    exact DI hf h
   ·cases h
theorem I9(g:Good ty zb st a.tmps w env){p:List (Nat×Bool)}(hp:holds a.tmps p){n:Nat}{fo:List Nat}{pl:Nat→Option (Nat×Nat)}(oD: ∀j o k,oC fo j=some o→XD n fo j=some k→pl j=some (o,k)):
  ∀{ps:List (Nat×Operand)} {c c':List V} {cs:List Value},sG st p n fo ps c=some c'→bt (RA w st.hp env) c cs→
   ∃cs',Instr.fill pl (Array.mk cs) (ps.map fun q=>(q.1,a.eval q.2))=some (Array.mk cs')∧bt (RA w st.hp env) c' cs'
 | [],c,c',cs,h,hc=>by
   simp only[sG,Option.some.injEq]at h
   subst h
   exact⟨cs,rfl,hc⟩
 | (j,x)::r,c,c',cs,h,hc=>by
   simp only[sG]at h
   split at h
   ·rename_i o' k s h1 h2 hx
    split at h
    ·rename_i c1 hna hs
     simp only[Bool.and_eq_true]at hna
     have hk:=Nat.eq_of_beq_eq_true hna.2
     have B4:=wU g hp hx
     have hcs: ∃us,(a.eval x).cells=Array.mk us∧bt (RA w st.hp env) (cellsOf s) us:=by
      cases s with
      |agg l=>obtain⟨us,hu,hl⟩:=B4;exact⟨us,by rw[hu];rfl,hl⟩
      |a v=>
       have hne:v≠ .any:=by rintro rfl;simp[cellsOf,tM]at hna
       exact⟨[a.eval x],jR g B4 hne,B4,trivial⟩
     obtain⟨us,Vx,Lr⟩:=hcs
     obtain⟨q1,q2⟩:=Hg hc Lr hs
     obtain⟨cs',h3,h4⟩:=I9 g hp oD h q2
     refine⟨cs',?_,h4⟩
     rw[List.map_cons,Instr.fill,oD j o' k h1 h2]
     simp only[Vx]
     have hl:=Lr.len
     rw[if_neg (by simp;omega)]
     have Rj:((Array.mk us).zipIdx.foldl (fun cs (x:Value×Nat)=>cs.setIfInBounds (o'+x.2) x.1) (Array.mk cs))=splice (Array.mk cs) o' us:=by
      rw[←Array.foldl_toList,Array.toList_zipIdx,rI,Nat.add_zero]
     show Instr.fill _ ((Array.mk us).zipIdx.foldl (fun cs (x:Value×Nat)=>cs.setIfInBounds (o'+x.2) x.1) (Array.mk cs)) _=_
     rw[Rj,oJ us cs o' q1]
     exact h3
    ·cases h
   ·cases h
theorem yy{w:World}{t:Nat}{d:Nat}(hu:P.underlying t=some .bool){x y:Bool}:(Op.equalIn (d+1) t (.bool x) (.bool y)).run P w= .ok (x==y) w:=by
 simp[Op.equalIn,run_underlying hu]
theorem Rn{x:Operand}{op:Op}{out:Out}(gz:o.op=op)(hm:op= .move x∨op= .assign x)(g:Good ty zb st a.tmps w env)(h:Q7 st x=some out):o.wp P a w (Ap ty st a w env o.dst out.v out.o) Q:=by
 unfold Q7 at h
 split at h
 ·rename_i t
  split at h
  ·rename_i l hl
   simp only[Option.some.injEq]at h
   subst h
   have hr:=g.slot t _ hl
   rcases hm with rfl|rfl
   ·exact Dy (by unfold execOp;simp only[gz,Sem.run_pure];rfl) hr
   ·exact Dy (by unfold execOp;simp only[gz,Sem.run_pure];rfl) hr
  ·cases h
 ·cases h
theorem Ja{Γ:Nat→TK}(C: ∀t,cA P t (Γ t)){cr:List (Nat×CR)}{p:List (Nat×Bool)}{d m:Nat}{out:Out}(h:quiet Γ (I2 P ty) (Sound ty P) cr st p d m o.op=some out)
  (g:Good ty zb st a.tmps w env)(hp:holds a.tmps p)(hA:FX w)(hv: ∀q,q∈out.vc→q)(hf:fresh st.hp out.o=true)(hn:gR out.o=true):
  o.wp P a w (Ap ty st a w env o.dst out.v out.o) Q:=by
 have hop: ∀{q x v},holds a.tmps q→iO st q x=some v→fP w st.hp env v (a.eval x):=fun hq hx=>fC g hq hx
 generalize gz:o.op=op at h
 cases op with
 |move x=>
  simp only[quiet]at h
  split at h
  ·rename_i v hx
   simp only[dX,Option.some.injEq]at h
   subst h
   exact dF (by unfold execOp;simp only[gz,Sem.run_pure]) (wU g hp hx)
  ·exact Rn gz (Or.inl rfl) g h
 |assign x=>
  simp only[quiet]at h
  split at h
  ·rename_i v hx
   simp only[dX,Option.some.injEq]at h
   subst h
   exact dF (by unfold execOp;simp only[gz,Sem.run_pure]) (wU g hp hx)
  ·exact Rn gz (Or.inr rfl) g h
 |pick c x y=>
  cases c with
  |tmp c=>
   simp only[quiet]at h
   split at h
   ·rename_i t u v h1 h2 h3
    simp only[dX,Option.some.injEq]at h
    subst h
    have hc:=(hop hp h1).lit
    have Ll:a.tmps[c]? =some (.bool t):=LM hc
    refine dF (u:= .bool (if t then u else v)) ?_ ⟨rfl,rfl⟩
    unfold execOp
    cases t with
    |true=>
     have hx:=(hop (q:=(c,true)::p) (by intro e he;rcases List.mem_cons.1 he with rfl|he;exact Ll;exact hp e he) h2).lit
     simp[gz,hc,hx,asBool]
    |false=>
     have hx:=(hop (q:=(c,false)::p) (by intro e he;rcases List.mem_cons.1 he with rfl|he;exact Ll;exact hp e he) h3).lit
     simp[gz,hc,hx,asBool]
   ·cases h
  |_=>simp[quiet]at h
 |box e x=>
  simp only[quiet]at h
  split at h
  ·rename_i l hx
   simp only[Option.some.injEq]at h
   subst h
   obtain⟨cs,hu,hl⟩:=hop hp hx
   exact Aq (cs:=cs) (e:=e) (by unfold execOp;simp[gz,Instr.box,newVar,newRow,hu,Value.cells]) g hf hl
  ·cases h
  ·rename_i v hne hx
   simp only[Option.some.injEq]at h
   subst h
   have hr:=hop hp hx
   have hc:=jR g (show RA w st.hp env v (a.eval x)from hr) (fun e=>hne e)
   exact Aq (cs:= [a.eval x]) (e:=e) (by unfold execOp;simp[gz,Instr.box,newVar,newRow,hc]) g hf ⟨hr,trivial⟩
  ·cases h
 |alloc t=>
  simp only[quiet]at h
  split at h
  ·rename_i z tg fo hk
   simp only[Option.some.injEq]at h
   subst h
   have hC:=C t
   rw[hk]at hC
   obtain⟨fs,hu,hi,h1,_⟩:=hC
   refine Aq (cs:=z) (e:=t) ?_ g hf (DF h1)
   unfold execOp
   cases hq:P.info? t with
   |none=>simp[hq]at hi
   |some i=>
    simp[hq]at hi
    simp[gz,Instr.alloc,zeroValue,typeInfo,hq,hi.2,newVar,newRow,Value.cells]
  ·cases h
 |load t x=>
  simp only[quiet]at h
  split at h
  ·rename_i n off hx
   obtain⟨_,b,hb,hu⟩:=hop hp hx
   split at h
   ·rename_i c hl
    obtain⟨b',cs,e,IK,hh,hc⟩:=g.obj n _ hl
    have YL:b=b':=by
     rw[IK]at hb
     simpa using hb.symm
    subst YL
    have B5:w.rangeAt b 0 cs:=by simpa using Q3 hh
    split at h
    ·rename_i z tg fo hk
     split at h
     ·rename_i l hs
      simp only[dX,Option.some.injEq]at h
      subst h
      have hC:=C t
      rw[hk]at hC
      obtain⟨k1,k2⟩:=Rf hc hs
      exact wp_load_row gz hC hu (by have:=l6 (k:=z.length) (j:=off) B5;rwa [Nat.zero_add]at this) k2 k1
     ·cases h
    ·cases h
    ·rename_i k1 k2
     split at h
     ·rename_i v hs
      simp only[dX,Option.some.injEq]at h
      subst h
      obtain⟨u,q1,q2⟩:=hc.at (Hf hs)
      refine oI gz (C t) ?_ ?_ hu (by have:=l7 B5 q1;rwa [Nat.zero_add]at this) (RA.Q5 q2)
      ·intro z tg fo hz;exact k1 z tg fo hz
      ·exact k2
     ·cases h
   ·cases h
  ·rename_i gt y off hx
   obtain⟨b,o',cs,fp,hu,_,B5,hE,_,hd⟩:=hop hp hx
   have hc:=Rg hE hd
   split at h
   ·rename_i z tg fo hk
    split at h
    ·rename_i l hs
     simp only[dX,Option.some.injEq]at h
     subst h
     have hC:=C t
     rw[hk]at hC
     obtain⟨k1,k2⟩:=Rf hc hs
     exact wp_load_row gz hC hu (l6 B5) k2 k1
    ·cases h
   ·cases h
   ·rename_i k1 k2
    split at h
    ·rename_i v hs
     simp only[dX,Option.some.injEq]at h
     subst h
     obtain⟨u,q1,q2⟩:=hc.at (Hf hs)
     refine oI gz (C t) ?_ ?_ hu (l7 B5 q1) q2
     ·intro z tg fo hz;exact k1 z tg fo hz
     ·exact k2
    ·cases h
  ·rename_i n gt y off hx
   obtain⟨⟨tA,lA,hl⟩,b,o',cs,fp,hu,hb,B5,hE,hd⟩:=hop hp hx
   have hR:=reads gt hE
   split at h
   ·rename_i z tg fo hk
    split at h
    ·rename_i l hs
     simp only[dX,Option.some.injEq]at h
     subst h
     have hC:=C t
     rw[hk]at hC
     obtain⟨f',r1,r2,r3,r4⟩:=bW.sub hR hs
     exact wp_load_row gz hC hu (l6 B5) r4 (Nq hl r1 (r2.nodup hd.1) (fun x hx=>hd.2.1 x (r2.subset hx)))
    ·cases h
   ·cases h
   ·rename_i k1 k2
    split at h
    ·rename_i v hs
     simp only[dX,Option.some.injEq]at h
     subst h
     obtain⟨u,f',q1,q2,q3⟩:=bW.at hR hs
     refine oI gz (C t) ?_ ?_ hu (l7 B5 q1) (Hh hl q2 (q3.nodup hd.1) (fun x hx=>hd.2.1 x (q3.subset hx)) (by simp))
     ·intro z tg fo hz;exact k1 z tg fo hz
     ·exact k2
    ·cases h
  ·rename_i n i off hx
   obtain⟨tA,lA,hlA,b,o',len,cap,Hj,hu⟩:=hop hp hx
   split at h
   ·rename_i gt l hl
    rw[hl]at hlA
    simp only[Option.some.injEq,Obj.arr.injEq]at hlA
    obtain⟨rfl,_⟩:=hlA
    split at h
    ·rename_i z tg fo hk
     split at h
     ·rename_i c hs
      simp only[Option.some.injEq]at h
      subst h
      have hi:i<l.length:=hv _ (List.mem_singleton.2 rfl)
      obtain⟨b2,o2,aa0,cs,f,Ro,hb,B5,hE,hd⟩:=DG g hl hi
      rw[Ro]at Hj
      simp only[Value.slice.injEq,Option.some.injEq,Addr.mk.injEq,and_true]at Hj
      obtain⟨⟨rfl,rfl⟩,rfl,rfl⟩:=Hj
      have hC:=C t
      rw[hk]at hC
      obtain⟨f',r1,r2,r3,r4⟩:=bW.sub (reads gt hE) hs
      refine wp_load_row gz hC hu (l6 B5) r4 (Np hl hi Ro hb r1 ((r2.trans hd).nodup (RO.own (g.obj _ _ hl)).nodup) (fun x hx=>hd.subset (r2.subset hx)) (fun j v hj=> ?_) (l6 B5))
      rw[r3,List.getElem?_take]at hj
      split at hj
      ·rw[List.getElem?_drop]at hj;rw[CD];exact hj
      ·cases hj
     ·cases h
    ·cases h
    ·rename_i k1 k2
     split at h
     ·rename_i v hs
      simp only[Option.some.injEq]at h
      subst h
      have hi:i<l.length:=hv _ (List.mem_singleton.2 rfl)
      obtain⟨b2,o2,aa0,cs,f,Ro,hb,B5,hE,hd⟩:=DG g hl hi
      rw[Ro]at Hj
      simp only[Value.slice.injEq,Option.some.injEq,Addr.mk.injEq,and_true]at Hj
      obtain⟨⟨rfl,rfl⟩,rfl,rfl⟩:=Hj
      obtain⟨u,f',q1,q2,q3⟩:=bW.at (reads gt hE) hs
      refine oI gz (C t) ?_ ?_ hu (l7 B5 q1) (Hh hl q2 ((q3.trans hd).nodup (RO.own (g.obj _ _ hl)).nodup) (fun x hx=>hd.subset (q3.subset hx)) ?_)
      ·intro z tg fo hz;exact k1 z tg fo hz
      ·exact k2
      ·rintro i' off' YI
       simp only[Option.some.injEq,Prod.mk.injEq]at YI
       obtain⟨rfl,rfl⟩:=YI
       exact⟨b2,o2,_,aa0,hi,hs,Ro,hb,l7 B5 q1⟩
     ·cases h
   ·cases h
  ·cases h
 |binOp op t x y t'=>
  simp only[quiet]at h
  split at h
  ·rename_i k m k' m' h1 h2
   split at h
   ·rename_i vc v hb
    simp only[Option.some.injEq]at h
    subst h
    have hx:=(hop hp h1).lit
    have hy:=(hop hp h2).lit
    obtain⟨q1,q2⟩:=Vr (P:=P) (w:=w) hb hv (t:=t) (X:=x) (Y:=y)
    refine dF (u:=v) ?_ ⟨rfl,q2⟩
    unfold execOp
    simp only[gz,hx,hy]
    rw[Sem.run_bind,q1]
    rfl
   ·cases h
  ·rename_i m m' h1 h2
   split at h
   ·rename_i vc v hb
    simp only[Option.some.injEq]at h
    subst h
    have hx:=(hop hp h1).lit
    have hy:=(hop hp h2).lit
    obtain⟨q1,q2⟩:=Vt (P:=P) (w:=w) hb hv (t:=t) (X:=x) (Y:=y)
    refine dF (u:=v) ?_ ⟨rfl,q2⟩
    unfold execOp
    simp only[gz,hx,hy]
    rw[Sem.run_bind,q1]
    rfl
   ·cases h
  ·rename_i m m' h1 h2
   have hx:=(hop hp h1).lit
   have hy:=(hop hp h2).lit
   have hC:=C t
   split at h
   ·rename_i hk
    rw[hk]at hC
    simp only[dX,Option.some.injEq]at h
    subst h
    refine dF (u:= .bool (m==m')) ?_ ⟨rfl,rfl⟩
    unfold execOp
    simp only[gz,hx,hy]
    have he:(Op.equal t (.bool m) (.bool m')).run P w= .ok (m==m') w:=yy hC
    simp[eqGuard,binOp,he]
   ·rename_i hk
    rw[hk]at hC
    simp only[dX,Option.some.injEq]at h
    subst h
    refine dF (u:= .bool (m !=m')) ?_ ⟨rfl,rfl⟩
    unfold execOp
    simp only[gz,hx,hy]
    have he:(Op.equal t (.bool m) (.bool m')).run P w= .ok (m==m') w:=yy hC
    simp[eqGuard,binOp,he]
    cases m<;>cases m'<;>rfl
   ·cases h
  ·cases h
 |unOp op t x=>
  cases op with
  |not=>
   simp only[quiet]at h
   split at h
   ·rename_i b hx
    simp only[dX,Option.some.injEq]at h
    subst h
    have hx:=(hop hp hx).lit
    refine dF (u:= .bool (!b)) ?_ ⟨rfl,rfl⟩
    unfold execOp
    simp[gz,hx,Op.unary]
   ·cases h
  |neg=>
   simp only[quiet]at h
   split at h
   ·rename_i k n hx
    simp only[dX,Option.some.injEq]at h
    subst h
    have hx:=(hop hp hx).lit
    refine dF (u:= .int k (k.wrap (0-n))) ?_ ⟨rfl,rfl⟩
    unfold execOp
    simp[gz,hx,Op.unary,Op.intArith]
   ·cases h
  |_=>simp[quiet]at h
 |convert s t x=>
  simp only[quiet]at h
  split at h
  ·rename_i k n k1 k2 hx hk1 hk2
   simp only[dX,Option.some.injEq]at h
   subst h
   have hx:=(hop hp hx).lit
   have c1:=C s
   have c2:=C t
   rw[hk1]at c1
   rw[hk2]at c2
   refine dF (u:= .int k2 (k2.wrap n)) ?_ ⟨rfl,rfl⟩
   unfold execOp
   simp[gz,hx,convert,run_underlying (show P.underlying s=_ from c1),run_underlying (show P.underlying t=_ from c2),Conv.intToInt]
  ·rename_i v g' e hx hk1 hk2
   split at h
   ·rename_i l Rp hl
    simp only[dX,Option.some.injEq]at h
    subst h
    have c1:=C s
    have c2:=C t
    have c3:=C e
    rw[hk1]at c1
    rw[hk2]at c2
    rw[Rp]at c3
    have:=Pk g (hop hp hx) hl c1.1 c3 c2
    refine dF (u:= .string (Fv l)) ?_ ⟨rfl,rfl⟩
    unfold execOp
    simp only[gz,Sem.run_bind,this,Result.andThen_ok,Sem.run_pure]
   ·cases h
  ·cases h
 |slice t x lo hi mx=>
  cases mx with
  |some mx=>
   cases lo with
   |some _=>simp[quiet]at h
   |none=>
    cases hi with
    |none=>simp[quiet]at h
    |some hi=>
     simp only[quiet]at h
     split at h
     case h_2=>cases h
     rename_i gt e hk
     have hC:=C t
     rw[hk]at hC
     split at h
     case h_2=>cases h
     rename_i n n1 n2 hx h1 h2
     split at h
     case h_2=>cases h
     rename_i t' l hl
     split at h
     case h_2=>cases h
     rename_i hkk
     have hkk:=Nat.eq_of_beq_eq_true hkk
     simp only[Option.some.injEq]at h
     subst h
     obtain⟨q0,q1,q2⟩:=hv _ (List.mem_singleton.2 rfl)
     obtain⟨hA,hu⟩:=hop hp hx
     have hs:=RO.sl (g.obj n _ hl)
     rw[←show a.eval x=(env n).v from hu]at hs
     obtain⟨oa,cap,Hj,hc,hm,h3⟩:=id hs
     obtain⟨y1,k1,e1,e2⟩: ∃y k,some hi=some y∧a.eval y= .int k n1:=by
      rcases mN (hop hp) h1 with⟨h,_⟩|h
      ·cases h
      ·exact h
     obtain⟨y2,k2,e3,e4⟩: ∃y k,some mx=some y∧a.eval y= .int k n2:=by
      rcases mN (hop hp) h2 with⟨h,_⟩|h
      ·cases h
      ·exact h
     simp only[Option.some.injEq]at e1 e3
     subst e1;subst e3
     subst q1
     rw[Hj]at hs
     obtain⟨gA,r2,r3⟩:=YJ hs (j:=n1.toNat) (q:=0*kk gt) (by omega) (by simp)
     have hrun:(execOp a.eval o).run P w= .ok (.value (.slice (if n1.toNat=0 then oa else oa.map (·.add (0*kk gt))) n1.toNat n1.toNat)) w:=by
      obtain⟨hun,hsz⟩:=hC
      cases hq:P.info? e with
      |none=>simp[hq]at hsz
      |some inf=>
       have hsz':inf.size=kk gt:=by simpa[hq]using hsz
       have c1:n1≤(cap:Int):=by omega
       have c2: ¬max n1 0<n1:=by omega
       unfold execOp
       simp[gz,Hj,e2,e4,c2,Instr.sliceAt,Instr.slice,Instr.sliceBounds,Instr.sliceBound,asIntOf,run_underlying hun,sizeOf,typeInfo,hq,hsz',q0,c1]
     have hlt:(l.take n1.toNat).length=n1.toNat:=by rw[List.length_take];omega
     exact dF hrun ⟨hA,⟨gA,r2,fun b hb=>Or.inl (r3 b hb)⟩,fun _=>⟨_,by rw[hlt]⟩⟩
  |none=>
   simp only[quiet]at h
   split at h
   ·rename_i gt e hk
    have hC:=C t
    rw[hk]at hC
    split at h
    ·split at h
     ·rename_i n p' t' l n1 hx h1
      simp only[Option.some.injEq]at h
      subst h
      have hlo:n1=(l.length:Int):=hv _ (List.mem_singleton.2 rfl)
      obtain⟨hA,⟨fp,⟨oa,cap,hu,hc,hm,h3⟩,hnd,hd⟩,_⟩:=hop hp hx
      have hz:oa=none→cap=0:=by
       intro ho
       rcases h3 with⟨_,_,h4⟩| ⟨b,off,bh,h4,_⟩
       ·exact h4 ho
       ·rw[ho]at h4;cases h4
      obtain⟨XB,r1,r2⟩:=I7 (P:=P) (w:=w) gz hC hu hc (mN (hop hp) h1) hlo
      refine dF r1 ⟨[],⟨XB,cap-l.length,rfl,Nat.zero_le _,by omega,Or.inl ⟨rfl,rfl,fun ho=> ?_⟩⟩,by simp⟩
      rw[hz (r2 ho)];omega
     ·rename_i k n1 hx h1
      simp only[Option.some.injEq]at h
      subst h
      have hlo:n1=(k:Int):=hv _ (List.mem_singleton.2 rfl)
      obtain⟨oa,cap,hu,hc,hm,hz⟩:=hop hp hx
      obtain⟨XB,r1,r2⟩:=I7 (P:=P) (w:=w) gz hC hu hc (mN (hop hp) h1) hlo
      refine dF r1 ⟨[],⟨XB,cap-k,rfl,Nat.zero_le _,by omega,Or.inl ⟨rfl,rfl,fun ho=> ?_⟩⟩,by simp⟩
      rw[hz (r2 ho)];omega
     ·cases h
    split at h
    ·rename_i t' l n1 hx h1
     split at h
     ·rename_i n2 h2
      split at h
      ·rename_i hkk
       have hkk:=Nat.eq_of_beq_eq_true hkk
       simp only[Option.some.injEq]at h
       subst h
       obtain⟨q0,q1,q2⟩:=hv _ (List.mem_singleton.2 rfl)
       obtain⟨fp,hs,hd⟩:=hop hp hx
       obtain⟨u',gA,r1,r2,r3⟩:=As gz hC hkk hs (mN (hop hp) h1) (mN (hop hp) h2) q0 q1 q2
       exact dF r1 ⟨gA,r2,fun b hb=>hd b (r3.subset hb)⟩
      ·cases h
     ·cases h
    ·rename_i n p' t' l n1 hx h1
     split at h
     ·rename_i n2 h2
      split at h
      ·rename_i hkk
       have hkk:=Nat.eq_of_beq_eq_true hkk
       simp only[Option.some.injEq]at h
       subst h
       obtain⟨q0,q1,q2⟩:=hv _ (List.mem_singleton.2 rfl)
       obtain⟨hA,⟨fp,hs,hnd,hd⟩,_⟩:=hop hp hx
       obtain⟨u',gA,r1,r2,r3⟩:=As gz hC hkk hs (mN (hop hp) h1) (mN (hop hp) h2) q0 q1 q2
       exact dF r1 ⟨hA,⟨gA,r2,r3.nodup hnd,fun b hb=>hd b (r3.subset hb)⟩,by simp⟩
      ·cases h
     ·cases h
    ·rename_i n n1 hx h1
     split at h
     ·rename_i t' l hl
      split at h
      ·rename_i n2 h2
       split at h
       ·rename_i hkk
        have hkk:=Nat.eq_of_beq_eq_true hkk
        simp only[Option.some.injEq]at h
        subst h
        obtain⟨q0,q1,q2⟩:=hv _ (List.mem_singleton.2 rfl)
        obtain⟨hA,hu⟩:=hop hp hx
        have hs:=RO.sl (g.obj n _ hl)
        rw[←show a.eval x=(env n).v from hu]at hs
        obtain⟨u',gA,r1,r2,r3⟩:=As gz hC hkk hs (mN (hop hp) h1) (mN (hop hp) h2) q0 q1 q2
        exact dF r1 ⟨hA,⟨gA,r2,r3.nodup (RO.own (g.obj n _ hl)).nodup,fun b hb=>r3.subset hb⟩,by simp⟩
       ·cases h
      ·cases h
     ·cases h
    ·cases h
   ·rename_i hk
    have hC:=C t
    rw[hk]at hC
    split at h
    ·rename_i s n1 hx h1
     split at h
     ·rename_i n2 h2
      simp only[Option.some.injEq]at h
      subst h
      obtain⟨q0,q1,q2⟩:=hv _ (List.mem_singleton.2 rfl)
      exact Hi gz hC (hop hp hx).lit (mN (hop hp) h1) (mN (hop hp) h2) q0 q1 q2
     ·cases h
    ·cases h
   ·cases h
 |makeFunc fn first captured=>
  cases fn with
  |func f=>
   simp only[quiet]at h
   split at h
   ·rename_i x hf hc
    split at h
    ·rename_i n hx
     simp only[dX,Option.some.injEq]at h
     subst h
     obtain⟨hA,b,hb,hu⟩:=hop hp hx
     have e1:first= #[]:=by cases first;simp_all
     have e2:captured= #[x]:=by cases captured;simp_all
     refine dF (u:= .func (.func f) #[] #[.pointer (some ⟨b,0,none⟩)]) ?_ ⟨hA,b,hb,rfl⟩
     unfold execOp
     simp[gz,Instr.makeFunc,e1,e2,hu]
    ·cases h
   ·cases h
  |_=>simp[quiet]at h
 |fieldAddr t x f=>
  simp only[quiet]at h
  split at h
  ·rename_i z tg fo hk
   have hC:=C t
   rw[hk]at hC
   split at h
   ·rename_i k hf'
    split at h
    ·rename_i n off hx
     simp only[dX,Option.some.injEq]at h
     subst h
     obtain⟨hc,b,hb,hu⟩:=hop hp hx
     exact nh gz hC hf' hu ⟨hc,b,hb,rfl⟩
    ·rename_i gt y off hx
     simp only[dX,Option.some.injEq]at h
     subst h
     obtain⟨b,o',cs,fp,hu,k1⟩:=hop hp hx
     exact nh gz hC hf' hu ⟨b,o',cs,fp,by rw[Nat.add_assoc],k1⟩
    ·rename_i n i off hx
     simp only[dX,Option.some.injEq]at h
     subst h
     obtain⟨t',l,hl,b,o',len,cap,hb,hu⟩:=hop hp hx
     exact nh gz hC hf' hu ⟨t',l,hl,b,o',len,cap,hb,by rw[Nat.add_assoc]⟩
    ·rename_i n gt y off hx
     simp only[dX,Option.some.injEq]at h
     subst h
     obtain⟨hA,b,o',cs,fp,hu,k1,k2,k3,knd,k4,k5⟩:=hop hp hx
     refine nh gz hC hf' hu ⟨hA,b,o',cs,fp,by rw[Nat.add_assoc],k1,k2,k3,knd,k4,fun i o2 j hq=> ?_⟩
     obtain⟨l,u0,b0,pN,len,cap,j1,j2,j3,j4,j5⟩:=k5 i o2 j hq
     rw[hu]at j5
     simp only[Value.pointer.injEq,Option.some.injEq,Addr.mk.injEq,and_true]at j5
     obtain⟨rfl,j5⟩:=j5
     exact⟨l,u0,b,pN,len,cap,j1,j2,j3,j4,by rw[j5,Nat.add_assoc]⟩
    ·cases h
   ·cases h
  ·cases h
 |indexAddr t x i=>
  simp only[quiet]at h
  split at h
  ·rename_i gt e hk
   have hC:=C t
   rw[hk]at hC
   split at h
   ·rename_i t' l ik n hx hi
    split at h
    ·rename_i hkk
     have hkk:=Nat.eq_of_beq_eq_true hkk
     simp only[Option.some.injEq]at h
     subst h
     obtain⟨h0,h1⟩:=hv _ (List.mem_singleton.2 rfl)
     have hx:=hop hp hx
     have hi:=(hop hp hi).lit
     obtain⟨b,off,len,cap,hu,hlt,hr⟩:=Vp hx h0 h1
     exact rH gz hC hu hi h0 hlt (by rw[hkk];exact hr)
    ·cases h
   ·rename_i m ik n hx hi
    split at h
    ·rename_i t' l hl
     split at h
     ·rename_i hkk
      have hkk:=Nat.eq_of_beq_eq_true hkk
      simp only[Option.some.injEq]at h
      subst h
      obtain⟨h0,h1⟩:=hv _ (List.mem_singleton.2 rfl)
      obtain⟨_,hu⟩:=hop hp hx
      have hi:=(hop hp hi).lit
      obtain⟨b,o',cap,cs,f,hs,_⟩:=DG g hl (i:=n.toNat) (by omega)
      exact rH gz hC (hu.trans hs) hi h0 h1 ⟨t',l,hl,b,o',_,cap,hs,by rw[hkk];simp⟩
     ·cases h
    ·cases h
   ·rename_i m p' t' l ik n hx hi
    split at h
    ·rename_i hkk
     have hkk:=Nat.eq_of_beq_eq_true hkk
     simp only[Option.some.injEq]at h
     subst h
     obtain⟨h0,h1⟩:=hv _ (List.mem_singleton.2 rfl)
     have hx:=hop hp hx
     have hi:=(hop hp hi).lit
     obtain⟨b,off,len,cap,hu,hlt,hr⟩:=Vu hx h0 h1
     exact rH gz hC hu hi h0 hlt (by rw[hkk];exact hr)
    ·cases h
   ·cases h
  ·cases h
 |makeSlice t x y=>
  simp only[quiet]at h
  split at h
  ·rename_i gt e hk
   have hC:=C t
   rw[hk]at hC
   split at h
   ·rename_i k1 n1 k2 n2 hx hy
    simp only[Option.some.injEq]at h
    subst h
    have hE:I2 P ty gt e:=hv _ (by simp)
    have hab:n1=n2:=hv _ (by simp)
    have h0:0≤n1:=hv _ (by simp)
    obtain⟨h1,h2⟩:n1.toNat*cT gt≤140737488355328∧n1.toNat≤maxLen:=hv _ (by simp)
    subst hab
    obtain⟨rfl,sH⟩:=hE
    obtain⟨w',u,fp,r1,r2,r3⟩:=Rm (P:=P) (w:=w) (a:=a) gz hC.1 sH (hop hp hx).lit (hop hp hy).lit h0 h1 h2
    exact F4 r1 r2 r3
   ·cases h
  ·cases h
 |buildSlice t len parts=>
  simp only[quiet]at h
  split at h
  ·rename_i gt e hk
   have hC:=C t
   rw[hk]at hC
   split at h
   ·split at h
    case h_2=>cases h
    rename_i x hlen hps
    split at h
    case h_2=>cases h
    rename_i s hx
    split at h
    case h_2=>cases h
    rename_i c n hc
    split at h
    case h_2=>cases h
    rename_i vc y he DE
    simp only[Option.some.injEq]at h
    subst h
    have hE:I2 P ty gt e:=hv _ (by simp)
    obtain⟨rfl,sH⟩:=hE
    have hs:=hop hp hx
    obtain⟨tA,lA,fpE,hl,Ns,hnd,hsub⟩:=Nr g (LN g hs hc) hc
    have hrd:=tJ gt he (fun q hq=>hv q (by simp[hq])) Ns
    have hlen:=Nat.eq_of_beq_eq_true hlen
    subst hlen
    have hO0:=RO.own (g.obj n _ hl)
    have hO:Own _ w fpE:=⟨hnd,fun b hb=>hO0.ge b (hsub b hb),fun b hb=>hO0.kind b (hsub b hb)⟩
    have hfl:([fpE]:List (List Nat)).flatten=fpE:=by simp
    obtain⟨w',r1,r2,r3⟩:=vo (P:=P) (w:=w) (a:=a) gz hC.1 sH (by rw[Nat.one_mul];exact Nat.le_of_ble_eq_true DE) (by rw[hps];rfl) (Nat.zero_le _) (xs:= [y]) (bh:= [fpE]) (by rw[hps];rfl) (by rw[hps];rfl) rfl
     (fun i x' f hx' hf=>by
      cases i with
      |zero=>simp at hx' hf;subst hx';subst hf;exact⟨(0,x),by rw[hps];rfl,hrd⟩
      |succ i=>simp at hx') (by rw[hfl];exact hO)
    rw[hfl]at r3
    unfold Oper.wp
    rw[r1]
    refine⟨_,env,rfl,ld.none r2,⟨tA,lA,hl⟩,w.heap.size,fpE,jE.sl r3,fun ho=> ?_,hnd,hsub⟩
    have:=(g.ow ho).2
    omega
   split at h
   ·rename_i vc xs hlen DE hb
    simp only[Option.some.injEq]at h
    subst h
    have hE:I2 P ty gt e:=hv _ (by simp)
    obtain⟨rfl,sH⟩:=hE
    obtain⟨q1,q2,q3⟩:=F5 g hp hb (fun q hq=>hv q (by simp[hq]))
    have hfl:(List.replicate xs.length ([]:List Nat)).flatten= []:=by simp
    obtain⟨w',r1,r2,r3⟩:=vo (P:=P) (w:=w) (a:=a) gz hC.1 sH (Nat.le_of_ble_eq_true DE) (Nat.eq_of_beq_eq_true hlen) (Nat.le_refl _) (xs:=xs) (bh:=List.replicate xs.length []) q1 q2 (by simp)
     (fun i x f hx hf=>by
      obtain⟨p,h1,h2⟩:=q3 i x hx
      rw[List.getElem?_replicate]at hf
      split at hf
      ·simp only[Option.some.injEq]at hf;subst hf;exact⟨p,h1,h2⟩
      ·cases hf) (by rw[hfl];exact Own.nil _ _)
    exact F4 r1 r2 r3
   ·cases h
  ·cases h
 |build t parts=>
  simp only[quiet]at h
  split at h
  ·rename_i z tg fo hk
   have hC:=C t
   rw[hk]at hC
   obtain⟨fs,hu,hi,h1,_,places,Jb,oD⟩:=hC
   split at h
   ·rename_i c hb
    simp only[dX,Option.some.injEq]at h
    subst h
    cases hq:P.info? t with
    |none=>simp[hq]at hi
    |some inf=>
     simp[hq]at hi
     obtain⟨cs',h3,h4⟩:=I9 (st:=st) (zb:=zb) g hp (pl:=fun j=>places[j]?) oD hb (DF h1)
     refine dF (u:= .agg (Array.mk cs')) ?_ ⟨cs',rfl,h4⟩
     have hrun:=run_build (P:=P) w t (parts.map fun(q:Nat×Operand)=>(q.1,a.eval q.2)) (Array.mk cs') (by
      unfold Program.built
      rw[hq,hu]
      simp only[hi.2,Jb]
      rw[Array.toList_map]
      simpa[Value.cells]using h3)
     unfold execOp
     simp only[gz,Sem.run_bind,hrun,Result.andThen_ok,Sem.run_pure]
   ·cases h
  ·cases h
 |nilCheck x=>
  simp only[quiet]at h
  split at h
  ·rename_i n off hx
   simp only[dX,Option.some.injEq]at h
   subst h
   obtain⟨hA,b,hb,hu⟩:=hop hp hx
   refine dF (u:=a.eval x) ?_ ⟨hA,b,hb,hu⟩
   unfold execOp
   simp[gz,hu]
  ·rename_i n i off hx
   simp only[dX,Option.some.injEq]at h
   subst h
   obtain⟨t,l,hl,b,o',len,cap,hb,hu⟩:=hop hp hx
   refine dF (u:=a.eval x) ?_ ⟨t,l,hl,b,o',len,cap,hb,hu⟩
   unfold execOp
   simp[gz,hu]
  ·cases h
 |extract x i=>
  cases x with
  |tmp t=>
   simp only[quiet]at h
   split at h
   ·rename_i l hl
    split at h
    ·rename_i x hx
     simp only[dX,Option.some.injEq]at h
     subst h
     obtain⟨us,hu,j0⟩:=g.slot t _ hl
     obtain⟨u,k1,k2⟩:=j0.at hx
     refine dF ?_ k2
     unfold execOp
     have hu':a.eval (.tmp t)= .tuple us.toArray:=hu
     simp[gz,hu',Instr.extract,k1]
    ·cases h
   ·cases h
  |_=>simp[quiet]at h
 |call c=>
  obtain⟨callee,xs,ts⟩:=c
  cases callee with
  |value x=>
   cases x with
   |func f=>
    simp only[quiet]at h
    split at h
    ·rename_i as c h1 h2
     simp only[Option.some.injEq]at h
     obtain⟨own,rs⟩:=c
     have Vz:out.vc= [Sound ty P f as rs]:=by
      rw[←h]
      unfold outs
      dsimp only
      (repeat' split)<;>rfl
     exact Nm gz rfl (hv _ (by rw[Vz];simp)) hA g (He g hp h1) h hn
    ·cases h
   |tmp x=>
    simp only[quiet]at h
    split at h
    ·rename_i v hx
     split at h
     ·rename_i f hfn
      split at h
      ·rename_i as c h1 h2
       simp only[Option.some.injEq]at h
       obtain⟨own,rs⟩:=c
       have Vz:out.vc= [Sound ty P f as rs]:=by
        rw[←h]
        unfold outs
        dsimp only
        (repeat' split)<;>rfl
       exact Nm gz (No (hop hp hx) hfn) (hv _ (by rw[Vz];simp)) hA g (He g hp h1) h hn
      ·cases h
     ·cases h
    ·cases h
   |_=>simp[quiet]at h
  |builtin b=>
   cases b with
   |append=>
    simp only[quiet]at h
    split at h
    case h_2=>cases h
    rename_i x y t1 t2 hkey hxl htl
    obtain rfl:xs= #[x,y]:=by cases xs;simp_all
    obtain rfl:ts= #[t1,t2]:=by cases ts;simp_all
    split at h
    case h_2=>cases h
    rename_i gt e htt hk
    have htt:=Nat.eq_of_beq_eq_true htt
    subst htt
    split at h
    case h_2=>cases h
    rename_i n t l n2 pq t' l' hx hy
    split at h
    case h_2=>cases h
    rename_i la lb hnn hca hcb
    have hnn:=Nat.eq_of_beq_eq_true hnn
    subst hnn
    simp only[Option.some.injEq]at h
    subst h
    obtain⟨ea,rfl⟩:=dK hca
    subst ea
    obtain⟨eb,rfl⟩:=dK hcb
    subst eb
    have hE:I2 P ty t' e:=hv _ (by simp)
    obtain⟨b1,b2⟩:(l.length+l'.length)*cT t'≤140737488355328∧l.length+l'.length≤maxLen:=hv _ (by simp)
    obtain⟨rfl,sH⟩:=hE
    have hC:=C t1
    rw[hk]at hC
    obtain⟨hA1,⟨fp,hs,hsub⟩,hcap⟩:=hop hp hx
    obtain⟨hA2,⟨Pm,Da,hnd,aa2⟩,_⟩:=hop hp hy
    obtain⟨oa,hu⟩:=hcap rfl
    obtain⟨olds,fx,n1,n2,n3,n4,n5,_⟩:=yx (eK t') (gQ t') hs
    obtain⟨news,fy,m1,m2,m3,m4,m5,_⟩:=yx (eK t') (gQ t') Da
    rw[hu]at n1
    obtain⟨v',w',hrun,hres⟩:=Vw (ty':=o.type) hC.1 sH (nK t') (gQ t') n1 n3 m1 m3 (Vv (eK t') (gQ t') m2 m3 m4) b2 b1
    have key:Below w.heap.size w w'∧RA w' st.hp env (.mix n false t' (l++l')) v':=by
     rcases hres with⟨h0,rfl,rfl⟩| ⟨hrow,hgr⟩
     ·have e0:l'= []:=List.eq_nil_of_length_eq_zero h0
      subst e0
      refine⟨Below.refl _ _,hA1,⟨fp,?_,hsub⟩,fun hh=>by cases hh⟩
      rw[List.append_nil, ←hu];exact hs
     ·have B1:Below w.heap.size w w':=⟨hgr.os,hgr.tape,hgr.output,hgr.size,fun b hb=>hgr.block b hb (fun h=>by cases h)⟩
      have hkk:=gQ t'
      refine⟨B1,hA1,⟨_,YK (l:=l++l') (bh:=fx++fy) (by rw[List.length_append];exact hrow) (by rw[List.length_append,List.length_append,n2,m2]) (fun i x f hx hf=> ?_),fun b hb=> ?_⟩,fun hh=>by cases hh⟩
      ·refine(eK t').below ?_ B1
       by_cases hi:i<l.length
       ·rw[List.getElem?_append_left hi]at hx
        rw[List.getElem?_append_left (by omega)]at hf
        have h1:i*kk t'+kk t'≤olds.length:=by
         have:=Nat.mul_le_mul_right (kk t') (show i+1≤l.length by omega)
         rw[Nat.add_mul]at this;omega
        rw[List.drop_append_of_le_length (by omega),List.take_append_of_le_length (by rw[List.length_drop];omega)]
        exact n4 i x f hx hf
       ·rw[List.getElem?_append_right (by omega)]at hx
        rw[List.getElem?_append_right (by omega),n2]at hf
        have h1:i*kk t'=olds.length+(i-l.length)*kk t':=by
         rw[n3, ←Nat.add_mul];congr 1;omega
        rw[h1,List.drop_append]
        have h2:olds.drop (olds.length+(i-l.length)*kk t')= []:=List.drop_eq_nil_of_le (by omega)
        rw[h2,List.nil_append,Nat.add_sub_cancel_left]
        exact m4 _ x f hx hf
      ·rcases List.mem_append.1 hb with hb|hb
       ·refine Or.inr fun ho=> ?_
        have h1:=(g.ow ho).2
        have h2:=(hrow.lt b (by simpa using hb)).1
        omega
       ·rw[List.flatten_append]at hb
        rcases List.mem_append.1 hb with hb|hb
        ·exact hsub b (n5.subset hb)
        ·exact Or.inl (aa2 b (m5.subset hb))
    unfold Oper.wp execOp
    simp only[gz,resolve,invoke,builtin,Sem.run_bind,Sem.run_pure,Result.andThen_ok,List.map_toArray,List.map_cons,List.map_nil,hu,hrun]
    exact⟨v',env,rfl,ld.none key.1,key.2⟩
   |max=>
    simp only[quiet]at h
    split at h
    ·rename_i k x r hxs
     split at h
     ·rename_i y hy
      simp only[dX,Option.some.injEq]at h
      subst h
      have he:=DH g hp hxs
      refine dF (u:= .int k y) ?_ ⟨rfl,rfl⟩
      have hf:=DI (P:=P) (w:=w) (f:=Builtin.max2) (F:=Vk) (fun k x y=>rfl) hy
      unfold execOp
      simp[gz,resolve,invoke,builtin,Builtin.max_,he,hf]
     ·cases h
    ·cases h
   |min=>
    simp only[quiet]at h
    split at h
    ·rename_i k x r hxs
     split at h
     ·rename_i y hy
      simp only[dX,Option.some.injEq]at h
      subst h
      have he:=DH g hp hxs
      refine dF (u:= .int k y) ?_ ⟨rfl,rfl⟩
      have hf:=DI (P:=P) (w:=w) (f:=Builtin.min2) (F:=p7) (fun k x y=>rfl) hy
      unfold execOp
      simp[gz,resolve,invoke,builtin,Builtin.min_,he,hf]
     ·cases h
    ·cases h
   |len=>
    simp only[quiet]at h
    split at h
    ·rename_i x t hxl htl
     obtain rfl:xs= #[x]:=by cases xs;simp_all
     obtain rfl:ts= #[t]:=by cases ts;simp_all
     split at h
     ·rename_i v hx
      split at h
      ·rename_i n hn'
       simp only[dX,Option.some.injEq]at h
       subst h
       have hr:=hop hp hx
       have hC:=C t
       cases v with
       |sl t' l=>
        simp only[lenOf]at hn'
        split at hn'
        ·rename_i g' e' hk
         simp only[Option.some.injEq]at hn'
         subst hn'
         rw[hk]at hC
         obtain⟨fp,⟨oa,cap,hu,_⟩,_⟩:=hr
         exact Dz rfl gz hC.1 hu (Or.inl ⟨_,oa,cap,l.length,rfl,rfl,rfl⟩)
        ·cases hn'
       |own m=>
        simp only[lenOf]at hn'
        split at hn'
        ·rename_i g' e' hk
         rw[hk]at hC
         split at hn'
         ·rename_i t' l hl
          simp only[Option.some.injEq]at hn'
          subst hn'
          obtain⟨_,hu⟩:=hr
          obtain⟨oa,cap,hs,_⟩:=RO.sl (g.obj m _ hl)
          exact Dz rfl gz hC.1 (hu.trans hs) (Or.inl ⟨_,oa,cap,l.length,rfl,rfl,rfl⟩)
         ·cases hn'
        ·cases hn'
       |vw m p' t' l=>
        simp only[lenOf]at hn'
        split at hn'
        ·rename_i g' e' hk
         simp only[Option.some.injEq]at hn'
         subst hn'
         rw[hk]at hC
         obtain⟨_,⟨fp,⟨oa,cap,hu,_⟩,_⟩,_⟩:=hr
         exact Dz rfl gz hC.1 hu (Or.inl ⟨_,oa,cap,l.length,rfl,rfl,rfl⟩)
        ·cases hn'
       |lit v=>
        have hu:=(show fP w st.hp env (.a (.lit v)) _ from hr).lit
        simp only[lenOf]at hn'
        split at hn'
        ·rename_i heq;cases heq
        ·rename_i heq;cases heq
        ·rename_i heq;cases heq
        ·rename_i heq
         simp only[V.lit.injEq]at heq
         subst heq
         split at hn'
         ·rename_i g' e' hk
          simp only[Option.some.injEq]at hn'
          subst hn'
          rw[hk]at hC
          exact Dz rfl gz hC.1 hu (Or.inl ⟨_,none,0,0,rfl,rfl,rfl⟩)
         ·cases hn'
        ·rename_i s heq
         simp only[V.lit.injEq]at heq
         subst heq
         split at hn'
         ·rename_i hk
          simp only[Option.some.injEq]at hn'
          subst hn'
          rw[hk]at hC
          exact Dz rfl gz hC hu (Or.inr ⟨_,rfl,rfl,rfl⟩)
         ·cases hn'
        ·cases hn'
       |_=>simp[lenOf]at hn'
      ·cases h
     ·cases h
    ·cases h
   |_=>simp[quiet]at h
  |invoke _ _=>simp[quiet]at h
 |_=>simp[quiet]at h
end
end
section
variable{ty:Tag→Nat}
theorem j9{α:Type}{f:Nat×α→α}: ∀{l:List (Nat×α)} {s:Nat},look (l.map fun e=>(e.1,f e)) s=(look l s).map fun x=>f (s,x)
 | [],_=>rfl
 | (j,x)::r,s=>by
   by_cases h:s=j
   ·subst h;rw[List.map_cons,look_eq,look_eq];rfl
   ·rw[List.map_cons,aU h,aU h];exact j9
theorem F6{tmps:Array Value}{d:Nat}{u:Value}{p:List (Nat×Bool)}(h:(p.any fun e=>Nat.beq e.1 d)=false):holds (tmps.setIfInBounds d u) p↔holds tmps p:=by
 have hne: ∀e,e∈p→d≠e.1:=by
  rintro e he rfl
  rw[List.any_eq_false]at h
  exact h e he (by simp)
 constructor
 ·intro hh e he
  have:=hh e he
  rwa [Array.getElem?_setIfInBounds_ne (hne e he)]at this
 ·intro hh e he
  rw[Array.getElem?_setIfInBounds_ne (hne e he)]
  exact hh e he
theorem p8.put{w:World}{hp:Hp}{env:Env}{tmps:Array Value}{d:Nat}{u y:Value}{x:SV}(hm:x.mentions d=false)(h:p8 w hp env tmps x y):p8 w hp env (tmps.setIfInBounds d u) x y:=by
 cases x with
 |one x=>exact h
 |tK l=>exact h
 |cond p x=>exact⟨fun hh=>h.1 ((F6 hm).1 hh),fun hh=>h.2 fun k=>hh ((F6 hm).2 k)⟩
theorem Good.aa4{zb:bY}{st:St}{tmps:Array Value}{w:World}{env:Env}(g:Good ty zb st tmps w env){d:Nat}(hd:d<tmps.size){v:SV}{u:Value}(hv:p8 w st.hp env tmps v u)(hm:v.mentions d=false)(f:SV→SV)(hf: ∀s y,look st.sl s=some y→f y= .one (.a .any)∨(f y=y∧y.mentions d=false)):
  Good ty zb ⟨st.n,(d,v)::st.sl.map fun e=>(e.1,f e.2),st.hp⟩ (tmps.setIfInBounds d u) w env:=by
 refine⟨g.obj,g.kW,fun s x hl=> ?_,g.dom,g.pins⟩
 by_cases hs:s=d
 ·subst hs
  have hl:look ((s,v)::_) s=some x:=hl
  rw[look_eq]at hl
  simp only[Option.some.injEq]at hl
  subst hl
  have:(tmps.setIfInBounds s u).getD s undef=u:=by
   rw[Array.getD_eq_getD_getElem?,Array.getElem?_setIfInBounds_self_of_lt hd];rfl
  rw[this]
  exact hv.put hm
 ·have hl:look ((d,v)::_) s=some x:=hl
  rw[aU hs,j9 (α:=SV) (f:=fun e:Nat×SV=>f e.2)]at hl
  cases hq:look st.sl s with
  |none=>rw[hq]at hl;cases hl
  |some y=>
   rw[hq]at hl
   simp only[Option.map_some,Option.some.injEq]at hl
   subst hl
   have hgd:(tmps.setIfInBounds d u).getD s undef=tmps.getD s undef:=by
    rw[Array.getD_eq_getD_getElem?,Array.getD_eq_getD_getElem?,Array.getElem?_setIfInBounds_ne (Ne.symm hs)]
   rw[hgd]
   show p8 w st.hp env _ (f y) _
   rcases hf s y hq with h| ⟨h,hm'⟩
   ·rw[h];trivial
   ·rw[h];exact(g.slot s y hq).put hm'
theorem Good.put{zb:bY}{st:St}{tmps:Array Value}{w:World}{env:Env}(g:Good ty zb st tmps w env){d:Nat}(hd:d<tmps.size){v:SV}{u:Value}(hv:p8 w st.hp env tmps v u)(hm:v.mentions d=false):
  Good ty zb (st.put (some d) v) (tmps.setIfInBounds d u) w env:=by
 unfold St.put
 dsimp only
 split
 ·rename_i hno
  have:=g.aa4 hd hv hm id (fun s y hl=>Or.inr ⟨rfl,by
   rw[List.any_eq_false]at hno
   simpa using hno _ (ew hl)⟩)
  simpa using this
 ·refine g.aa4 hd hv hm (SV.Q6 d) fun s y hl=> ?_
  unfold SV.Q6
  split
  ·exact Or.inl rfl
  ·rename_i hm';exact Or.inr ⟨rfl,hm'⟩
theorem qa{zb:bY}{st:St}{a:Act}{w:World}{env:Env}(g:Good ty zb st a.tmps w env){dst:Option Nat}(hd: ∀d,dst=some d→d<a.tmps.size){v:SV}{u:Value}(hv:p8 w st.hp env a.tmps v u)(hm: ∀d,dst=some d→v.mentions d=false):
  Good ty zb (st.put dst v) (a.put dst u).tmps w env:=by
 cases dst with
 |none=>exact g
 |some d=>exact g.put (hd d rfl) hv (hm d rfl)
theorem ij(a:Act)(dst:Option Nat)(u:Value):(a.put dst u).tmps.size=a.tmps.size:=by
 cases dst<;>simp[Act.put]
theorem yz(st:St)(d:Option Nat)(v:SV):(st.put d v).n=st.n:=by
 unfold St.put
 split
 ·split<;>rfl
 ·rfl
theorem YM(st:St)(d:Option Nat)(v:SV):(st.put d v).hp=st.hp:=by
 unfold St.put
 split
 ·split<;>rfl
 ·rfl
theorem put_defers(a:Act)(dst:Option Nat)(u:Value):(a.put dst u).defers=a.defers:=by
 cases dst<;>rfl
theorem nM{ops:Array Oper}{o:Oper}{j:Nat}{x:Bool}(hg:o.guard=some (j,x)){q:Oper}(hj:ops[j]? =some q){d:Nat}(hd:q.dst=some d)(tmps:Array Value):
  Region.wanted o (yielded ops tmps)=true↔tmps[d]? =some (.bool x):=by
 simp only[Region.wanted,hg,yielded,hj,Option.bind_some,hd]
 constructor
 ·intro h
  have h:=eq_of_beq h
  split at h
  ·rename_i b hb
   simp at h
   rw[hb,h]
  ·cases h
 ·intro h
  rw[h];simp
theorem vp{zb:bY}{st:St}{tmps:Array Value}{w:World}{env:Env}(g:Good ty zb st tmps w env){d:Nat}{p:List (Nat×Bool)}{b x:Bool}(hl:look st.sl d=some (.cond p (.a (.lit (.bool b)))))(h:tmps[d]? =some (.bool x)):holds tmps p∧b=x:=by
 have hs:=g.slot d _ hl
 rw[Array.getD_eq_getD_getElem?,h]at hs
 by_cases hh:holds tmps p
 ·have:=(hs.1 hh).lit
  simp at this
  exact⟨hh,this.symm⟩
 ·have:=hs.2 hh
  simp[undef]at this
theorem Rq{zb:bY}{st:St}{tmps:Array Value}{w:World}{env:Env}(g:Good ty zb st tmps w env){d:Nat}{b x:Bool}(hl:look st.sl d=some (.one (.a (.lit (.bool b)))))(h:tmps[d]? =some (.bool x)):b=x:=by
 have hs:=g.slot d _ hl
 rw[Array.getD_eq_getD_getElem?,h]at hs
 have:=(show fP w st.hp env (.a (.lit (.bool b))) (.bool x)from hs).lit
 simp at this
 exact this.symm
theorem CE{zb:bY}{st:St}{tmps:Array Value}{w:World}{env:Env}(g:Good ty zb st tmps w env): ∀{p:List (Nat×Bool)},holds tmps p→ ∀q,q∈hyps st p→q
 | [],_,q,hq=>by simp[hyps]at hq
 | (d,x)::r,h,q,hq=>by
   have h0:tmps[d]? =some (.bool x):=h (d,x) (by simp)
   have hr:holds tmps r:=fun e he=>h e (by simp[he])
   simp only[hyps]at hq
   split at hq
   ·rename_i b hl
    rcases List.mem_cons.1 hq with rfl|hq
    ·exact Rq g hl h0
    ·exact CE g hr q hq
   ·rename_i p' b hl
    rcases List.mem_cons.1 hq with rfl|hq
    ·exact(vp g hl h0).2
    ·exact CE g hr q hq
   ·exact CE g hr q hq
theorem Nt: ∀{hs:List Prop} {q:Prop},G8 hs q→(∀h,h∈hs→h)→q
 | [],_,h,_=>h
 |h'::r,q,h,hh=>Nt (hs:=r) (h (hh h' (by simp))) fun x hx=>hh x (by simp[hx])
section
variable{P:Program}{zb:bY}{st st':St}{a:Act}{w:World}{Q:Exit→Act→World→Prop}{o:Oper}
def qb(P:Program)(ops:Array Oper)(o:Oper)(a:Act)(w:World)(K:Act→World→Prop)(Q:Exit→Act→World→Prop):Prop:=
 if Region.wanted o (yielded ops a.tmps)then o.wp P a w K Q∨(o.asks P a w∧LetsOut Q)else K (a.put o.dst undef) w
theorem jG{ops:Array Oper}(hg:o.guard=none){K:Act→World→Prop}(h:o.wp P a w K Q):qb P ops o a w K Q:=by
 unfold qb
 rw[if_pos (by simp[Region.wanted,hg])]
 exact .inl h
theorem LO(iv:Inv ty zb st a w)(h:wE st o.dst=true): ∀d,o.dst=some d→d<a.tmps.size:=by
 intro d hd
 rw[hd]at h
 rw[iv.size]
 exact Nat.le_of_ble_eq_true h
theorem DJ{Γ:Nat→TK}(C: ∀t,cA P t (Γ t)){dc:List (Nat×Nat)}{cr:List (Nat×CR)}{ops:List Oper}{vc:List Prop}{v2:SV}{os:Hp}(h:l5 Γ (I2 P ty) (Sound ty P) dc cr ops st o=some (vc,v2,os))(iv:Inv ty zb st a w)(hv: ∀q,q∈vc→q):
  qb P ops.toArray o a w (fun a' w'=>Inv ty zb (St.put ⟨st.n,st.sl,os++st.hp⟩ o.dst v2) a' w') Q:=by
 obtain⟨env,g⟩:=iv.good
 have YN:=iv.kept.size
 simp only[l5]at h
 split at h
 ·rename_i m hd _ fN
  have Fw:=LO iv hd
  have hg:o.guard=none:=by
   cases hg:o.guard with
   |none=>rfl
   |some e=>
    obtain⟨j,x⟩:=e
    exfalso
    simp only[fB,hg]at fN
    repeat' split at fN
    all_goals simp at fN
  split at h
  ·rename_i v1 v os hq
   split at h
   ·rename_i hf hn
    simp only[Option.some.injEq,Prod.mk.injEq]at h
    obtain⟨rfl,rfl,rfl⟩:=h
    refine jG hg (Oper.wp_mono ?_ (Ja (Q:=Q) C hq g (fun e he=>by simp at he) (iv.B0.now iv.kept) hv hf hn))
    rintro a' w' ⟨u,env',rfl,hN,hr⟩
    have g':=g.grow YN hf hN
    have hnm: ∀d,o.dst=some d→v.mentions d=false:=by
     intro d _
     cases v with
     |one x=>rfl
     |tK l=>rfl
     |cond p x=>
      exfalso
      have: ∀(op:Op) (d m:Nat) (out:Out) (p:List (Nat×Bool)) (x:S1),quiet Γ (I2 P ty) (Sound ty P) cr st [] d m op=some out→out.v≠ .cond p x:=by
       intro op d m out p x hh
       unfold quiet Q7 at hh
       repeat' split at hh
       all_goals first
        | (cases hh;done)
        | (simp only[dX,Option.some.injEq]at hh;subst hh;intro e;cases e;done)
        | (simp only[Option.some.injEq]at hh;subst hh;unfold outs;(repeat' split)<;>(intro e;cases e))
      exact this _ _ _ _ p x hq rfl
    refine⟨by rw[ij,yz];exact iv.size,by rw[put_defers];exact iv.defers,iv.kept.trans (jF hN.below YN),iv.B0,env',qa g' Fw hr hnm⟩
   ·cases h
  ·cases h
 ·rename_i m e p hd _ fN
  have Fw:=LO iv hd
  split at h
  ·rename_i hne
   split at h
   ·rename_i v1 v hq
    simp only[Option.some.injEq,Prod.mk.injEq]at h
    obtain⟨rfl,rfl,rfl⟩:=h
    have hmn: ∀d,o.dst=some d→(SV.cond (e::p) v).mentions d=false:=by
     intro d hdd
     show((e::p).any fun e=>Nat.beq e.1 d)=false
     rw[List.any_eq_false]at hne ⊢
     intro x hx hb
     have:=Nat.eq_of_beq_eq_true hb
     exact hne x hx (by rw[hdd,this];simp)
    have fin: ∀{u:Value} {w':World},Below w.heap.size w w'→ld (ty:=ty) w w' st.hp [] env env→p8 w' st.hp env a.tmps (.cond (e::p) v) u→Inv ty zb (st.put o.dst (.cond (e::p) v)) (a.put o.dst u) w':=by
     intro u w' hb hN hr
     have g':=g.grow (os:= []) YN rfl hN
     exact⟨by rw[ij,yz];exact iv.size,by rw[put_defers];exact iv.defers,iv.kept.trans (jF hb YN),iv.B0,env,qa g' Fw hr hmn⟩
    have key: ∃j x q d,o.guard=some (j,x)∧ops[j]? =some q∧q.dst=some d∧(d,x)∈e::p∧(a.tmps[d]? =some (.bool x)→holds a.tmps (e::p)):=by
     unfold fB at fN
     split at fN
     ·simp at fN
     ·rename_i j x hg
      split at fN
      ·rename_i q hj
       split at fN
       ·rename_i d Ls
        split at fN
        ·rename_i b hl
         simp only[Option.some.injEq]at fN
         refine⟨j,x,q,d,hg,hj,Ls,by rw[←fN];simp,fun hh=> ?_⟩
         rw[←fN]
         intro y hy
         simp at hy
         subst hy
         exact hh
        ·rename_i p' b hl
         simp only[Option.some.injEq]at fN
         refine⟨j,x,q,d,hg,hj,Ls,by rw[←fN];simp,fun hh=> ?_⟩
         rw[←fN]
         intro y hy
         rcases List.mem_cons.1 hy with rfl|hy
         ·exact hh
         ·exact(vp g hl hh).1 y hy
        ·cases fN
       ·cases fN
      ·cases fN
    obtain⟨j,x,q,d,hg,hj,Ls,hmem,aa6⟩:=key
    have hw:=nM (ops:=ops.toArray) hg (by simpa using hj) Ls a.tmps
    unfold qb
    by_cases hb:a.tmps[d]? =some (.bool x)
    ·rw[if_pos (hw.2 hb)]
     have hp:=aa6 hb
     left
     refine Oper.wp_mono ?_ (Ja (Q:=Q) C hq g hp (iv.B0.now iv.kept) (fun z hz=> ?_) rfl rfl)
     ·rintro a' w' ⟨u,env',rfl,hN,hr⟩
      have he:env'=env:=funext fun n=>hN.old n rfl
      subst he
      exact fin hN.below hN ⟨fun _=>hr,fun hh=>absurd (fun y hy=>hp y hy) hh⟩
     ·exact Nt (hv _ (List.mem_map.2 ⟨z,hz,rfl⟩)) (CE g hp)
    ·rw[if_neg (fun hh=>hb (hw.1 hh))]
     exact fin (Below.refl _ _) (ld.none (Below.refl _ _)) ⟨fun hh=>absurd (hh (d,x) hmem) hb,fun _=>rfl⟩
   ·cases h
  ·cases h
 ·cases h
theorem Rr{Γ:Nat→TK}(C: ∀t,cA P t (Γ t)){dc:List (Nat×Nat)}{cr:List (Nat×CR)}{ops:List Oper}{vc:List Prop}(h:Q8 Γ (I2 P ty) (Sound ty P) dc cr ops st o=some (vc,st'))(iv:Inv ty zb st a w)(hv: ∀q,q∈vc→q):
  qb P ops.toArray o a w (fun a' w'=>Inv ty zb st' a' w') Q:=by
 unfold Q8 at h
 split at h
 ·rename_i pO v os hq
  simp only[Option.some.injEq,Prod.mk.injEq]at h
  obtain⟨rfl,rfl⟩:=h
  exact DJ C hq iv hv
 ·cases h
end
end
section
variable{ty:Tag→Nat}
def V.dead:V→V
 | .vw _ _ _ l=> .vR l.length
 |_=> .any
def V.bE(ks kv:List Nat)(v:V):V:=match v.name with
 |some m=>match ks.any (Nat.beq m)with
  |true=>v.dead
  |false=>match kv with
   | []=>v
   |kv=>match v.view with
    |some _=>match kv.any (Nat.beq m)with|true=>v.dead|false=>v
    |none=>v
 |none=>v
def S1.bE(ks kv:List Nat):S1→S1
 | .a v=> .a (v.bE ks kv)
 | .agg l=> .agg (l.map (V.bE ks kv))
def SV.bE(ks kv:List Nat):SV→SV
 | .one x=> .one (x.bE ks kv)
 | .tK l=> .tK (l.map (S1.bE ks kv))
 | .cond p x=> .cond p (x.bE ks kv)
def CB.bE(ks kv:List Nat):CB→CB
 | .of n=>match ks.any (Nat.beq n)||kv.any (Nat.beq n)with|true=> .gone|false=> .of n
 |s=>s
def Obj.bE(ks kv:List Nat):Obj→Obj
 | .box c=> .box (c.map (V.bE ks kv))
 | .arr t l=> .arr t l
 | .lZ t l s=> .lZ t l (s.bE ks kv)
def cE(ks kv:List Nat)(hp:Hp):Hp:=(hp.filter fun e=> !ks.any (Nat.beq e.1)).map fun e=>(e.1,e.2.bE ks kv)
def pinned(ks:List Nat):Bool:=ks.any soft
theorem V.LP{ks kv:List Nat}{v:V}:(v.bE ks kv).tN (fun n=>n∉ks) (fun n=>n∉ks∧n∉kv):=by
 have hx: ∀{l:List Nat} {m:Nat},(l.any (Nat.beq m))=false→m∉l:=by
  intro l m h hm
  rw[List.any_eq_false]at h
  exact h m hm (by simp)
 have XG: ∀x:V,x.dead.tN (fun n=>n∉ks) (fun n=>n∉ks∧n∉kv):=by
  intro x
  cases x<;>exact⟨fun _ h=>by simp[V.dead,V.name]at h,fun _ h=>by simp[V.dead,V.view]at h⟩
 unfold V.bE
 split
 ·rename_i m hm
  split
  ·exact XG v
  ·rename_i hk
   have hk:=hx hk
   have hn: ∀n,v.name=some n→n∉ks:=by
    intro n h;rw[hm]at h;simp only[Option.some.injEq]at h;subst h;exact hk
   split
   ·exact⟨hn,fun n h=>⟨hn n (V.p9 h),by simp⟩⟩
   ·split
    ·split
     ·exact XG v
     ·rename_i hv
      have hv:=hx hv
      refine⟨hn,fun n h=>⟨hn n (V.p9 h),?_⟩⟩
      have:=V.p9 h
      rw[hm]at this;simp only[Option.some.injEq]at this;subst this;exact hv
    ·rename_i hnv
     exact⟨hn,fun n h=>by rw[hnv]at h;cases h⟩
 ·rename_i hm
  refine⟨fun n h=> ?_,fun n h=> ?_⟩
  ·rw[hm]at h;cases h
  ·have:=V.p9 h;rw[hm]at this;cases this
theorem RA.dead{w:World}{hp:Hp}{env:Env}{v:V}{u:Value}(h:RA w hp env v u):RA w hp env v.dead u:=by
 cases v with
 |vw n p t l=>
  obtain⟨_,⟨fp,⟨oa,cap,rfl,hc,hm,h3⟩,_⟩,_⟩:=h
  refine⟨oa,cap,rfl,hc,hm,fun ho=> ?_⟩
  rcases h3 with⟨_,_,h4⟩| ⟨b,off,bh,h4,_⟩
  ·exact h4 ho
  ·rw[ho]at h4;cases h4
 |_=>trivial
theorem RA.bE{w:World}{hp:Hp}{env:Env}{ks kv:List Nat}{v:V}{u:Value}(h:RA w hp env v u):RA w hp env (v.bE ks kv) u:=by
 unfold V.bE
 repeat' split
 all_goals first
  |exact h
  |exact h.dead
  |trivial
abbrev sS(ks kv:List Nat)(w:World)(hp:Hp)(env:Env)(w':World)(iZ:Hp)(env':Env):Prop:=Step (fun n=>n∉ks) (fun n=>n∉ks∧n∉kv) w hp env w' iZ env'
section
variable{ks kv:List Nat}{w w':World}{hp iZ:Hp}{env env':Env}
theorem BE.jl(s:sS ks kv w hp env w' iZ env'){r:CB}{t:Tag}{x:T t}{u:Value}(h:BE w hp env r t x u):BE w' iZ env' (r.bE ks kv) t x u:=by
 cases r with
 |gone=>trivial
 |oB=>exact BE.step s (r:= .oB) (fun n hn=>by cases hn) h
 |of n=>
  unfold CB.bE
  dsimp only
  split
  ·trivial
  ·rename_i hk
   rw[Bool.or_eq_false_iff,List.any_eq_false,List.any_eq_false]at hk
   refine BE.step s (r:= .of n) (fun m hm=> ?_) h
   simp only[CB.name,Option.some.injEq]at hm
   subst hm
   exact⟨fun hm=>hk.1 n hm (by simp),fun hm=>hk.2 n hm (by simp)⟩
theorem RA.jl(s:sS ks kv w hp env w' iZ env'){v:V}{u:Value}(h:RA w hp env v u):RA w' iZ env' (v.bE ks kv) u:=
 RA.step s V.LP h.bE
theorem bt.map{α β γ:Type}{R:α→β→Prop}{R':γ→β→Prop}{f:α→γ}: ∀{as:List α} {bs:List β},(∀a b,R a b→R' (f a) b)→bt R as bs→bt R' (as.map f) bs
 | [],[],_,_=>trivial
 |a::as,b::bs,h,⟨h1,h2⟩=>⟨h a b h1,bt.map h h2⟩
 | [],_::_,_,h=>h.elim
 |_::_,[],_,h=>h.elim
theorem fP.jl(s:sS ks kv w hp env w' iZ env'){x:S1}{u:Value}(h:fP w hp env x u):fP w' iZ env' (x.bE ks kv) u:=by
 cases x with
 |a v=>exact RA.jl s h
 |agg l=>obtain⟨cs,hu,hl⟩:=h;exact⟨cs,hu,hl.map fun a b hr=>RA.jl s hr⟩
theorem p8.jl(s:sS ks kv w hp env w' iZ env'){tmps:Array Value}{x:SV}{u:Value}(h:p8 w hp env tmps x u):p8 w' iZ env' tmps (x.bE ks kv) u:=by
 cases x with
 |one x=>exact fP.jl s h
 |tK l=>obtain⟨us,hu,hl⟩:=h;exact⟨us,hu,hl.map fun a b hr=>fP.jl s hr⟩
 |cond p x=>exact⟨fun hh=>fP.jl s (h.1 hh),h.2⟩
theorem Good.jl{zb:bY}{st:St}{tmps:Array Value}(g:Good ty zb st tmps w env)(s:sS ks kv w st.hp env w' iZ env')
  (ho: ∀n o,look iZ n=some o→RO ty w' iZ env' n o (env' n))(hd: ∀n m o o',n≠m→look iZ n=some o→look iZ m=some o'→ ∀b,b∈(env' n).fp→b∉(env' m).fp)
  (hm: ∀n o,look iZ n=some o→ ∀b,b∈(env' n).fp→b∈zb.L∨zb.w.heap.size≤b)(hp: ∀n,jk n=true→(env' n).v=(zb.pv n).v∧ ∀b,b∈(env' n).fp→b∈(zb.pv n).fp):
  Good ty zb ⟨st.n,st.sl.map fun e=>(e.1,e.2.bE ks kv),iZ⟩ tmps w' env':=by
 refine⟨ho,hd,fun t v hl=> ?_,hm,hp⟩
 have hl:look (st.sl.map fun e=>(e.1,e.2.bE ks kv)) t=some v:=hl
 rw[j9 (α:=SV) (f:=fun e:Nat×SV=>e.2.bE ks kv)]at hl
 cases hq:look st.sl t with
 |none=>rw[hq]at hl;cases hl
 |some y=>
  rw[hq]at hl
  simp only[Option.map_some,Option.some.injEq]at hl
  subst hl
  exact p8.jl s (g.slot t y hq)
end
theorem bT{ks kv:List Nat}{hp:Hp}{n:Nat}:look (cE ks kv hp) n=if n∈ks then none else(look hp n).map (Obj.bE ks kv):=by
 unfold cE
 rw[j9 (α:=Obj) (f:=fun e:Nat×Obj=>e.2.bE ks kv)]
 have:look (hp.filter fun e=> !ks.any (Nat.beq e.1)) n=if n∈ks then none else look hp n:=by
  induction hp with
  |nil=>simp[look]
  |cons e r ih=>
   obtain⟨j,x⟩:=e
   by_cases hj:j∈ks
   ·have:(ks.any (Nat.beq j))=true:=List.any_eq_true.2 ⟨j,hj,by simp⟩
    rw[List.filter_cons_of_neg (by simp[this]),ih]
    by_cases hn:n∈ks
    ·simp[hn]
    ·have:n≠j:=by rintro rfl;exact hn hj
     rw[aU this]
   ·have:(ks.any (Nat.beq j))=false:=List.any_eq_false.2 fun y hy hb=>hj (by have:=Nat.eq_of_beq_eq_true hb;rw[this];exact hy)
    rw[List.filter_cons_of_pos (by simp[this])]
    by_cases hn:n=j
    ·subst hn;rw[look_eq,look_eq,if_neg hj]
    ·rw[aU hn,aU hn,ih]
 rw[this]
 split<;>rfl
theorem qc: ∀{l:List V},tM l=true→ ∀v,v∈l→v≠ .any
 |x::r,h,v,hv=>by
  cases x with
  |any=>simp[tM]at h
  |_=>
   rcases List.mem_cons.1 hv with rfl|hv
   ·exact fun e=>by cases e
   ·exact qc (l:=r) (by simpa[tM]using h) v hv
def Hl(Γ:Nat→TK)(st:St):Op→Option St
 | .store t x y=>match iO st [] x,Lm st [] y with
   |some (.a (.ptr n off)),some v=>match look st.hp n with
    |some (.box c)=>match Γ t,v with
     | .st z _ _, .agg l=>match Nat.beq l.length z.length&&tM l,Ln c off l with
       |true,some c'=>some ⟨st.n,st.sl,(n, .box c')::st.hp⟩
       |_,_=>none
     | .st _ _ _, .a _=>none
     | .other,_=>none
     |_, .a .any=>none
     |_, .a v=>match Ln c off [v]with
      |some c'=>some ⟨st.n,st.sl,(n, .box c')::st.hp⟩
      |none=>none
     |_,_=>none
    |_=>none
   |_,_=>none
 |_=>none
section
variable{P:Program}{zb:bY}{st st':St}{a:Act}{w:World}{env:Env}{Q:Exit→Act→World→Prop}{o:Oper}
theorem RA.one(g:Good ty zb st a.tmps w env){v:V}{u:Value}(h:RA w st.hp env v u)(hv:v≠ .any):u.oneCell'=true:=by
 cases v with
 |any=>exact absurd rfl hv
 |lit x=>obtain⟨rfl,h1⟩:=h;exact h1
 |sl t l=>obtain⟨fp,⟨oa,cap,rfl,_⟩,_⟩:=h;rfl
 |own n=>
  obtain⟨⟨t,l,hl⟩,rfl⟩:=h
  obtain⟨oa,cap,h,_⟩:=RO.sl (g.obj n _ hl)
  rw[h];rfl
 |ptr n off=>obtain⟨_,b,_,rfl⟩:=h;rfl
 |Aj f n=>obtain⟨_,b,_,rfl⟩:=h;rfl
 |vR k=>obtain⟨oa,cap,rfl,_⟩:=h;rfl
 |fY v t l=>obtain⟨_,fp,⟨oa,cap,rfl,_⟩,_⟩:=h;rfl
 |mM n i off=>obtain⟨t,l,_,b,o,len,cap,_,rfl⟩:=h;rfl
 |ip t x off=>obtain⟨b,o,cs,fp,rfl,_⟩:=h;rfl
 |vw n p t l=>obtain⟨_,⟨fp,⟨oa,cap,rfl,_⟩,_⟩,_⟩:=h;rfl
 |BZ n t l=>obtain⟨_,b,fp,⟨oa,cap,rfl,_⟩,_⟩:=h;rfl
 |mix n c t l=>obtain⟨_,⟨fp,⟨oa,cap,rfl,_⟩,_⟩,_⟩:=h;rfl
 |Ag n=>
  obtain⟨⟨t,l,s,hl⟩,rfl⟩:=h
  obtain⟨_,us,hB,_⟩:=g.obj n _ hl
  obtain⟨oa,cap,h,_⟩:=hB.sl
  rw[h];rfl
 |BY n p t x off=>obtain⟨_,b,o,cs,fp,rfl,_⟩:=h;rfl
theorem vr(g:Good ty zb st a.tmps w env): ∀{l:List V} {us:List Value},bt (RA w st.hp env) l us→(∀v,v∈l→v≠ .any)→ ∀u,u∈us→u.oneCell'=true
 |v::l,u::us,⟨h1,h2⟩,hn,x,hx=>by
  rcases List.mem_cons.1 hx with rfl|hx
  ·exact RA.one g h1 (hn v (by simp))
  ·exact vr g h2 (fun y hy=>hn y (by simp[hy])) x hx
 | [],_::_,h,_,_,_=>h.elim
theorem DK(g:Good ty zb st a.tmps w env){n:Nat}{c c':List V}(hl:look st.hp n=some (.box c)){b:Nat}{cs us:List Value}{e:TypeId}{off:Nat}(IK:env n=⟨.pointer (some ⟨b,0,none⟩),[b]⟩)(hh:w.heap[b]? =some (.cells (Array.mk cs) e (0,0)))
  (hlen:off+us.length≤cs.length)(hc:bt (RA w st.hp env) c' (cs.take off++(us++cs.drop (off+us.length)))):
  Good ty zb ⟨st.n,st.sl,(n, .box c')::st.hp⟩ a.tmps (w.setCells b off us) env:=by
 have hk: ∀x,x≠b→(w.setCells b off us).heap[x]? =w.heap[x]? :=fun x hx=>cH b us off w x hx
 have hlk: ∀m o,look ((n,Obj.box c')::st.hp) m=some o→(m=n∧o= .box c')∨(m≠n∧look st.hp m=some o):=by
  intro m o hm
  by_cases hmn:m=n
  ·subst hmn;rw[look_eq]at hm;simp only[Option.some.injEq]at hm;exact Or.inl ⟨rfl,hm.symm⟩
  ·rw[aU hmn]at hm;exact Or.inr ⟨hmn,hm⟩
 have how:Ow st.hp env b:=⟨n,_,hl,by rw[IK];simp⟩
 have s:Step (fun _=>True) (fun _=>True) w st.hp env (w.setCells b off us) ((n, .box c')::st.hp) env:=by
  refine⟨fun x _ hx=>hk x (fun e=>hx (e▸how)),?_,?_,?_⟩
  ·rintro x _ ⟨m,o,h1,h2⟩
   rcases hlk m o h1 with⟨rfl,rfl⟩| ⟨_,h1⟩
   ·exact⟨m,_,hl,h2⟩
   ·exact⟨m,o,h1,h2⟩
  ·intro m o _ h1
   by_cases hmn:m=n
   ·subst hmn
    rw[hl]at h1
    simp only[Option.some.injEq]at h1
    subst h1
    exact⟨_,look_eq,trivial,rfl⟩
   ·exact⟨o,by rw[aU hmn];exact h1,by cases o<;>simp[Obj.like],rfl⟩
  ·intro m t l _ h1
   have hmn:m≠n:=by rintro rfl;rw[hl]at h1;cases h1
   refine⟨by rw[aU hmn];exact h1,rfl,fun x hx=>hk x ?_⟩
   rintro rfl
   exact g.kW m n _ _ hmn h1 hl x hx (by rw[IK];simp)
 refine⟨fun m o hm=> ?_,fun m m' o o' hne h1 h2=> ?_,fun t v hv=>p8.step s (fun v _=>v.eY) (g.slot t v hv),fun m o hm b hb=> ?_,g.pins⟩
 ·rcases hlk m o hm with⟨rfl,rfl⟩| ⟨hmn,hm⟩
  ·refine⟨b,_,e,IK,?_,hc.mono fun v u _ h=>RA.step s v.eY h⟩
   rw[Dm hh,oJ us cs off hlen]
  ·have hro:=g.obj m o hm
   refine hro.step s (Obj.eY _) fun x hx=>hk x ?_
   rintro rfl
   exact g.kW m n o _ hmn hm hl x hx (by rw[IK];simp)
 ·rcases hlk m o h1 with⟨e1,e2⟩| ⟨_,k1⟩<;>rcases hlk m' o' h2 with⟨e3,e4⟩| ⟨_,k2⟩
  ·exact absurd (e1.trans e3.symm) hne
  ·exact g.kW m m' _ _ hne (e1▸hl) k2
  ·exact g.kW m m' _ _ hne k1 (e3▸hl)
  ·exact g.kW m m' _ _ hne k1 k2
 ·rcases hlk m o hm with⟨e1,_⟩| ⟨_,k1⟩
  ·subst e1;exact g.dom m _ hl b hb
  ·exact g.dom m o k1 b hb
theorem DL{b:Nat}(hb:b∈zb.L∨zb.w.heap.size≤b){c:Array Value}{e:TypeId}(hh:w.heap[b]? =some (.cells c e (0,0)))(off:Nat)(us:List Value):Kept zb w (w.setCells b off us):=by
 have h0:=Dc (B:=0) (w:=w) (Below.refl 0 w) (Nat.zero_le b) off us
 refine⟨h0.os,h0.tape,h0.output,h0.size,fun x hx hn=>cH b us off w x ?_,fun x c' e' hx=> ?_⟩
 ·rintro rfl
  rcases hb with h|h
  ·exact hn h
  ·omega
 ·by_cases XH:x=b
  ·subst XH
   rw[hh]at hx
   simp only[Option.some.injEq,Go.Obj.cells.injEq,and_true]at hx
   obtain⟨rfl,rfl⟩:=hx
   obtain⟨c2,h1,h2⟩:=eP x e us off w c hh
   exact⟨c2,h1,h2⟩
  ·exact⟨c',by rw[cH b us off w x XH];exact hx,rfl⟩
theorem rJ{t b off:Nat}{v:Value}{us:List Value}(hv:v.cells=us.toArray)(ht:w.there b off us.length)(hi:(P.info? t).map (·.size)=some us.length)(h1: ∀u,u∈us→u.oneCell'=true):
  (storeVar t ⟨b,off,none⟩ v).run P w= .ok () (w.setCells b off us):=by
 have:=run_storeVar_mid (P:=P) w b off t us.toArray (by simpa using ht) (by simpa using hi) (all_oneCell_toArray h1)
 unfold storeVar at this ⊢
 rw[hv]
 exact this
theorem Pn{Γ:Nat→TK}(C: ∀t,cA P t (Γ t))(Z: ∀t,(∀z tg fo,Γ t≠ .st z tg fo)→Γ t≠ .other→(P.info? t).map (·.size)=some 1)(h:Hl Γ st o.op=some st')(g:Good ty zb st a.tmps w env):
  o.wp P a w (fun a' w'=>a'=a.put o.dst undef∧Kept zb w w'∧Good ty zb st' a.tmps w' env∧st'.n=st.n∧st'.sl=st.sl) Q:=by
 have hop: ∀{x v},iO st [] x=some v→fP w st.hp env v (a.eval x):=fun hx=>fC g (fun e he=>by simp at he) hx
 have hor: ∀{x v},Lm st [] x=some v→fP w st.hp env v (a.eval x):=fun hx=>wU g (fun e he=>by simp at he) hx
 generalize gz:o.op=op at h
 cases op with
 |store t x y=>
  simp only[Hl]at h
  split at h
  ·rename_i n off v hx hy
   have hx:=hop hx
   have hy:=hor hy
   split at h
   ·rename_i c hl
    obtain⟨_,b,hb,hu⟩:=hx
    obtain⟨b',cs,e,IK,hh,hc⟩:=g.obj n _ hl
    have hM:=g.dom n _ hl b' (by rw[IK];simp)
    have YL:b=b':=by rw[IK]at hb;simpa using hb.symm
    subst YL
    have fin: ∀{us:List Value} {c':List V},(a.eval y).cells=us.toArray→(P.info? t).map (·.size)=some us.length→(∀u,u∈us→u.oneCell'=true)→off+us.length≤cs.length→bt (RA w st.hp env) c' (cs.take off++(us++cs.drop (off+us.length)))→st'=⟨st.n,st.sl,(n, .box c')::st.hp⟩→
      o.wp P a w (fun a' w'=>a'=a.put o.dst undef∧Kept zb w w'∧Good ty zb st' a.tmps w' env∧st'.n=st.n∧st'.sl=st.sl) Q:=by
     intro us c' h1 h2 h3 h4 h5 h6
     subst h6
     unfold Oper.wp execOp
     simp only[gz,hu,Instr.storeAt,Instr.sureAddr,Sem.run_bind,Sem.run_pure,Result.andThen_ok,rJ h1 (LH hh off us.length h4) h2 h3]
     exact⟨by trivial,DL hM hh off us,DK g hl IK hh h4 h5,by trivial,by trivial⟩
    split at h
    ·rename_i z tg fo l hk _
     split at h
     ·rename_i c' hlen hs
      simp only[Option.some.injEq]at h
      obtain⟨us,Vx,Lr⟩:=hy
      obtain⟨k1,k2⟩:=Hg hc Lr hs
      have hC:=C t
      rw[hk]at hC
      obtain⟨fs,_,hi,_⟩:=hC
      simp only[Bool.and_eq_true]at hlen
      have kZ:=Nat.eq_of_beq_eq_true hlen.1
      refine fin (us:=us) (by rw[Vx];rfl) ?_ ?_ k1 k2 h.symm
      ·rw[Lr.len,kZ]
       cases hq:P.info? t with
       |none=>simp[hq]at hi
       |some i=>simp[hq]at hi;simp[hi.1]
      ·exact vr g Lr (qc hlen.2)
     ·cases h
    ·cases h
    ·cases h
    ·cases h
    ·rename_i v k1 k2 k3 _
     split at h
     ·rename_i c' hs
      simp only[Option.some.injEq]at h
      obtain⟨q1,q2⟩:=Hg (vs:= [v]) (us:= [a.eval y]) hc ⟨hy,trivial⟩ hs
      have hne:v≠ .any:=fun e=>k1 e
      refine fin (us:= [a.eval y]) (jR g hy hne) (Z t (fun z tg fo hz=>k2 z tg fo hz) k3) ?_ q1 q2 h.symm
      intro u hu'
      rw[List.mem_singleton.1 hu']
      exact RA.one g hy hne
     ·cases h
    ·cases h
   ·cases h
  ·cases h
 |_=>simp[Hl]at h
end
end
section
variable{ty:Tag→Nat}
theorem yA{α:Type}{k:Nat}{E:ER α}(G:gd k E)(hk:0<k){w:World}{u:Value}{l:List α}{fp:List Nat}(h:Sl k E w u l fp):
  ∃(news:List Value) (fx:List (List Nat)),Src w u l.length news∧fx.length=l.length∧news.length=l.length*k∧(∀i x f,l[i]? =some x→fx[i]? =some f→E w ((news.drop (i*k)).take k) x f)∧fx.flatten.Sublist fp:=by
 obtain⟨news,fx,h1,h2,h3,h4,h5,_⟩:=yx G hk h
 exact⟨news,fx,h1,h2,h3,h4,h5⟩
theorem RO.jl{ks kv:List Nat}{w w':World}{hp iZ:Hp}{env env':Env}(s:sS ks kv w hp env w' iZ env'){n:Nat}{o:Obj}{co:CO}
  (hk: ∀b,b∈co.fp→w'.heap[b]? =w.heap[b]?)(h:RO ty w hp env n o co):RO ty w' iZ env' n (o.bE ks kv) co:=by
 cases o with
 |box c=>
  obtain⟨b,cs,e,rfl,hh,hc⟩:=h
  exact⟨b,cs,e,rfl,by rw[hk b (by simp)];exact hh,hc.map fun a u hr=>RA.jl s hr⟩
 |arr t l=>exact RO.bu h hk
 |lZ t l r=>
  obtain⟨h1,us,hB,h2,h3⟩:=h
  exact⟨h1,us,jE.bu yt hB hk,h2,fun i x u hx hu=>BE.jl s (h3 i x u hx hu)⟩
def St.gone(st:St)(ks:List Nat)(d:Nat)(t:Tag)(l:List (T t)):St:=
 match ks with
 | []=>⟨st.n,st.sl,(d, .arr t l)::st.hp⟩
 |ks=>⟨st.n,st.sl.map fun e=>(e.1,e.2.bE ks []),(d, .arr t l)::cE ks [] st.hp⟩
theorem V.iP(v:V):v.bE [] []=v:=by
 unfold V.bE;split<;>simp
theorem S1.iP(x:S1):x.bE [] []=x:=by
 cases x with
 |a v=>simp[S1.bE,V.iP]
 |agg l=>simp only[S1.bE,S1.agg.injEq];rw[List.map_congr_left (g:=id) fun v _=>V.iP v,List.map_id]
theorem SV.iP(x:SV):x.bE [] []=x:=by
 cases x with
 |one x=>simp[SV.bE,S1.iP]
 |tK l=>simp only[SV.bE,SV.tK.injEq];rw[List.map_congr_left (g:=id) fun v _=>S1.iP v,List.map_id]
 |cond p x=>simp[SV.bE,S1.iP]
theorem LQ(hp:Hp):cE [] [] hp=hp:=by
 unfold cE
 rw[List.filter_eq_self.2 (by simp),List.map_congr_left (g:=id),List.map_id]
 rintro⟨n,o⟩ _
 cases o with
 |box c=>simp only[Obj.bE,id];rw[List.map_congr_left (g:=id) fun v _=>V.iP v,List.map_id]
 |arr t l=>rfl
 |lZ t l s=>cases s<;>rfl
theorem St.gone_eq(st:St)(ks:List Nat)(d:Nat)(t:Tag)(l:List (T t)):st.gone ks d t l=⟨st.n,st.sl.map fun e=>(e.1,e.2.bE ks []),(d, .arr t l)::cE ks [] st.hp⟩:=by
 unfold St.gone
 split
 ·rw[LQ,List.map_congr_left (g:=id),List.map_id]
  rintro⟨n,x⟩ _
  simp[SV.iP]
 ·rfl
section
variable{P:Program}{zb:bY}{st st':St}{a:Act}{w:World}{env:Env}{Q:Exit→Act→World→Prop}{o:Oper}
theorem rK{ks:List Nat}(h:pinned ks=false){n:Nat}(hn:n∈ks):soft n=false:=by
 unfold pinned at h
 rw[List.any_eq_false]at h
 simpa using h n hn
theorem At(g:Good ty zb st a.tmps w env)(hB:zb.w.heap.size≤w.heap.size){ks:List Nat}(hpk:pinned ks=false){d:Nat}(YO:jk d=false)(hd:look (cE ks [] st.hp) d=none){v v':Value}{w':World}{ob:Obj}{fp fx gA:List Nat}
  (ig: ∀b,b∈fp++fx→ ∃i o,i∈ks∧look st.hp i=some o∧b∈(env i).fp)(Fk: ∀b,v.ownBlock=some b→b∈fp)
  (hRO: ∀env':Env,env' d=⟨v',gA⟩→sS ks [] w st.hp env w' ((d,ob)::cE ks [] st.hp) env'→RO ty w' ((d,ob)::cE ks [] st.hp) env' d ob ⟨v',gA⟩)(hg:w.grownBy w' v.ownBlock)(hsub: ∀b,b∈gA→b∈fp∨b∈fx∨b=w.heap.size):
  ∃env',Good ty zb ⟨st.n,st.sl.map fun e=>(e.1,e.2.bE ks []),(d,ob)::cE ks [] st.hp⟩ a.tmps w' env'∧(env' d).v=v'∧(∀n,n≠d→env' n=env n)∧(env' d).fp=gA:=by
 refine⟨fun n=>if n=d then⟨v',gA⟩else env n,?_,by simp,fun n hn=>by simp[hn],by simp⟩
 have hlk: ∀m o,look ((d,ob)::cE ks [] st.hp) m=some o→(m=d∧o=ob)∨(m≠d∧m∉ks∧ ∃o',look st.hp m=some o'∧o=o'.bE ks []):=by
  intro m o hm
  by_cases mJ:m=d
  ·subst mJ;rw[look_eq]at hm;simp only[Option.some.injEq]at hm;exact Or.inl ⟨rfl,hm.symm⟩
  ·rw[aU mJ,bT]at hm
   split at hm
   ·cases hm
   ·rename_i hks
    cases hq:look st.hp m with
    |none=>rw[hq]at hm;cases hm
    |some o'=>rw[hq]at hm;simp only[Option.map_some,Option.some.injEq]at hm;exact Or.inr ⟨mJ,hks,o',rfl,hm.symm⟩
 have how: ∀b,b∈gA→b<w.heap.size→ ∃i o,i∈ks∧look st.hp i=some o∧b∈(env i).fp:=by
  intro b hb hlt
  rcases hsub b hb with h|h|h
  ·exact ig b (List.mem_append_left _ h)
  ·exact ig b (List.mem_append_right _ h)
  ·omega
 have hnd: ∀m o,m∉ks→look st.hp m=some o→m≠d:=by
  rintro m o hks h1 rfl
  rw[bT,if_neg hks,h1]at hd
  cases hd
 have hst: ∀m o,m∉ks→look st.hp m=some o→ ∀b,b∈(env m).fp→w'.heap[b]? =w.heap[b]? :=by
  intro m o hks h3 b hb
  refine hg.block b ((g.obj m o h3).wQ b hb) fun e=> ?_
  obtain⟨i,oi,hi,h5,h6⟩:=ig b (List.mem_append_left _ (Fk b e.symm))
  exact g.kW m i _ _ (fun e=>hks (e▸hi)) h3 h5 b hb h6
 have s:sS ks [] w st.hp env w' ((d,ob)::cE ks [] st.hp) (fun n=>if n=d then⟨v',gA⟩else env n):=by
  refine⟨fun b hb hno=>hg.block b hb fun e=> ?_,?_,?_,?_⟩
  ·obtain⟨i,o',_,h1,h2⟩:=ig b (List.mem_append_left _ (Fk b e.symm))
   exact hno ⟨i,o',h1,h2⟩
  ·rintro b hb ⟨m,o',h1,h2⟩
   rcases hlk m o' h1 with⟨rfl,_⟩| ⟨mJ,hks,B6,h3,rfl⟩
   ·simp at h2
    obtain⟨i,o',_,h3,h4⟩:=how b h2 hb
    exact⟨i,o',h3,h4⟩
   ·simp[mJ]at h2
    exact⟨m,B6,h3,h2⟩
  ·intro m o' hks h1
   have mJ:=hnd m o' hks h1
   refine⟨o'.bE ks [],by rw[aU mJ,bT,if_neg hks,h1];rfl,by cases o'<;>simp[Obj.like,Obj.bE],by simp[mJ]⟩
  ·rintro m t' l' ⟨hks,_⟩ h1
   have mJ:=hnd m _ hks h1
   exact⟨by rw[aU mJ,bT,if_neg hks,h1];rfl,by simp[mJ],hst m _ hks h1⟩
 refine g.jl s (fun m o' hm=> ?_) (fun m m' o1 o2 hne h1 h2 b hb hb'=> ?_) (fun m o' hm b hb=> ?_) (fun m hm=> ?_)
 ·rcases hlk m o' hm with⟨e1,e2⟩| ⟨mJ,hks,B6,h3,rfl⟩
  ·rw[e1,e2]
   simp only[if_true]
   exact hRO _ (by simp) s
  ·simp only[if_neg mJ]
   have hro:=g.obj m B6 h3
   exact hro.jl s (hst m B6 hks h3)
 ·rcases hlk m o1 h1 with⟨e1,_⟩| ⟨mJ,hks,q1,h3,_⟩<;>rcases hlk m' o2 h2 with⟨e2,_⟩| ⟨Ho,Rs,q2,h4,_⟩
  ·exact hne (e1.trans e2.symm)
  ·simp only[if_pos e1]at hb
   simp only[if_neg Ho]at hb'
   have hlt:=(g.obj m' q2 h4).wQ b hb'
   obtain⟨i,oi,hi,h5,h6⟩:=how b hb hlt
   exact g.kW m' i _ _ (fun e=>Rs (e▸hi)) h4 h5 b hb' h6
  ·simp only[if_pos e2]at hb'
   simp only[if_neg mJ]at hb
   have hlt:=(g.obj m q1 h3).wQ b hb
   obtain⟨i,oi,hi,h5,h6⟩:=how b hb' hlt
   exact g.kW m i _ _ (fun e=>hks (e▸hi)) h3 h5 b hb h6
  ·simp only[if_neg mJ]at hb
   simp only[if_neg Ho]at hb'
   exact g.kW m m' _ _ hne h3 h4 b hb hb'
 ·rcases hlk m o' hm with⟨e1,_⟩| ⟨mJ,hks,q1,h3,_⟩
  ·simp only[if_pos e1]at hb
   by_cases hlt:b<w.heap.size
   ·obtain⟨i,oi,hi,h5,h6⟩:=how b hb hlt
    exact g.dom i oi h5 b h6
   ·exact Or.inr (by omega)
  ·simp only[if_neg mJ]at hb
   exact g.dom m q1 h3 b hb
 ·have:m≠d:=by rintro rfl;rw[YO]at hm;cases hm
  simp only[if_neg this]
  exact g.pins m hm
theorem F7(g:Good ty zb st a.tmps w env)(hB:zb.w.heap.size≤w.heap.size){ks:List Nat}(hpk:pinned ks=false){d:Nat}(YO:jk d=false)(hd:look (cE ks [] st.hp) d=none){v v':Value}{w':World}{t:Tag}{l:List (T t)}{fp fx gA:List Nat}
  (ig: ∀b,b∈fp++fx→ ∃i o,i∈ks∧look st.hp i=some o∧b∈(env i).fp)(Fk: ∀b,v.ownBlock=some b→b∈fp)
  (hB':jE (kk t) (rd t) 0 (ty t) w' v' l gA)(hg:w.grownBy w' v.ownBlock)(hsub: ∀b,b∈gA→b∈fp∨b∈fx∨b=w.heap.size):
  ∃env',Good ty zb ⟨st.n,st.sl.map fun e=>(e.1,e.2.bE ks []),(d, .arr t l)::cE ks [] st.hp⟩ a.tmps w' env'∧(env' d).v=v'∧(∀n,n≠d→env' n=env n)∧(env' d).fp=gA:=
 At g hB hpk YO hd ig Fk (fun _ _ _=>RO.FZ hB') hg hsub
theorem DM(g:Good ty zb st a.tmps w env)(hB:zb.w.heap.size≤w.heap.size){ks:List Nat}(hpk:pinned ks=false){d:Nat}(YO:jk d=false)(hd:look (cE ks [] st.hp) d=none){v v':Value}{w':World}{t:Tag}{l:List (T t)}{fp fx gA:List Nat}
  (ig: ∀b,b∈fp++fx→ ∃i o,i∈ks∧look st.hp i=some o∧b∈(env i).fp)(Fk: ∀b,v.ownBlock=some b→b∈fp)
  (hB':jE (kk t) (rd t) 0 (ty t) w' v' l gA)(hg:w.grownBy w' v.ownBlock)(hsub: ∀b,b∈gA→b∈fp∨b∈fx∨b=w.heap.size):
  ∃env',Good ty zb ⟨st.n,st.sl.map fun e=>(e.1,e.2.bE ks []),(d, .arr t l)::cE ks [] st.hp⟩ a.tmps w' env'∧(env' d).v=v':=by
 obtain⟨env',h1,h2,_⟩:=F7 g hB hpk YO hd ig Fk hB' hg hsub
 exact⟨env',h1,h2⟩
end
def Hq(st:St)(t:Tag):S1→Option (List (T t)×List Nat)
 | .a (.own n)=>match look st.hp n with
   |some (.arr t' l)=>match jj t t' l with|some l=>some (l,[n])|none=>none
   |_=>none
 | .a (.lit (.slice none 0 0))=>some ([],[])
 |_=>none
def LR(st:St)(t:Tag):S1→Option (List (T t)×List Nat)
 | .a (.own n)=>match look st.hp n with
   |some (.arr t' l)=>match jj t t' l with|some l=>some (l,match flat t with|true=> []|false=> [n])|none=>none
   |_=>none
 | .a (.sl t' l)=>match flat t,jj t t' l with
   |true,some l=>some (l,[])
   |false,some l=>match l with| []=>some ([],[])|_=>none
   |_,_=>none
 | .a (.vw n _ t' l)=>match jj t t' l with
   |some l=>some (l,match flat t with|true=> []|false=> [n])
   |none=>none
 | .a (.BZ n t' l)=>match jj t t' l with
   |some l=>some (l,[n])
   |none=>none
 | .a (.lit (.slice none 0 0))=>some ([],[])
 |_=>none
def mO{α:Type}:List α→List α→List α
 | [],l=>l
 | [x],l=>x::l
 |k,l=>k++l
theorem dU{α:Type}(k l:List α):mO k l=k++l:=by
 unfold mO;split<;>rfl
def Jc(k m:List Nat):Bool:=k.all fun x=> !m.any fun y=>Nat.beq x y
def LS(P:Program)(ty:Tag→Nat)(Γ:Nat→TK)(st:St)(m0:Nat):Op→Option (List Prop×St×SV)
 | .call ⟨.builtin .append,xs,ts⟩=>match xs.toList,ts.toList with
   | [s,x],[t1,t2]=>match Γ t1,Nat.beq t1 t2 with
     | .sl t e,true=>match Nat.beq e (ty t),iO st [] s,iO st [] x with
       |true,some vs,some vx=>match Hq st t vs,LR st t vx with
        |some (l,k),some (lx,m)=>match Jc k m&& !pinned (mO k m)&& !jk m0,look (cE (mO k m) [] st.hp) m0 with
         |true,none=>some ([El P ty t,(l.length+lx.length)*cT t≤140737488355328∧l.length+lx.length≤maxLen],
           st.gone (mO k m) m0 t (l++lx), .one (.a (.own m0)))
         |_,_=>none
        |_,_=>none
       |_,_,_=>none
     |_,_=>none
   |_,_=>none
 |_=>none
section
variable{P:Program}{zb:bY}{st:St}{a:Act}{w:World}{env:Env}{Q:Exit→Act→World→Prop}{o:Oper}
theorem F8(g:Good ty zb st a.tmps w env){t:Tag}{x:S1}{u:Value}{l:List (T t)}{k:List Nat}(hr:fP w st.hp env x u)(h:Hq st t x=some (l,k)):
  pinned k=false→ ∃fp,jE (kk t) (rd t) 0 (ty t) w u l fp∧(∀b,b∈fp→ ∃i o,i∈k∧look st.hp i=some o∧b∈(env i).fp)
  :=by
 intro hpk
 unfold Hq at h
 split at h
 ·rename_i n
  split at h
  ·rename_i t' l' hl
   split at h
   ·rename_i l2 hc
    simp only[Option.some.injEq,Prod.mk.injEq]at h
    obtain⟨rfl,rfl⟩:=h
    obtain⟨e,rfl⟩:=dK hc
    subst e
    obtain⟨_,rfl⟩:=hr
    exact⟨(env n).fp,RO.Nk (rK hpk (by simp)) (g.obj n _ hl),fun b hb=>⟨n,_,by simp,hl,hb⟩⟩
   ·cases h
  ·cases h
 ·simp only[Option.some.injEq,Prod.mk.injEq]at h
  obtain⟨rfl,rfl⟩:=h
  have hu:=(show fP w st.hp env (.a (.lit Dv)) u from hr).lit
  subst hu
  exact⟨[],jE.nil _ _ _ _ _,by simp⟩
 ·cases h
theorem DN{t:Tag}(hf:flat t=true){u:Value}{l:List (T t)}{fp:List Nat}(hs:Sl (kk t) (rd t) w u l fp):
  ∃(news:List Value) (fx:List (List Nat)),Src w u l.length news∧fx.length=l.length∧news.length=l.length*kk t∧(∀i x f,l[i]? =some x→fx[i]? =some f→rd t w ((news.drop (i*kk t)).take (kk t)) x f)∧fx.flatten= []:=by
 obtain⟨news,fx,h1,h2,h3,h4,h5⟩:=yA (eK t) (gQ t) hs
 refine⟨news,fx,h1,h2,h3,h4,?_⟩
 rw[List.flatten_eq_nil_iff]
 intro f hf'
 obtain⟨i,hi⟩:=List.getElem?_of_mem hf'
 have hil:i<l.length:=by have:=(List.getElem?_eq_some_iff.1 hi).1;omega
 exact Vf t hf (h4 i _ f (List.getElem?_eq_getElem hil) hi)
theorem Po(g:Good ty zb st a.tmps w env){t:Tag}{x:S1}{u:Value}{l:List (T t)}{k:List Nat}(hr:fP w st.hp env x u)(h:LR st t x=some (l,k)):
  ∃(news:List Value) (fx:List (List Nat)),Src w u l.length news∧fx.length=l.length∧news.length=l.length*kk t∧(∀i x f,l[i]? =some x→fx[i]? =some f→rd t w ((news.drop (i*kk t)).take (kk t)) x f)∧
   (∀b,b∈fx.flatten→ ∃i o,i∈k∧look st.hp i=some o∧b∈(env i).fp)∧Own 0 w fx.flatten:=by
 unfold LR at h
 split at h
 ·rename_i n
  split at h
  ·rename_i t' l' hl
   split at h
   ·rename_i l2 hc
    simp only[Option.some.injEq,Prod.mk.injEq]at h
    obtain⟨rfl,hk⟩:=h
    obtain⟨e,rfl⟩:=dK hc
    subst e
    obtain⟨_,rfl⟩:=hr
    have hb:=RO.sl (g.obj n _ hl)
    split at hk
    ·rename_i hf
     subst hk
     obtain⟨news,fx,h1,h2,h3,h4,h5⟩:=DN hf hb
     exact⟨news,fx,h1,h2,h3,h4,by simp[h5],by rw[h5];exact Own.nil _ _⟩
    ·subst hk
     obtain⟨news,fx,h1,h2,h3,h4,h5⟩:=yA (eK t') (gQ t') hb
     have ho:=RO.own (g.obj n _ hl)
     exact⟨news,fx,h1,h2,h3,h4,fun b hb=>⟨n,_,by simp,hl,h5.subset hb⟩,⟨h5.nodup ho.nodup,fun b hb=>ho.ge b (h5.subset hb),fun b hb=>ho.kind b (h5.subset hb)⟩⟩
   ·cases h
  ·cases h
 ·rename_i t' l'
  split at h
  ·rename_i l2 hf hc
   simp only[Option.some.injEq,Prod.mk.injEq]at h
   obtain⟨rfl,rfl⟩:=h
   obtain⟨e,rfl⟩:=dK hc
   subst e
   obtain⟨fp,hs,_⟩:=hr
   obtain⟨news,fx,h1,h2,h3,h4,h5⟩:=DN hf hs
   exact⟨news,fx,h1,h2,h3,h4,by simp[h5],by rw[h5];exact Own.nil _ _⟩
  ·rename_i l2 hf hc
   split at h
   ·simp only[Option.some.injEq,Prod.mk.injEq]at h
    obtain⟨rfl,rfl⟩:=h
    obtain⟨e,he⟩:=dK hc
    subst e
    obtain rfl:l'= []:=he.symm
    obtain⟨fp,hs,_⟩:=hr
    obtain⟨news,fx,h1,h2,h3,h4,h5⟩:=yA (eK t') (gQ t') hs
    have Lj:fx= []:=List.eq_nil_of_length_eq_zero h2
    subst Lj
    exact⟨news,[],h1,rfl,h3,by simp,by simp,Own.nil _ _⟩
   ·cases h
  ·cases h
 ·rename_i n _ t' l'
  split at h
  ·rename_i l2 hc
   simp only[Option.some.injEq,Prod.mk.injEq]at h
   obtain⟨rfl,hk⟩:=h
   obtain⟨e,rfl⟩:=dK hc
   subst e
   obtain⟨⟨tA,lA,hl⟩,⟨fp,hs,hnd,hsub⟩,_⟩:=hr
   split at hk
   ·rename_i hf
    subst hk
    obtain⟨news,fx,h1,h2,h3,h4,h5⟩:=DN hf hs
    exact⟨news,fx,h1,h2,h3,h4,by simp[h5],by rw[h5];exact Own.nil _ _⟩
   ·subst hk
    obtain⟨news,fx,h1,h2,h3,h4,h5⟩:=yA (eK t') (gQ t') hs
    have ho:=RO.own (g.obj n _ hl)
    exact⟨news,fx,h1,h2,h3,h4,fun b hb=>⟨n,_,by simp,hl,hsub b (h5.subset hb)⟩,⟨h5.nodup hnd,fun b _=>Nat.zero_le _,fun b hb=>ho.kind b (hsub b (h5.subset hb))⟩⟩
  ·cases h
 ·rename_i n t' l'
  split at h
  ·rename_i l2 hc
   simp only[Option.some.injEq,Prod.mk.injEq]at h
   obtain⟨rfl,rfl⟩:=h
   obtain⟨e,rfl⟩:=dK hc
   subst e
   obtain⟨⟨tA,lA,hl⟩,b,fp,hs,hb,hnd,hsub⟩:=hr
   obtain⟨news,fx,h1,h2,h3,h4,_,h5⟩:=yx (eK t') (gQ t') hs
   have h5:=h5 b fp rfl
   have ho:=RO.own (g.obj n _ hl)
   exact⟨news,fx,h1,h2,h3,h4,fun c hc=>⟨n,_,by simp,hl,hsub c (by rw[←h5];exact hc)⟩,⟨by rw[h5];exact hnd,fun c _=>Nat.zero_le _,fun c hc=>ho.kind c (hsub c (by rw[←h5];exact hc))⟩⟩
  ·cases h
 ·simp only[Option.some.injEq,Prod.mk.injEq]at h
  obtain⟨rfl,rfl⟩:=h
  have hu:=(show fP w st.hp env (.a (.lit Dv)) u from hr).lit
  subst hu
  exact⟨[],[],Or.inl ⟨rfl,rfl,rfl⟩,rfl,by simp,by simp,by simp,Own.nil _ _⟩
 ·cases h
theorem VA{Γ:Nat→TK}(C: ∀t,cA P t (Γ t)){m0:Nat}{vc:List Prop}{st':St}{v:SV}(h:LS P ty Γ st m0 o.op=some (vc,st',v))(g:Good ty zb st a.tmps w env)(hB:zb.w.heap.size≤w.heap.size)(hv: ∀q,q∈vc→q):
  o.wp P a w (fun a' w'=> ∃u env',a'=a.put o.dst u∧Kept zb w w'∧Good ty zb st' a.tmps w' env'∧st'.n=st.n∧p8 w' st'.hp env' a.tmps v u) Q:=by
 have hop: ∀{x v},iO st [] x=some v→fP w st.hp env v (a.eval x):=fun hx=>fC g (fun e he=>by simp at he) hx
 generalize gz:o.op=op at h
 cases op with
 |call c=>
  obtain⟨callee,xs,ts⟩:=c
  cases callee with
  |builtin b=>
   cases b with
   |append=>
    simp only[LS]at h
    split at h
    ·rename_i s x t1 t2 hxl htl
     obtain rfl:xs= #[s,x]:=by cases xs;simp_all
     obtain rfl:ts= #[t1,t2]:=by cases ts;simp_all
     split at h
     ·rename_i t e hk LU
      have LU:=Nat.eq_of_beq_eq_true LU
      subst LU
      split at h
      ·rename_i vs vx he hs hx
       have he:=Nat.eq_of_beq_eq_true he
       split at h
       ·rename_i l k lx m hds hsr
        split at h
        ·rename_i hno hlk
         simp only[Bool.and_eq_true,Bool.not_eq_true']at hno
         obtain⟨⟨hno,hpk⟩,Jb⟩:=hno
         rw[dU]at hpk
         have adE:pinned k=false:=by
          unfold pinned at hpk ⊢
          rw[List.any_append,Bool.or_eq_false_iff]at hpk
          exact hpk.1
         simp only[Option.some.injEq,Prod.mk.injEq,dU]at h
         rw[dU]at hlk
         obtain⟨rfl,h2,rfl⟩:=h
         rw[St.gone_eq]at h2
         subst h2
         have sH:El P ty t:=hv _ (by simp)
         obtain⟨aB,aM⟩:(l.length+lx.length)*cT t≤140737488355328∧l.length+lx.length≤maxLen:=hv _ (by simp)
         obtain⟨fp,hD,mK⟩:=F8 g (hop hs) hds adE
         obtain⟨news,fx,n1,n2,n3,n4,n5,n6⟩:=Po g (hop hx) hsr
         have hC:=C t1
         rw[hk]at hC
         have Va:Own 0 w (fp++fx.flatten):=by
          have ho:=hD.own
          refine⟨List.nodup_append.2 ⟨ho.nodup,n6.nodup,?_⟩,fun b hb=> ?_,fun b hb=> ?_⟩
          ·rintro b hb c hc rfl
           obtain⟨i,oi,hi,h1,h2⟩:=mK b hb
           obtain⟨j,oj,hj,h3,h4⟩:=n5 b hc
           have hij:i≠j:=by
            rintro rfl
            simp only[Jc,List.all_eq_true,Bool.not_eq_true',List.any_eq_false]at hno
            exact hno i hi i hj (by simp)
           exact g.kW i j _ _ hij h1 h3 b h2 h4
          ·rcases List.mem_append.1 hb with hb|hb
           ·exact ho.ge b hb
           ·exact n6.ge b hb
          ·rcases List.mem_append.1 hb with hb|hb
           ·exact ho.kind b hb
           ·exact n6.kind b hb
         refine GY s x t1 gz (eK t) (gQ t) 0 (ty t) (eZ t) (cT t) (by rw[←he];exact hC.1) sH (nK t) _ l fp rfl hD _ rfl lx news fx n1 n2 n3 n4 Va aM aB (Nat.zero_le _) ?_
         intro v' w' gA k1 k2 k3 k4 k5 _
         obtain⟨env',hg',Lt⟩:=DM (ty:=ty) g hB (ks:=k++m) hpk Jb hlk (v:=a.eval s) (fp:=fp) (fx:=fx.flatten)
          (by
           intro b hb
           rcases List.mem_append.1 hb with hb|hb
           ·obtain⟨i,oi,hi,h1⟩:=mK b hb;exact⟨i,oi,List.mem_append_left _ hi,h1⟩
           ·obtain⟨i,oi,hi,h1⟩:=n5 b hb;exact⟨i,oi,List.mem_append_right _ hi,h1⟩)
          (by
           intro b hb
           obtain⟨xs,bh,_,_,_,ig,_⟩:=hD
           rw[ig,hb];simp)
          k1 k2 k4
         refine⟨v',env',rfl,⟨k2.os,k2.tape,k2.output,k2.size,fun b hb hn=>k2.block b (by omega) fun e=> ?_,k5⟩,hg',rfl,⟨t,_,look_eq⟩,Lt.symm⟩
         have Pp:b∈fp:=by
          obtain⟨xs,bh,_,_,_,ig,_⟩:=hD
          rw[ig, ←e];simp
         obtain⟨i,oi,hi,h1,h2⟩:=mK b Pp
         rcases g.dom i oi h1 b h2 with h|h
         ·exact hn h
         ·omega
        ·cases h
       ·cases h
      ·cases h
     ·cases h
    ·cases h
   |_=>simp[LS]at h
  |_=>simp[LS]at h
 |_=>simp[LS]at h
end
end
section
variable{ty:Tag→Nat}
def takes(st:St):List V→Option (List V×List Nat)
 | []=>some ([],[])
 | .lit v::r=>match takes st r with|some (c,k)=>some (.lit v::c,k)|none=>none
 | .own n::r=>match look st.hp n,takes st r with
   |some (.arr t l),some (c,k)=>some (.sl t l::c,n::k)
   |_,_=>none
 |_=>none
def DO(st:St)(g:Tag):Nat→List (Nat×Operand)→Option (List Prop×List (T g)×List Nat)
 |_,[]=>some ([],[],[])
 |i,(j,x)::r=>match Nat.beq i j,iO st [] x with
  |true,some s=>match takes st (cellsOf s)with
   |some (c,k)=>match enc g c,DO st g (i+1) r with
    |some (vc,y),some (vcs,ys,ks)=>some (vc++vcs,y::ys,k++ks)
    |_,_=>none
   |none=>none
  |_,_=>none
def jH(st:St):List V→Option (List V×List Nat)
 | []=>some ([],[])
 | .lit v::r=>match jH st r with|some (c,k)=>some (.lit v::c,k)|none=>none
 | .own n::r=>match look st.hp n,jH st r with
   |some (.arr t l),some (c,k)=>some (.sl t l::c,n::k)
   |_,_=>none
 | .vw n _ t l::r=>match look st.hp n,jH st r with
   |some (.arr _ _),some (c,k)=>some (.sl t l::c,n::k)
   |_,_=>none
 |_=>none
def yB(st:St)(g:Tag):Nat→List (Nat×Operand)→Option (List Prop×List (T g)×List Nat)
 |_,[]=>some ([],[],[])
 |i,(j,x)::r=>match Nat.beq i j,iO st [] x with
  |true,some s=>match jH st (cellsOf s)with
   |some (c,k)=>match enc g c,yB st g (i+1) r with
    |some (vc,y),some (vcs,ys,ks)=>some (vc++vcs,y::ys,k++ks)
    |_,_=>none
   |none=>none
  |_,_=>none
def pP:List Nat→Bool
 | []=>true
 |n::r=> !(r.any fun m=>Nat.beq n m)&&pP r
def DP(P:Program)(ty:Tag→Nat)(Γ:Nat→TK)(st:St)(m0:Nat):Op→Option (List Prop×St×SV)
 | .buildSlice t len parts=>match Γ t with
   | .sl g e=>match Nat.beq e (ty g),Nat.beq parts.toList.length len,Nat.ble (len*kk g) 16777216,yB st g 0 parts.toList with
     |true,true,true,some (vc,xs,ks)=>match pP ks&& !pinned ks&& !jk m0,look (cE ks [] st.hp) m0 with
      |true,none=>some (El P ty g::vc,st.gone ks m0 g xs, .one (.a (.own m0)))
      |_,_=>none
     |_,_,_,_=>none
   |_=>none
 |_=>none
theorem jS: ∀{l:List Nat},pP l=true→l.Nodup
 | [],_=>List.nodup_nil
 |n::r,h=>by
  simp only[pP,Bool.and_eq_true,Bool.not_eq_true',List.any_eq_false]at h
  exact List.nodup_cons.2 ⟨fun hm=>h.1 n hm (by simp),jS h.2⟩
section
variable{P:Program}{zb:bY}{st:St}{a:Act}{w:World}{env:Env}{Q:Exit→Act→World→Prop}{o:Oper}
theorem yC(g:Good ty zb st a.tmps w env): ∀{l c:List V} {k:List Nat} {us:List Value},bt (RA w st.hp env) l us→takes st l=some (c,k)→k.Nodup→
  ∃fp,bW w c us fp∧Own 0 w fp∧ ∀b,b∈fp→ ∃i o,i∈k∧look st.hp i=some o∧b∈(env i).fp
 | [],c,k,us,hr,h,_=>by
   simp only[takes,Option.some.injEq,Prod.mk.injEq]at h
   obtain⟨rfl,rfl⟩:=h
   cases us with
   |nil=>exact⟨[],rfl,Own.nil _ _,by simp⟩
   |cons _ _=>exact hr.elim
 |v::r,c,k,us,hr,h,hnd=>by
  cases us with
  |nil=>exact hr.elim
  |cons u us=>
   cases v with
   |lit x=>
    simp only[takes]at h
    split at h
    ·rename_i c' k' h'
     simp only[Option.some.injEq,Prod.mk.injEq]at h
     obtain⟨rfl,rfl⟩:=h
     obtain⟨fp,h1,h2,h3⟩:=yC g hr.2 h' hnd
     obtain⟨e1,e2⟩:=hr.1
     exact⟨fp,⟨[],fp,⟨e1,e2,rfl⟩,h1,rfl⟩,h2,h3⟩
    ·cases h
   |own n=>
    simp only[takes]at h
    split at h
    ·rename_i t l c' k' hl h'
     simp only[Option.some.injEq,Prod.mk.injEq]at h
     obtain⟨rfl,rfl⟩:=h
     obtain⟨hn1,hn2⟩:=List.nodup_cons.1 hnd
     obtain⟨fp,h1,h2,h3⟩:=yC g hr.2 h' hn2
     obtain⟨_,rfl⟩:=hr.1
     have hb:=RO.sl (g.obj n _ hl)
     have ho:=RO.own (g.obj n _ hl)
     refine⟨(env n).fp++fp,⟨_,_,hb,h1,rfl⟩,⟨List.nodup_append.2 ⟨ho.nodup,h2.nodup,?_⟩,fun b hb=> ?_,fun b hb=> ?_⟩,fun b hb=> ?_⟩
     ·rintro b hb x hx rfl
      obtain⟨i,o,hi,h4,h5⟩:=h3 b hx
      exact g.kW n i _ _ (fun e=>hn1 (e▸hi)) hl h4 b hb h5
     ·rcases List.mem_append.1 hb with hb|hb
      ·exact ho.ge b hb
      ·exact h2.ge b hb
     ·rcases List.mem_append.1 hb with hb|hb
      ·exact ho.kind b hb
      ·exact h2.kind b hb
     ·rcases List.mem_append.1 hb with hb|hb
      ·exact⟨n,_,by simp,hl,hb⟩
      ·obtain⟨i,o,hi,h4,h5⟩:=h3 b hb
       exact⟨i,o,List.mem_cons_of_mem _ hi,h4,h5⟩
    ·cases h
   |_=>simp[takes]at h
theorem jI(g:Good ty zb st a.tmps w env){s:S1}{u:Value}(hr:fP w st.hp env s u)(hn:tM (cellsOf s)=true):bt (RA w st.hp env) (cellsOf s) u.cells.toList:=by
 cases s with
 |a v=>
  have:=jR g (show RA w st.hp env v u from hr) (qc hn v (by simp[cellsOf]))
  rw[this]
  exact⟨hr,trivial⟩
 |agg l=>
  obtain⟨cs,rfl,hl⟩:=hr
  exact hl
theorem fF{st:St}: ∀{l c:List V} {k:List Nat},takes st l=some (c,k)→tM l=true
 | [],_,_,_=>rfl
 |v::r,c,k,h=>by
  cases v with
  |lit x=>
   simp only[takes]at h
   split at h
   ·rename_i h';exact fF (l:=r) h'
   ·cases h
  |own n=>
   simp only[takes]at h
   split at h
   ·rename_i h';exact fF (l:=r) h'
   ·cases h
  |_=>simp[takes]at h
theorem vu(g:Good ty zb st a.tmps w env): ∀{l c:List V} {k:List Nat} {us:List Value},bt (RA w st.hp env) l us→jH st l=some (c,k)→k.Nodup→
  ∃fp,bW w c us fp∧Own 0 w fp∧ ∀b,b∈fp→ ∃i o,i∈k∧look st.hp i=some o∧b∈(env i).fp
 | [],c,k,us,hr,h,_=>by
   simp only[jH,Option.some.injEq,Prod.mk.injEq]at h
   obtain⟨rfl,rfl⟩:=h
   cases us with
   |nil=>exact⟨[],rfl,Own.nil _ _,by simp⟩
   |cons _ _=>exact hr.elim
 |v::r,c,k,us,hr,h,hnd=>by
  cases us with
  |nil=>exact hr.elim
  |cons u us=>
   cases v with
   |lit x=>
    simp only[jH]at h
    split at h
    ·rename_i c' k' h'
     simp only[Option.some.injEq,Prod.mk.injEq]at h
     obtain⟨rfl,rfl⟩:=h
     obtain⟨fp,h1,h2,h3⟩:=vu g hr.2 h' hnd
     obtain⟨e1,e2⟩:=hr.1
     exact⟨fp,⟨[],fp,⟨e1,e2,rfl⟩,h1,rfl⟩,h2,h3⟩
    ·cases h
   |own n=>
    simp only[jH]at h
    split at h
    ·rename_i t l c' k' hl h'
     simp only[Option.some.injEq,Prod.mk.injEq]at h
     obtain⟨rfl,rfl⟩:=h
     obtain⟨hn1,hn2⟩:=List.nodup_cons.1 hnd
     obtain⟨fp,h1,h2,h3⟩:=vu g hr.2 h' hn2
     obtain⟨_,rfl⟩:=hr.1
     have hb:=RO.sl (g.obj n _ hl)
     have ho:=RO.own (g.obj n _ hl)
     refine⟨(env n).fp++fp,⟨_,_,hb,h1,rfl⟩,⟨List.nodup_append.2 ⟨ho.nodup,h2.nodup,?_⟩,fun b hb=> ?_,fun b hb=> ?_⟩,fun b hb=> ?_⟩
     ·rintro b hb x hx rfl
      obtain⟨i,o,hi,h4,h5⟩:=h3 b hx
      exact g.kW n i _ _ (fun e=>hn1 (e▸hi)) hl h4 b hb h5
     ·rcases List.mem_append.1 hb with hb|hb
      ·exact ho.ge b hb
      ·exact h2.ge b hb
     ·rcases List.mem_append.1 hb with hb|hb
      ·exact ho.kind b hb
      ·exact h2.kind b hb
     ·rcases List.mem_append.1 hb with hb|hb
      ·exact⟨n,_,by simp,hl,hb⟩
      ·obtain⟨i,o,hi,h4,h5⟩:=h3 b hb
       exact⟨i,o,List.mem_cons_of_mem _ hi,h4,h5⟩
    ·cases h
   |vw n p t l=>
    simp only[jH]at h
    split at h
    ·rename_i t0 l0 c' k' hl h'
     simp only[Option.some.injEq,Prod.mk.injEq]at h
     obtain⟨rfl,rfl⟩:=h
     obtain⟨hn1,hn2⟩:=List.nodup_cons.1 hnd
     obtain⟨fp,h1,h2,h3⟩:=vu g hr.2 h' hn2
     obtain⟨_,⟨fv,hs,hnv,hsub⟩,_⟩:=hr.1
     have ho:=RO.own (g.obj n _ hl)
     refine⟨fv++fp,⟨_,_,hs,h1,rfl⟩,⟨List.nodup_append.2 ⟨hnv,h2.nodup,?_⟩,fun b hb=> ?_,fun b hb=> ?_⟩,fun b hb=> ?_⟩
     ·rintro b hb x hx rfl
      obtain⟨i,o,hi,h4,h5⟩:=h3 b hx
      exact g.kW n i _ _ (fun e=>hn1 (e▸hi)) hl h4 b (hsub b hb) h5
     ·rcases List.mem_append.1 hb with hb|hb
      ·exact ho.ge b (hsub b hb)
      ·exact h2.ge b hb
     ·rcases List.mem_append.1 hb with hb|hb
      ·exact ho.kind b (hsub b hb)
      ·exact h2.kind b hb
     ·rcases List.mem_append.1 hb with hb|hb
      ·exact⟨n,_,by simp,hl,hsub b hb⟩
      ·obtain⟨i,o,hi,h4,h5⟩:=h3 b hb
       exact⟨i,o,List.mem_cons_of_mem _ hi,h4,h5⟩
    ·cases h
   |_=>simp[jH]at h
theorem ni{st:St}: ∀{l c:List V} {k:List Nat},jH st l=some (c,k)→tM l=true
 | [],_,_,_=>rfl
 |v::r,c,k,h=>by
  cases v with
  |lit x=>
   simp only[jH]at h
   split at h
   ·rename_i h';exact ni (l:=r) h'
   ·cases h
  |own n=>
   simp only[jH]at h
   split at h
   ·rename_i h';exact ni (l:=r) h'
   ·cases h
  |vw n p t l=>
   simp only[jH]at h
   split at h
   ·rename_i h';exact ni (l:=r) h'
   ·cases h
  |_=>simp[jH]at h
theorem DQ(g:Good ty zb st a.tmps w env){t:Tag}: ∀{ps:List (Nat×Operand)} {i:Nat} {vc:List Prop} {xs:List (T t)} {ks:List Nat},yB st t i ps=some (vc,xs,ks)→ks.Nodup→(∀q,q∈vc→q)→
  (ps.map fun p=>(p.1,a.eval p.2))=vS i (ps.map fun p=>a.eval p.2)∧xs.length=ps.length∧ ∃bh:List (List Nat),bh.length=xs.length∧
   (∀(i:Nat) (x:T t) (f:List Nat),xs[i]? =some x→bh[i]? =some f→ ∃p:Nat×Operand,ps[i]? =some p∧rd t w (a.eval p.2).cells.toList x f)∧Own 0 w bh.flatten∧ ∀b,b∈bh.flatten→ ∃i o,i∈ks∧look st.hp i=some o∧b∈(env i).fp
 | [],i,vc,xs,ks,h,_,_=>by
   simp only[yB,Option.some.injEq,Prod.mk.injEq]at h
   obtain⟨rfl,rfl,rfl⟩:=h
   exact⟨rfl,rfl,[],rfl,by simp,Own.nil _ _,by simp⟩
 | (j,x)::r,i,vc,xs,ks,h,hnd,hv=>by
   simp only[yB]at h
   split at h
   ·rename_i s hij hx
    have hij:=Nat.eq_of_beq_eq_true hij
    subst hij
    split at h
    ·rename_i c k hc
     split at h
     ·rename_i pO y vcs ys ks1 he hb
      simp only[Option.some.injEq,Prod.mk.injEq]at h
      obtain⟨rfl,rfl,rfl⟩:=h
      obtain⟨hn1,hn2,Vq⟩:=List.nodup_append.1 hnd
      obtain⟨q1,q2,bh,q3,q4,q5,q6⟩:=DQ g hb hn2 (fun q hq=>hv q (List.mem_append_right _ hq))
      obtain⟨fp,r1,r2,r3⟩:=vu g (jI g (fC g (fun e he=>by simp at he) hx) (ni hc)) hc hn1
      have hE:=tJ t he (fun q hq=>hv q (List.mem_append_left _ hq)) r1
      refine⟨by simp[vS,q1],by simp[q2],fp::bh,by simp[q3],?_,⟨?_,?_,?_⟩,?_⟩
      ·intro i' x' f hx' hf
       cases i' with
       |zero=>simp at hx' hf;subst hx';subst hf;exact⟨(i,x),rfl,hE⟩
       |succ n=>simp at hx' hf;obtain⟨p,h1,h2⟩:=q4 n x' f hx' hf;exact⟨p,by simpa using h1,h2⟩
      ·rw[List.flatten_cons]
       refine List.nodup_append.2 ⟨r2.nodup,q5.nodup,?_⟩
       rintro b hb z hz rfl
       obtain⟨n,o1,h1,h2,h3⟩:=r3 b hb
       obtain⟨m,o2,h4,h5,h6⟩:=q6 b hz
       exact g.kW n m _ _ (fun e=>Vq n h1 m h4 e) h2 h5 b h3 h6
      ·intro b hb
       rw[List.flatten_cons]at hb
       rcases List.mem_append.1 hb with hb|hb
       ·exact r2.ge b hb
       ·exact q5.ge b hb
      ·intro b hb
       rw[List.flatten_cons]at hb
       rcases List.mem_append.1 hb with hb|hb
       ·exact r2.kind b hb
       ·exact q5.kind b hb
      ·intro b hb
       rw[List.flatten_cons]at hb
       rcases List.mem_append.1 hb with hb|hb
       ·obtain⟨n,o1,h1,h2,h3⟩:=r3 b hb;exact⟨n,o1,List.mem_append_left _ h1,h2,h3⟩
       ·obtain⟨n,o1,h1,h2,h3⟩:=q6 b hb;exact⟨n,o1,List.mem_append_right _ h1,h2,h3⟩
     ·cases h
    ·cases h
   ·cases h
theorem Pq{Γ:Nat→TK}(C: ∀t,cA P t (Γ t)){m0:Nat}{vc:List Prop}{st':St}{v:SV}(h:DP P ty Γ st m0 o.op=some (vc,st',v))(g:Good ty zb st a.tmps w env)(hB:zb.w.heap.size≤w.heap.size)(hv: ∀q,q∈vc→q):
  o.wp P a w (fun a' w'=> ∃u env',a'=a.put o.dst u∧Kept zb w w'∧Good ty zb st' a.tmps w' env'∧st'.n=st.n∧p8 w' st'.hp env' a.tmps v u) Q:=by
 generalize gz:o.op=op at h
 cases op with
 |buildSlice t len parts=>
  simp only[DP]at h
  split at h
  ·rename_i gt e hk
   split at h
   ·rename_i pO xs ks he hlen DE hb
    have he:=Nat.eq_of_beq_eq_true he
    split at h
    ·rename_i hnd hlk
     simp only[Bool.and_eq_true,Bool.not_eq_true']at hnd
     obtain⟨⟨hnd,hpk⟩,Jb⟩:=hnd
     simp only[Option.some.injEq,Prod.mk.injEq]at h
     obtain⟨rfl,h2,rfl⟩:=h
     rw[St.gone_eq]at h2
     subst h2
     have sH:El P ty gt:=hv _ (by simp)
     obtain⟨q1,q2,bh,q3,q4,q5,q6⟩:=DQ g hb (jS hnd) (fun q hq=>hv q (by simp[hq]))
     have hC:=C t
     rw[hk,he]at hC
     obtain⟨w',r1,r2,r3⟩:=vo (P:=P) (w:=w) (a:=a) gz hC.1 sH (Nat.le_of_ble_eq_true DE) (Nat.eq_of_beq_eq_true hlen) (Nat.zero_le _) q1 q2 q3 q4 q5
     obtain⟨env',hg',Lt⟩:=DM (ty:=ty) g hB (ks:=ks) hpk Jb hlk (v:=Dv) (fp:= []) (fx:=bh.flatten) (by simpa using q6) (by intro b hb;cases hb) r3
      ⟨r2.os,r2.tape,r2.output,r2.size,fun b hb _=>r2.block b hb⟩ (by
       intro b hb
       rcases List.mem_cons.1 hb with h|h
       ·exact Or.inr (Or.inr h)
       ·exact Or.inr (Or.inl h))
     unfold Oper.wp
     rw[r1]
     exact⟨_,env',rfl,jF r2 hB,hg',rfl,⟨gt,_,look_eq⟩,Lt.symm⟩
    ·cases h
   ·cases h
  ·cases h
 |_=>simp[DP]at h
end
end
section
variable{ty:Tag→Nat}
theorem Bw{w:World}{b o:Nat}{x y:List Value}(hx:w.rangeAt b o x)(hy:w.rangeAt b (o+x.length) y):w.rangeAt b o (x++y):=by
 intro j v hv
 by_cases hj:j<x.length
 ·rw[List.getElem?_append_left hj]at hv;exact hx j v hv
 ·rw[List.getElem?_append_right (by omega)]at hv
  have:=hy _ v hv
  rwa [show o+x.length+(j-x.length)=o+j by omega]at this
theorem Hr{w:World}{b o n:Nat}{cs:List Value}(h:w.rangeAt b o cs):w.rangeAt b o (cs.take n):=by
 intro j v hv
 rw[List.getElem?_take]at hv
 split at hv
 ·exact h j v hv
 ·cases hv
theorem Hs{w:World}{b o n:Nat}{cs:List Value}(h:w.rangeAt b o cs):w.rangeAt b (o+n) (cs.drop n):=by
 intro j v hv
 rw[List.getElem?_drop]at hv
 have:=h _ v hv
 rwa [show o+n+j=o+(n+j)by omega]
theorem tR{w:World}{b o off:Nat}{cs us:List Value}(h:w.rangeAt b o cs)(hl:off+us.length≤cs.length)(ht:w.there b (o+off) us.length):
  (w.setCells b (o+off) us).rangeAt b o (cs.take off++(us++cs.drop (off+us.length))):=by
 have l1:(cs.take off).length=off:=by rw[List.length_take];omega
 refine Bw (World.rangeAt_setCells_apart (Hr h) _ _ _ (Or.inr (Or.inl (by rw[l1];exact Nat.le_refl _)))) ?_
 rw[l1]
 refine Bw (World.rangeAt_setCells_same w b _ us ht) ?_
 rw[Nat.add_assoc]
 exact World.rangeAt_setCells_apart (Hs h) _ _ _ (Or.inr (Or.inr (by omega)))
theorem bW.aa9{w:World}{x y z:List V}{us vs ts:List Value}{f g h:List Nat}(a:bW w x us f)(b:bW w y vs g)(c:bW w z ts h):bW w (x++(y++z)) (us++(vs++ts)) (f++(g++h)):=bW.app a (bW.app b c)
theorem bW.split{w:World}: ∀(n:Nat) {c:List V} {cs:List Value} {f:List Nat},bW w c cs f→ ∃f1 f2,f=f1++f2∧bW w (c.take n) (cs.take n) f1∧bW w (c.drop n) (cs.drop n) f2
 |0,c,cs,f,h=>⟨[],f,rfl,by simp[bW],by simpa using h⟩
 |n+1,[],[],f,h=>⟨[],f,rfl,by simp[bW],by simpa using h⟩
 |n+1,v::r,u::us,f,⟨f1,f2,h1,h2,e⟩=>by
  obtain⟨g1,g2,k1,k2,k3⟩:=bW.split n h2
  exact⟨f1++g1,g2,by rw[e,k1,List.append_assoc],⟨f1,g1,h1,k2,rfl⟩,by simpa using k3⟩
 |_+1,[],_::_,_,h=>h.elim
 |_+1,_::_,[],_,h=>h.elim
theorem bW.Ln{w:World}{c d vs:List V}{cs us:List Value}{f g:List Nat}{off:Nat}(h:bW w c cs f)(hv:bW w vs us g)(hs:G.Ln c off vs=some d):
  ∃f1 f2 f3,f=f1++(f2++f3)∧bW w d (cs.take off++(us++cs.drop (off+us.length))) (f1++(g++f3))∧off+us.length≤cs.length:=by
 unfold G.Ln at hs
 split at hs
 ·rename_i hb
  have hb:=Nat.le_of_ble_eq_true hb
  simp only[Option.some.injEq]at hs
  subst hs
  obtain⟨f1,f',e1,k1,k2⟩:=bW.split off h
  obtain⟨f2,f3,e2,_,k4⟩:=bW.split us.length k2
  have h1:=h.len
  have h2:=hv.len
  refine⟨f1,f2,f3,by rw[e1,e2],?_,by omega⟩
  have:=bW.aa9 k1 hv k4
  rw[List.drop_drop,List.drop_drop]at this
  rw[←h2]
  exact this
 ·cases hs
theorem tS{bh:List (List Nat)}{i:Nat}{f':List Nat}{b:Nat}(h:b∈(bh.set i f').flatten):b∈f'∨ ∃j f,j≠i∧bh[j]? =some f∧b∈f:=by
 obtain⟨f,hf,hb⟩:=List.mem_flatten.1 h
 obtain⟨j,hj⟩:=List.getElem?_of_mem hf
 by_cases hji:j=i
 ·subst hji
  have hlt:=(List.getElem?_eq_some_iff.1 hj).1
  rw[List.length_set]at hlt
  rw[List.getElem?_set_self hlt]at hj
  simp only[Option.some.injEq]at hj
  subst hj
  exact Or.inl hb
 ·rw[List.getElem?_set_ne (Ne.symm hji)]at hj
  exact Or.inr ⟨j,f,hji,hj,hb⟩
theorem pQ{bh:List (List Nat)}{i:Nat}{f':List Nat}(h:bh.flatten.Nodup)(hf:f'.Nodup)(hd: ∀j f,j≠i→bh[j]? =some f→ ∀b,b∈f→b∉f'):(bh.set i f').flatten.Nodup:=by
 have h1:=List.pairwise_flatten.1 h
 refine List.pairwise_flatten.2 ⟨fun l hl=> ?_,?_⟩
 ·obtain⟨j,hj⟩:=List.getElem?_of_mem hl
  by_cases hji:j=i
  ·subst hji
   have hlt:=(List.getElem?_eq_some_iff.1 hj).1
   rw[List.length_set]at hlt
   rw[List.getElem?_set_self hlt]at hj
   simp only[Option.some.injEq]at hj
   subst hj
   exact hf
  ·rw[List.getElem?_set_ne (Ne.symm hji)]at hj
   exact h1.1 _ (List.mem_of_getElem? hj)
 ·have h2:=List.pairwise_iff_getElem.1 h1.2
  rw[List.pairwise_iff_getElem]
  intro p q hp hq hpq x hx y hy e
  subst e
  rw[List.length_set]at hp hq
  rw[List.getElem_set]at hx hy
  split at hx<;>split at hy
  ·omega
  ·rename_i e1 e2
   subst e1
   exact hd q _ (by omega) (List.getElem?_eq_getElem hq) x hy hx
  ·rename_i e1 e2
   subst e2
   exact hd p _ (by omega) (List.getElem?_eq_getElem hp) x hx hy
  ·exact h2 p q hp hq hpq x hx x hy rfl
theorem Au{α:Type}{k:Nat}{E:ER α}(G:gd k E){w w':World}{b off:Nat}{l:List α}{bh:List (List Nat)}(h:wz k E w b off l bh){i:Nat}{x':α}{f':List Nat}{cs':List Value}
  (hr:w'.rangeAt b (off+i*k) cs')(hE:E w' cs' x' f')(ho: ∀j cs,j≠i→cs.length=k→w.rangeAt b (off+j*k) cs→w'.rangeAt b (off+j*k) cs)(ha: ∀j f,j≠i→bh[j]? =some f→eS w w' f):
  wz k E w' b off (l.set i x') (bh.set i f'):=by
 refine⟨by rw[List.length_set,List.length_set];exact h.1,fun j y fy hy vh=> ?_⟩
 by_cases hj:i=j
 ·subst hj
  have hi:=(List.getElem?_eq_some_iff.1 hy).1
  rw[List.length_set]at hi
  have hi2:=(List.getElem?_eq_some_iff.1 vh).1
  rw[List.length_set]at hi2
  rw[List.getElem?_set_self hi]at hy
  rw[List.getElem?_set_self hi2]at vh
  simp only[Option.some.injEq]at hy vh
  subst hy;subst vh
  exact⟨cs',hr,hE⟩
 ·rw[List.getElem?_set_ne hj]at hy vh
  obtain⟨cy,hry,QJ⟩:=h.2 j y fy hy vh
  exact⟨cy,ho j cy (Ne.symm hj) (G.len QJ) hry,G.bu QJ (ha j fy (Ne.symm hj) vh)⟩
theorem YP{α:Type}{k:Nat}{E:ER α}(G:gd k E){e:Nat}{w w':World}{v:Value}{l l':List α}{fp gA:List Nat}(h:jE k E 0 e w v l fp)(hs:Shape w w')(h':Sl k E w' v l' gA)(ho:Own 0 w' gA)(hsub: ∀b,b∈gA→b∈fp):
  ∃Pm,jE k E 0 e w' v l' Pm∧ ∀b,b∈Pm→b∈fp:=by
 rcases h.part with⟨rfl,rfl,rfl⟩| ⟨g,n,bh,rfl,hn,rfl,hp⟩
 ·obtain⟨oa,cap,hv,_,_,h3⟩:=h'
  simp only[Value.slice.injEq]at hv
  obtain⟨rfl,hl,rfl⟩:=hv
  have:l'= []:=List.eq_nil_of_length_eq_zero hl.symm
  subst this
  exact⟨[],jE.nil _ _ _ _ _,by simp⟩
 ·obtain⟨oa,cap,hv,hc,hm,h3⟩:=h'
  simp only[Value.slice.injEq]at hv
  obtain⟨rfl,hl,rfl⟩:=hv
  obtain⟨c,wV,Nu⟩:=hp.wQ
  obtain⟨c',hs1,Da⟩:=hs g c e wV
  rcases h3 with⟨rfl,rfl,_⟩| ⟨b,off,ke,hb,af2,rfl,hE⟩
  ·rw[hl]
   refine⟨[g],Part.Nk G (l:= []) (bh:= []) ⟨⟨c',hs1,by rw[Da,Nu]⟩,⟨rfl,by simp⟩,⟨by simp,by simp,fun b hb=> ?_⟩,hm⟩ (Nat.zero_le _),by simp⟩
   simp only[List.flatten_nil,List.mem_singleton]at hb
   exact⟨_,_,by rw[hb];exact hs1⟩
  ·simp only[Option.some.injEq,Addr.mk.injEq,and_true]at hb
   obtain⟨rfl,rfl⟩:=hb
   rw[hl]
   exact⟨_,Part.Nk G ⟨⟨c',hs1,by rw[Da,Nu]⟩,hE,ho,hm⟩ hc,hsub⟩
def fits:TK→S1→Bool
 | .st z _ _, .agg c=>Nat.beq c.length z.length
 | .st _ _ _,_=>false
 | .other,_=>false
 |_, .a _=>true
 |_,_=>false
theorem Jd{k:TK}{c:List V}(h:fits k (.agg c)=true): ∃z tg fo,k= .st z tg fo∧Nat.beq c.length z.length=true:=by
 cases k with
 |st z tg fo=>exact⟨z,tg,fo,rfl,h⟩
 |_=>cases h
theorem Je{k:TK}{v:V}(h:fits k (.a v)=true):(∀z tg fo,k≠ .st z tg fo)∧k≠ .other:=by
 cases k with
 |st z tg fo=>cases h
 |other=>cases h
 |_=>exact⟨fun _ _ _ e=>(by cases e),fun e=>(by cases e)⟩
def St.Rv(st:St)(ms:List Nat)(n:Nat)(t:Tag)(l:List (T t)):St:=⟨st.n,st.sl.map fun e=>(e.1,e.2.bE ms [n]),(n, .arr t l)::cE ms [n] st.hp⟩
def Nv(n:Nat)(ms:List Nat):Bool:=pP (n::ms)&& !pinned ms&&(match ms with| []=>true|_=> !jk n)
def VB(Γ:Nat→TK)(st:St):Op→Option (List Prop×St)
 | .store t x y=>match iO st [] x,iO st [] y with
   |some (.a (.mM n i off)),some v=>match look st.hp n with
    |some (.arr g l)=>match fits (Γ t) v,takes st (cellsOf v)with
     |true,some (c,ms)=>match Ln (dec g (l.getD i (au g))) off c with
      |some d=>match enc g d,Nv n ms with
       |some (vc,y'),true=>some ((i<l.length)::vc,st.Rv ms n g (l.set i y'))
       |_,_=>none
      |none=>none
     |_,_=>none
    |_=>none
   |_,_=>none
 |_=>none
section
variable{P:Program}{zb:bY}{st st':St}{a:Act}{w:World}{env:Env}{Q:Exit→Act→World→Prop}{o:Oper}
theorem Jf(g:Good ty zb st a.tmps w env){n:Nat}{t:Tag}{l l':List (T t)}(hl:look st.hp n=some (.arr t l)){ms:List Nat}(hok:Nv n ms=true){w':World}{gA fx:List Nat}
  (Lj: ∀b,b∈fx→ ∃i o,i∈ms∧look st.hp i=some o∧b∈(env i).fp)(hsub: ∀b,b∈gA→b∈(env n).fp∨b∈fx)(Fx:jk n=true→ ∀b,b∈gA→b∈(env n).fp)
  (hk: ∀b,b∉(env n).fp→b∉fx→b<w.heap.size→w'.heap[b]? =w.heap[b]?)(adF:ng ty w' n t l' ⟨(env n).v,gA⟩):
  ∃env',Good ty zb (st.Rv ms n t l') a.tmps w' env'∧(env' n).v=(env n).v:=by
 simp only[Nv,Bool.and_eq_true,Bool.not_eq_true']at hok
 obtain⟨⟨hnd,hpk⟩,hpn⟩:=hok
 have hnd:=jS hnd
 have hnm:n∉ms:=(List.nodup_cons.1 hnd).1
 refine⟨fun m=>if m=n then⟨(env n).v,gA⟩else env m,?_,by simp⟩
 have hlk: ∀m o,look ((n,Obj.arr t l')::cE ms [n] st.hp) m=some o→(m=n∧o= .arr t l')∨(m≠n∧m∉ms∧ ∃o',look st.hp m=some o'∧o=o'.bE ms [n]):=by
  intro m o hm
  by_cases mJ:m=n
  ·subst mJ;rw[look_eq]at hm;simp only[Option.some.injEq]at hm;exact Or.inl ⟨rfl,hm.symm⟩
  ·rw[aU mJ,bT]at hm
   split at hm
   ·cases hm
   ·rename_i hks
    cases hq:look st.hp m with
    |none=>rw[hq]at hm;cases hm
    |some o'=>rw[hq]at hm;simp only[Option.map_some,Option.some.injEq]at hm;exact Or.inr ⟨mJ,hks,o',rfl,hm.symm⟩
 have how: ∀b,b∈gA→ ∃i o,(i=n∨i∈ms)∧look st.hp i=some o∧b∈(env i).fp:=by
  intro b hb
  rcases hsub b hb with h|h
  ·exact⟨n,_,Or.inl rfl,hl,h⟩
  ·obtain⟨i,o,h1,h2,h3⟩:=Lj b h;exact⟨i,o,Or.inr h1,h2,h3⟩
 have hst: ∀m o,m≠n→m∉ms→look st.hp m=some o→ ∀b,b∈(env m).fp→w'.heap[b]? =w.heap[b]? :=by
  intro m o hmn hks h3 b hb
  refine hk b (fun h=>g.kW m n _ _ hmn h3 hl b hb h) (fun h=> ?_) ((g.obj m o h3).wQ b hb)
  obtain⟨i,oi,hi,h5,h6⟩:=Lj b h
  exact g.kW m i _ _ (fun e=>hks (e▸hi)) h3 h5 b hb h6
 have s:sS ms [n] w st.hp env w' ((n, .arr t l')::cE ms [n] st.hp) (fun m=>if m=n then⟨(env n).v,gA⟩else env m):=by
  refine⟨fun b hb hno=>hk b (fun h=>hno ⟨n,_,hl,h⟩) (fun h=> ?_) hb,?_,?_,?_⟩
  ·obtain⟨i,oi,hi,h5,h6⟩:=Lj b h
   exact hno ⟨i,oi,h5,h6⟩
  ·rintro b hb ⟨m,o',h1,h2⟩
   rcases hlk m o' h1 with⟨rfl,rfl⟩| ⟨mJ,hks,B6,h3,rfl⟩
   ·simp at h2
    obtain⟨i,o',_,h3,h4⟩:=how b h2
    exact⟨i,o',h3,h4⟩
   ·simp[mJ]at h2
    exact⟨m,B6,h3,h2⟩
  ·intro m o' hks h1
   by_cases hmn:m=n
   ·subst hmn
    rw[hl]at h1
    simp only[Option.some.injEq]at h1
    subst h1
    exact⟨_,look_eq,rfl,by simp⟩
   ·exact⟨o'.bE ms [n],by rw[aU hmn,bT,if_neg hks,h1];rfl,by cases o'<;>simp[Obj.like,Obj.bE],by simp[hmn]⟩
  ·rintro m t' l2 ⟨hks,hmn⟩ h1
   have hmn:m≠n:=by simpa using hmn
   exact⟨by rw[aU hmn,bT,if_neg hks,h1];rfl,by simp[hmn],hst m _ hmn hks h1⟩
 refine g.jl s (fun m o' hm=> ?_) (fun m m' o1 o2 hne h1 h2 b hb hb'=> ?_) (fun m o' hm b hb=> ?_) (fun m hm=> ?_)
 ·rcases hlk m o' hm with⟨rfl,rfl⟩| ⟨mJ,hks,B6,h3,rfl⟩
  ·simp only[if_true];exact adF
  ·simp only[if_neg mJ]
   exact(g.obj m B6 h3).jl s (hst m B6 mJ hks h3)
 ·rcases hlk m o1 h1 with⟨e1,_⟩| ⟨mJ,hks,q1,h3,_⟩<;>rcases hlk m' o2 h2 with⟨e2,_⟩| ⟨Ho,Rs,q2,h4,_⟩
  ·exact hne (e1.trans e2.symm)
  ·simp only[if_pos e1]at hb
   simp only[if_neg Ho]at hb'
   obtain⟨i,oi,hi,h5,h6⟩:=how b hb
   refine g.kW m' i _ _ (fun e=> ?_) h4 h5 b hb' h6
   rcases hi with hi|hi
   ·exact Ho (e.trans hi)
   ·exact Rs (e▸hi)
  ·simp only[if_pos e2]at hb'
   simp only[if_neg mJ]at hb
   obtain⟨i,oi,hi,h5,h6⟩:=how b hb'
   refine g.kW m i _ _ (fun e=> ?_) h3 h5 b hb h6
   rcases hi with hi|hi
   ·exact mJ (e.trans hi)
   ·exact hks (e▸hi)
  ·simp only[if_neg mJ]at hb
   simp only[if_neg Ho]at hb'
   exact g.kW m m' _ _ hne h3 h4 b hb hb'
 ·rcases hlk m o' hm with⟨e1,_⟩| ⟨mJ,hks,q1,h3,_⟩
  ·simp only[if_pos e1]at hb
   obtain⟨i,oi,_,h5,h6⟩:=how b hb
   exact g.dom i oi h5 b h6
  ·simp only[if_neg mJ]at hb
   exact g.dom m q1 h3 b hb
 ·by_cases hmn:m=n
  ·subst hmn
   simp only[if_true]
   exact⟨(g.pins m hm).1,fun b hb=>(g.pins m hm).2 b (Fx hm b hb)⟩
  ·simp only[if_neg hmn]
   exact g.pins m hm
theorem VC{Γ:Nat→TK}(C: ∀t,cA P t (Γ t))(Z: ∀t,(∀z tg fo,Γ t≠ .st z tg fo)→Γ t≠ .other→(P.info? t).map (·.size)=some 1){vc:List Prop}(h:VB Γ st o.op=some (vc,st'))(g:Good ty zb st a.tmps w env)(hv: ∀q,q∈vc→q):
  o.wp P a w (fun a' w'=> ∃env',a'=a.put o.dst undef∧Kept zb w w'∧Good ty zb st' a.tmps w' env'∧st'.n=st.n) Q:=by
 have hop: ∀{x v},iO st [] x=some v→fP w st.hp env v (a.eval x):=fun hx=>fC g (fun e he=>by simp at he) hx
 generalize gz:o.op=op at h
 cases op with
 |store t x y=>
  simp only[VB]at h
  split at h
  ·rename_i n i off v hx hy
   have hx:=hop hx
   have hy:=hop hy
   split at h
   ·rename_i gt l hl
    split at h
    ·rename_i c ms hfit Pr
     split at h
     ·rename_i d hs
      split at h
      ·rename_i pO y' he hok
       simp only[Option.some.injEq,Prod.mk.injEq]at h
       obtain⟨rfl,rfl⟩:=h
       have hi:i<l.length:=hv _ (by simp)
       have abb:=hok
       simp only[Nv,Bool.and_eq_true,Bool.not_eq_true']at abb
       obtain⟨⟨hnd,hpk⟩,hpn⟩:=abb
       have hnd:=jS hnd
       have hnm:n∉ms:=(List.nodup_cons.1 hnd).1
       obtain⟨t1,l1,nj,b2,o2,adG,abc,Hj,hu⟩:=hx
       rw[hl]at nj
       simp only[Option.some.injEq,Obj.arr.injEq]at nj
       obtain⟨rfl,_⟩:=nj
       have hro:=g.obj n _ hl
       obtain⟨oa,cap,oK,wV,Nu,h3⟩:=RO.sl hro
       have hown:=RO.own hro
       rcases h3 with⟨rfl,_⟩| ⟨b,o1,bh,Lp,aM,ig,hE⟩
       ·simp at hi
       rw[oK,Lp]at Hj
       simp only[Value.slice.injEq,Option.some.injEq,Addr.mk.injEq,and_true]at Hj
       obtain⟨⟨rfl,rfl⟩,rfl,rfl⟩:=Hj
       have XI:l[i]? =some (l.getD i (au gt)):=by rw[List.getD_eq_getElem?_getD,List.getElem?_eq_getElem hi];rfl
       obtain⟨f,hf⟩:=ji hE.1 XI
       obtain⟨cs,B5,YQ⟩:=hE.2 _ _ f XI hf
       have hlen:=(eK gt).len YQ
       rw[ig]at hown
       have rL:=List.nodup_cons.1 hown.nodup
       obtain⟨fx,Ns,hox,Lj⟩:=yC g (jI g hy (fF Pr)) Pr (List.nodup_cons.1 hnd).2
       obtain⟨f1,f2,f3,Nn,hrd,hlo⟩:=bW.Ln (reads gt YQ) Ns hs
       have hEn:=tJ gt he (fun q hq=>hv q (by simp[hq])) hrd
       have hsz:(P.info? t).map (·.size)=some (a.eval y).cells.toList.length∧ ∀u,u∈(a.eval y).cells.toList→u.oneCell'=true:=by
        refine⟨?_,vr g (jI g hy (fF Pr)) (qc (fF Pr))⟩
        cases v with
        |agg c'=>
         have hk: ∃z tg fo,Γ t= .st z tg fo∧Nat.beq c'.length z.length=true:=by
          exact Jd hfit
         obtain⟨z,tg,fo,hk,hfit⟩:=hk
         have hC:=C t
         rw[hk]at hC
         obtain⟨fs,_,hi2,_⟩:=hC
         obtain⟨us,Vx,Lr⟩:=hy
         have:=Nat.eq_of_beq_eq_true hfit
         have Rw:=Lr.len
         rw[Vx]
         cases hq:P.info? t with
         |none=>simp[hq]at hi2
         |some inf=>simp[hq]at hi2;simp[hi2.1,Value.cells,Rw,this]
        |a v'=>
         have hk:(∀z tg fo,Γ t≠ .st z tg fo)∧Γ t≠ .other:=by
          exact Je hfit
         have hne:v'≠ .any:=by rintro rfl;simp[cellsOf,takes]at Pr
         have:=jR g (show RA w st.hp env v' (a.eval y)from hy) hne
         rw[this]
         exact Z t hk.1 hk.2
       obtain⟨cb,eb,DR⟩:=hown.kind b (by simp)
       have Vb:w.there b (o1+i*kk gt+off) (a.eval y).cells.toList.length:=by
        refine LH DR _ _ ?_
        have Ar:o1+i*kk gt+cs.length≤cb.size:=by
         have gS:=gQ gt
         have:=B5 (cs.length-1) _ (List.getElem?_eq_getElem (by omega))
         rw[IU DR]at this
         have:=(Array.getElem?_eq_some_iff.1 this).1
         omega
        omega
       have hkeep: ∀x,x≠b→(w.setCells b (o1+i*kk gt+off) (a.eval y).cells.toList).heap[x]? =w.heap[x]? :=fun x hx=>cH b _ _ w x hx
       have IL: ∀x,x∈fx→x≠b:=by
        rintro x hx rfl
        obtain⟨m,om,hm,h5,h6⟩:=Lj x hx
        exact g.kW n m _ _ (fun e=>hnm (e▸hm)) hl h5 x (by rw[ig];simp) h6
       have Pp: ∀x,x∈bh.flatten→x≠b:=fun x hx e=>rL.1 (e▸hx)
       have wF: ∀x,x∈f1++(fx++f3)→x∈f∨x∈fx:=by
        intro x hx
        rw[Nn]
        rcases List.mem_append.1 hx with hx|hx
        ·exact Or.inl (List.mem_append_left _ hx)
        ·rcases List.mem_append.1 hx with hx|hx
         ·exact Or.inr hx
         ·exact Or.inl (List.mem_append_right _ (List.mem_append_right _ hx))
       have YF: ∀x,x∈f1++(fx++f3)→x≠b:=by
        intro x hx
        rcases wF x hx with h|h
        ·exact Pp x (cC hf h)
        ·exact IL x h
       have O6:eS w (w.setCells b (o1+i*kk gt+off) (a.eval y).cells.toList) (f1++(fx++f3)):=fun x hx=>hkeep x (YF x hx)
       have Pt:=Au (eK gt) (w':=w.setCells b (o1+i*kk gt+off) (a.eval y).cells.toList) hE (i:=i) (x':=y') (f':=f1++(fx++f3))
        (tR B5 hlo Vb) ((eK gt).bu hEn O6)
        (fun j cs' hj Ar hr=>World.rangeAt_setCells_apart hr _ _ _ (Or.inr (by
         rw[Ar]
         rcases Nat.lt_or_ge j i with h1|h1
         ·left
          have:=Nat.mul_le_mul_right (kk gt) (show j+1≤i by omega)
          rw[Nat.add_mul]at this;omega
         ·right
          have:=Nat.mul_le_mul_right (kk gt) (show i+1≤j by omega)
          rw[Nat.add_mul]at this;omega)))
        (fun j f' _ hf' x hx=>hkeep x (Pp x (cC hf' hx)))
       have YR:(f1++(fx++f3)).Nodup:=by
        have h1:=(List.pairwise_flatten.1 rL.2).1 f (List.mem_of_getElem? hf)
        rw[Nn]at h1
        obtain⟨h2,h3,h4⟩:=List.nodup_append.1 h1
        obtain⟨_,h6,_⟩:=List.nodup_append.1 h3
        have hap: ∀x,x∈fx→x∉f:=by
         intro x hx hxf
         obtain⟨m,om,hm,h5,h7⟩:=Lj x hx
         exact g.kW n m _ _ (fun e=>hnm (e▸hm)) hl h5 x (by rw[ig];exact List.mem_cons_of_mem _ (cC hf hxf)) h7
        rw[Nn]at hap
        refine List.nodup_append.2 ⟨h2,List.nodup_append.2 ⟨hox.nodup,h6,?_⟩,?_⟩
        ·rintro x hx z hz rfl
         exact hap x hx (by simp[hz])
        ·rintro x hx z hz rfl
         rcases List.mem_append.1 hz with hz|hz
         ·exact hap x hz (by simp[hx])
         ·exact h4 x hx x (by simp[hz]) rfl
       have hmem: ∀x,x∈(bh.set i (f1++(fx++f3))).flatten→x∈bh.flatten∨x∈fx:=by
        intro x hx
        rcases tS hx with h| ⟨j,f',_,hj,h⟩
        ·rcases wF x h with h|h
         ·exact Or.inl (cC hf h)
         ·exact Or.inr h
        ·exact Or.inl (cC hj h)
       have hO':Own 0 (w.setCells b (o1+i*kk gt+off) (a.eval y).cells.toList) (b::(bh.set i (f1++(fx++f3))).flatten):=by
        refine⟨List.nodup_cons.2 ⟨fun hm=> ?_,pQ rL.2 YR fun j f' hj hf' x hx hx'=> ?_⟩,fun _ _=>Nat.zero_le _,fun x hx=> ?_⟩
        ·rcases hmem b hm with h|h
         ·exact rL.1 h
         ·exact IL b h rfl
        ·rcases wF x hx' with h|h
         ·exact vv rL.2 hf' hf hj x hx h
         ·obtain⟨m,om,hm,h5,h7⟩:=Lj x h
          exact g.kW n m _ _ (fun e=>hnm (e▸hm)) hl h5 x (by rw[ig];exact List.mem_cons_of_mem _ (cC hf' hx)) h7
        ·rcases List.mem_cons.1 hx with rfl|hx
         ·obtain⟨c',q1,_⟩:=eP x eb (a.eval y).cells.toList (o1+i*kk gt+off) w cb DR
          exact⟨_,_,q1⟩
         ·rcases hmem x hx with h|h
          ·rw[hkeep x (Pp x h)];exact hown.kind x (List.mem_cons_of_mem _ h)
          ·rw[hkeep x (IL x h)];exact hox.kind x h
       have YS:Sl (kk gt) (rd gt) (w.setCells b (o1+i*kk gt+off) (a.eval y).cells.toList) (env n).v (l.set i y') (b::(bh.set i (f1++(fx++f3))).flatten):=by
        refine⟨some ⟨b,o1,none⟩,cap,by rw[oK,Lp,List.length_set],by rw[List.length_set];exact wV,Nu,Or.inr ⟨b,o1,_,rfl,?_,rfl,Pt⟩⟩
        rw[lU];exact aM
       have hM:=g.dom n _ hl b (by rw[ig];simp)
       have Rx:=DL hM DR (o1+i*kk gt+off) (a.eval y).cells.toList
       have hrun:(storeVar t ⟨b,o1+i*kk gt+off,none⟩ (a.eval y)).run P w= .ok () (w.setCells b (o1+i*kk gt+off) (a.eval y).cells.toList):=rJ (by simp) Vb hsz.1 hsz.2
       have adH: ∃gA,(∀x,x∈gA→x∈(env n).fp∨x∈fx)∧(jk n=true→ ∀x,x∈gA→x∈(env n).fp)∧ng ty (w.setCells b (o1+i*kk gt+off) (a.eval y).cells.toList) n gt (l.set i y') ⟨(env n).v,gA⟩:=by
        have hall: ∀x,x∈b::(bh.set i (f1++(fx++f3))).flatten→x∈(env n).fp∨x∈fx:=by
         intro x hx
         rw[ig]
         rcases List.mem_cons.1 hx with rfl|hx
         ·exact Or.inl (by simp)
         ·rcases hmem x hx with h|h
          ·exact Or.inl (List.mem_cons_of_mem _ h)
          ·exact Or.inr h
        cases hp:soft n with
        |true=>
         refine⟨_,hall,fun hpt x hx=> ?_,by unfold ng;rw[hp];exact⟨YS,hO'⟩⟩
         rcases hall x hx with h|h
         ·exact h
         ·obtain⟨m,om,hm,_⟩:=Lj x h
          cases ms with
          |nil=>simp at hm
          |cons _ _=>rw[hpt]at hpn;simp at hpn
        |false=>
         obtain⟨c',e',B1⟩: ∃xs YT,w.ownsRow 0 (ty gt) (kk gt) (env n).v l.length xs∧YT=bh:=by
          obtain⟨xs,YT,h1,_⟩:=RO.Nk hp hro
          exact⟨xs,bh,h1,rfl⟩
         have hB:=RO.Nk hp hro
         have hB2:jE (kk gt) (rd gt) 0 (ty gt) (w.setCells b (o1+i*kk gt+off) (a.eval y).cells.toList) (env n).v (l.set i y') (b::(bh.set i (f1++(fx++f3))).flatten):=by
          rcases hB.part with⟨h1,rfl,_⟩| ⟨g0,n0,YT,h1,hn0,h2,gG⟩
          ·simp at hi
          ·rw[oK,Lp]at h1
           simp only[Value.slice.injEq,Option.some.injEq,Addr.mk.injEq,and_true,true_and]at h1
           obtain⟨⟨rfl,rfl⟩,rfl⟩:=h1
           obtain⟨cc,q1,q2⟩:=gG.wQ
           obtain⟨cc',q3,q4⟩:=eP b (ty gt) (a.eval y).cells.toList (0+i*kk gt+off) w cc q1
           rw[oK,Lp, ←List.length_set (as:=l) (i:=i) (a:=y')]
           exact Part.Nk (eK gt) ⟨⟨cc',q3,by rw[q4,q2]⟩,Pt,hO',Nu⟩ (by rw[List.length_set];exact wV)
         refine⟨_,hall,?_,?_⟩
         ·intro h;rw[Rc hp]at h;cases h
         ·unfold ng;rw[hp];exact hB2
       obtain⟨gA,k1,k2,k3⟩:=adH
       obtain⟨env',hg',Lt⟩:=Jf g hl hok (w':=w.setCells b (o1+i*kk gt+off) (a.eval y).cells.toList) Lj k1 k2 (fun x hx _ _=>hkeep x (fun e=>hx (by rw[e,ig];simp))) k3
       unfold Oper.wp execOp
       simp only[gz,hu,Instr.storeAt,Instr.sureAddr,Sem.run_bind,Sem.run_pure,Result.andThen_ok,hrun]
       exact⟨env',rfl,Rx,hg',rfl⟩
      ·cases h
     ·cases h
    ·cases h
   ·cases h
  ·cases h
 |_=>simp[VB]at h
end
end
section
variable{ty:Tag→Nat}
def RF(w:World):List V→List Value→List (List Nat)→Prop
 | [],[],bh=>bh= []
 |v::vs,u::us,bh=> ∃f g,RI w v u f∧RF w vs us g∧bh=f::g
 |_,_,_=>False
def qd(w:World):List S1→List Value→List (List Nat)→Prop
 | [],[],bh=>bh= []
 | .a v::as,u::us,bh=> ∃f g,RI w v u f∧qd w as us g∧bh=f::g
 | .agg l::as,u::us,bh=> ∃cs f g,u= .agg cs.toArray∧RF w l cs f∧qd w as us g∧bh=f++g
 |_,_,_=>False
def vT:List (List Nat)→List (List Nat)→Prop
 | [],[]=>True
 |f::r,g::s=>(∀b,b∈f→b∈g)∧vT r s
 |_,_=>False
def dQ(P:Program)(f:FuncId)(as as':List S1)(v:Value):Prop:=
 (∀(args:Array Value) (w:World),(callFunc f args).run P w= .ok (.enter f args) w)∧
 ∀w us bh,FX w→(∀b,IX b→b∉bh.flatten)→qd w as us bh→Own 0 w bh.flatten→Calls P f us.toArray w fun e w'=> ∃ke,e= .returned v∧Kept ⟨w,bh.flatten,fun _=>⟨v,[]⟩⟩ w w'∧qd w' as' us ke∧Own 0 w' ke.flatten∧vT ke bh
def St.upd(st:St)(os:Hp):St:=⟨st.n,st.sl.map fun e=>(e.1,e.2.bE [] (os.map Prod.fst)),os++cE [] (os.map Prod.fst) st.hp⟩
theorem Pu{os:Hp}{n:Nat}:n∈os.map Prod.fst↔look os n≠none:=by
 induction os with
 |nil=>simp[look]
 |cons e r ih=>
  obtain⟨j,x⟩:=e
  by_cases h:n=j
  ·subst h;simp[look_eq]
  ·rw[aU h, ←ih];simp[h]
section
variable{P:Program}{zb:bY}{st st':St}{a:Act}{w:World}{env:Env}{Q:Exit→Act→World→Prop}{o:Oper}
theorem Jg(g:Good ty zb st a.tmps w env){os:Hp}(hos: ∀n o,look os n=some o→ ∃t l l',look st.hp n=some (.arr t l)∧o= .arr t l'){w':World}{YU:Nat→List Nat}
  (hsub: ∀n o,look os n=some o→ ∀b,b∈YU n→b∈(env n).fp)(hk: ∀b,b<w.heap.size→(∀n o,look os n=some o→b∉(env n).fp)→w'.heap[b]? =w.heap[b]?)
  (hro: ∀n t l',look os n=some (.arr t l')→ng ty w' n t l' ⟨(env n).v,YU n⟩):
  ∃env',Good ty zb (st.upd os) a.tmps w' env'∧ ∀n,(env' n).v=(env n).v:=by
 refine⟨fun m=>match look os m with|some _=>⟨(env m).v,YU m⟩|none=>env m,?_,fun n=>by dsimp only;split<;>rfl⟩
 have hlk: ∀m o,look (os++cE [] (os.map Prod.fst) st.hp) m=some o→(look os m=some o)∨(look os m=none∧ ∃o',look st.hp m=some o'∧o=o'.bE [] (os.map Prod.fst)):=by
  intro m o hm
  cases hq:look os m with
  |some x=>rw[bJ hq]at hm;exact Or.inl hm
  |none=>
   rw[aS hq,bT,if_neg (by simp)]at hm
   cases Lu:look st.hp m with
   |none=>rw[Lu]at hm;cases hm
   |some o'=>rw[Lu]at hm;simp only[Option.map_some,Option.some.injEq]at hm;exact Or.inr ⟨rfl,o',rfl,hm.symm⟩
 have hst: ∀m o,look os m=none→look st.hp m=some o→ ∀b,b∈(env m).fp→w'.heap[b]? =w.heap[b]? :=by
  intro m o hm h3 b hb
  refine hk b ((g.obj m o h3).wQ b hb) fun n o' hn h=> ?_
  obtain⟨t,l,l',h4,_⟩:=hos n o' hn
  exact g.kW m n _ _ (fun e=>by rw[e,hn]at hm;cases hm) h3 h4 b hb h
 have ig: ∀m o,look (os++cE [] (os.map Prod.fst) st.hp) m=some o→ ∀b,b∈(match look os m with|some _=>(⟨(env m).v,YU m⟩:CO)|none=>env m).fp→b∈(env m).fp∧ ∃o',look st.hp m=some o':=by
  intro m o hm b hb
  rcases hlk m o hm with h| ⟨h,o',h2,_⟩
  ·rw[h]at hb
   obtain⟨t,l,l',h4,_⟩:=hos m o h
   exact⟨hsub m o h b hb,_,h4⟩
  ·rw[h]at hb
   exact⟨hb,o',h2⟩
 have s:sS [] (os.map Prod.fst) w st.hp env w' (os++cE [] (os.map Prod.fst) st.hp) (fun m=>match look os m with|some _=>⟨(env m).v,YU m⟩|none=>env m):=by
  refine⟨fun b hb hno=>hk b hb fun n o hn h=> ?_,?_,?_,?_⟩
  ·obtain⟨t,l,l',h4,_⟩:=hos n o hn
   exact hno ⟨n,_,h4,h⟩
  ·rintro b hb ⟨m,o',h1,h2⟩
   obtain⟨h3,o2,h4⟩:=ig m o' h1 b h2
   exact⟨m,o2,h4,h3⟩
  ·intro m o' _ h1
   cases hq:look os m with
   |some x=>
    obtain⟨t,l,l',h4,rfl⟩:=hos m x hq
    rw[h4]at h1
    simp only[Option.some.injEq]at h1
    subst h1
    exact⟨_,bJ hq,rfl,rfl⟩
   |none=>
    exact⟨o'.bE [] (os.map Prod.fst),by rw[aS hq,bT,if_neg (by simp),h1];rfl,by cases o'<;>simp[Obj.like,Obj.bE],rfl⟩
  ·rintro m t' l2 ⟨_,hmn⟩ h1
   have hq:look os m=none:=by
    cases hq:look os m with
    |none=>rfl
    |some x=>exact absurd (Pu.2 (by rw[hq];simp)) hmn
   exact⟨by rw[aS hq,bT,if_neg (by simp),h1];rfl,by simp[hq],hst m _ hq h1⟩
 refine g.jl s (fun m o' hm=> ?_) (fun m m' o1 o2 hne h1 h2 b hb hb'=> ?_) (fun m o' hm b hb=> ?_) (fun m hm=> ?_)
 ·rcases hlk m o' hm with h| ⟨h,B6,h3,rfl⟩
  ·obtain⟨t,l,l',h4,rfl⟩:=hos m o' h
   simp only[h]
   exact hro m t l' h
  ·simp only[h]
   exact(g.obj m B6 h3).jl s (hst m B6 h h3)
 ·obtain⟨h3,q1,h4⟩:=ig m o1 h1 b hb
  obtain⟨h5,q2,h6⟩:=ig m' o2 h2 b hb'
  exact g.kW m m' _ _ hne h4 h6 b h3 h5
 ·obtain⟨h3,q1,h4⟩:=ig m o' hm b hb
  exact g.dom m q1 h4 b h3
 ·refine⟨?_,fun b hb=> ?_⟩
  ·have:=(g.pins m hm).1
   split<;>exact this
  ·cases hq:look os m with
   |none=>simp only[hq]at hb;exact(g.pins m hm).2 b hb
   |some x=>simp only[hq]at hb;exact(g.pins m hm).2 b (hsub m x hq b hb)
theorem DS{n:Nat}{t:Tag}{l l':List (T t)}{co:CO}{gA:List Nat}{w':World}{hp:Hp}(h:RO ty w hp env n (.arr t l) co)(hs:Shape w w')(h':Sl (kk t) (rd t) w' co.v l' gA)(ho:Own 0 w' gA)(hsub: ∀b,b∈gA→b∈co.fp):
  ∃Pm,ng ty w' n t l' ⟨co.v,Pm⟩∧ ∀b,b∈Pm→b∈co.fp:=by
 unfold ng
 cases hp:soft n with
 |true=>exact⟨gA,⟨h',ho⟩,hsub⟩
 |false=>exact YP (eK t) (RO.Nk hp h) hs h' ho hsub
end
def Pv(st:St)(tg:Option Tag):V→Option V
 | .own n=>match look st.hp n with|some (.arr t l)=>some (.sl t l)|_=>none
 | .lit (.slice none 0 0)=>match tg with|some t=>some (.sl t [])|none=>none
 | .lit (.slice _ _ _)=>none
 | .lit v=>some (.lit v)
 |_=>none
def Jh(st:St):List (Option Tag)→List V→Option (List V)
 |_,[]=>some []
 |tg,v::r=>match Pv st (match tg with|t::_=>t| []=>none) v,Jh st (match tg with|_::ts=>ts| []=> []) r with
  |some x,some y=>some (x::y)
  |_,_=>none
def Ry(st:St)(k:TK):S1→Option S1
 | .a v=>match Pv st (match k with| .sl t _=>some t|_=>none) v with|some x=>some (.a x)|none=>none
 | .agg l=>match Jh st (match k with| .st _ tg _=>tg|_=> []) l with|some x=>some (.agg x)|none=>none
def tT(Γ:Nat→TK)(st:St):List Operand→List Nat→Option (List S1×List S1)
 | [],_=>some ([],[])
 |x::r,t=>match iO st [] x with
  |some v=>match Ry st (match t with|t::_=>Γ t| []=> .other) v,tT Γ st r (match t with|_::ts=>ts| []=> [])with
   |some y,some (vs,ys)=>some (v::vs,y::ys)
   |_,_=>none
  |none=>none
def back(st:St):List V→List V→Option Hp
 | [],[]=>some []
 | .own n::r, .sl t' l'::s=>match look st.hp n,back st r s with
   |some (.arr t _),some os=>match jj t t' l' with|some l'=>some ((n, .arr t l')::os)|none=>none
   |_,_=>none
 | .lit _::r,_::s=>back st r s
 |_,_=>none
def eio(P:Program)(ty:Tag→Nat)(Γ:Nat→TK)(cr:List (Nat×CR))(st:St)(d:Option Nat):Op→Option (List Prop×St×SV)
 | .call ⟨.value (.func f),xs,ts⟩=>match tT Γ st xs.toList ts.toList,look cr (d.getD 0+100000)with
   |some (vs,as),some ⟨_, .a (.lit v)::as'⟩=>match back st (vs.flatMap cellsOf) (as'.flatMap cellsOf),v.oneCell' with
    |some os,true=>match gR os with
     |true=>some ([dQ P f as as' v],st.upd os, .one (.a (.lit v)))
     |false=>none
    |_,_=>none
   |_,_=>none
 |_=>none
def yD(st:St):List Operand→Option (List S1)
 | []=>some []
 |x::r=>match iO st [] x,yD st r with
  |some (.a (.lit (.slice _ _ _))),_=>none
  |some (.a (.lit v)),some ys=>some (.a (.lit v)::ys)
  |_,_=>none
def eiv(P:Program)(ty:Tag→Nat)(cr:List (Nat×CR))(st:St)(d:Option Nat):Op→Option (List Prop×St×SV)
 | .call ⟨.value (.func f),xs,_⟩=>match xs.toList with
   |x::r=>match iO st [] x,yD st r,look cr (d.getD 0+200000)with
    |some (.a (.vw n (some (i,off)) t l)),some ls,some ⟨_, .a (.lit v):: .a (.sl t' l')::ls'⟩=>match look st.hp n,jj t t' l',v.oneCell' with
     |some (.arr g l0),some l',true=>match Ln (dec g (l0.getD i (au g))) off [.sl t l']with
      |some c=>match enc g c with
       |some (vc,x')=>some (dQ P f (.a (.sl t l)::ls) (.a (.sl t l')::ls') v::vc,st.upd [(n, .arr g (l0.set i x'))], .one (.a (.lit v)))
       |none=>none
      |none=>none
     |_,_,_=>none
    |_,_,_=>none
   | []=>none
 |_=>none
section
variable{P:Program}{zb:bY}{st st':St}{a:Act}{w:World}{env:Env}{Q:Exit→Act→World→Prop}{o:Oper}
theorem RI.cells{v:V}{u:Value}{f:List Nat}(h:RI w v u f):u.cells= #[u]:=by
 cases v with
 |lit x=>obtain⟨rfl,h1,_⟩:=h;cases u<;>simp_all [Value.cells,Value.oneCell']
 |sl t l=>obtain⟨oa,cap,rfl,_⟩:=h;rfl
 |_=>exact h.elim
theorem RF.app{w:World}: ∀{x y:List V} {us vs:List Value} {f g:List (List Nat)},RF w x us f→RF w y vs g→RF w (x++y) (us++vs) (f++g)
 | [],_,[],_,_,_,h,k=>by rw[show _=_ from h];exact k
 |_::_,_,_::_,_,_,_,⟨f1,f2,h1,h2,e⟩,k=>⟨f1,f2++_,h1,RF.app h2 k,by rw[e,List.cons_append]⟩
 | [],_,_::_,_,_,_,h,_=>h.elim
 |_::_,_,[],_,_,_,h,_=>h.elim
theorem wW{w:World}: ∀{as:List S1} {us:List Value} {bh:List (List Nat)},qd w as us bh→RF w (as.flatMap cellsOf) (us.flatMap fun u=>u.cells.toList) bh
 | [],[],_,h=>h
 | .a v::as,u::us,_,⟨f,g,h1,h2,e⟩=>by
   have:=RF.app (x:= [v]) (us:= [u]) (f:= [f]) ⟨f,[],h1,rfl,rfl⟩ (wW h2)
   rw[List.flatMap_cons,List.flatMap_cons,RI.cells h1,e]
   exact this
 | .agg l::as,u::us,_,⟨cs,f,g,hu,h1,h2,e⟩=>by
   rw[List.flatMap_cons,List.flatMap_cons,hu,e]
   exact RF.app h1 (wW h2)
 | [],_::_,_,h=>h.elim
 | .a _::_,[],_,h=>h.elim
 | .agg _::_,[],_,h=>h.elim
def Ht(env:Env):V→List Nat
 | .own n=>(env n).fp
 |_=> []
theorem Nw(g:Good ty zb st a.tmps w env){tg:Option Tag}{v x:V}{u:Value}(hr:RA w st.hp env v u)(h:Pv st tg v=some x):RI w x u (Ht env v):=by
 cases v with
 |own n=>
  simp only[Pv]at h
  split at h
  ·rename_i t l hl
   simp only[Option.some.injEq]at h
   subst h
   obtain⟨_,rfl⟩:=hr
   exact RO.sl (g.obj n _ hl)
  ·cases h
 |lit v=>
  obtain⟨rfl,h1⟩:=hr
  simp only[Pv]at h
  split at h
  ·rename_i heq;cases heq
  ·rename_i heq
   simp only[V.lit.injEq]at heq
   subst heq
   split at h
   ·simp only[Option.some.injEq]at h
    subst h
    exact⟨none,0,rfl,Nat.le_refl _,Nat.zero_le _,Or.inl ⟨rfl,rfl,fun _=>rfl⟩⟩
   ·cases h
  ·cases h
  ·rename_i heq
   simp only[V.lit.injEq]at heq
   subst heq
   simp only[Option.some.injEq]at h
   subst h
   exact⟨rfl,h1,rfl⟩
  ·cases h
 |_=>simp[Pv]at h
theorem Ji(g:Good ty zb st a.tmps w env): ∀{vs:List V} {tg:List (Option Tag)} {xs:List V} {us:List Value},bt (RA w st.hp env) vs us→Jh st tg vs=some xs→RF w xs us (vs.map (Ht env))
 | [],tg,xs,us,hr,h=>by
   simp only[Jh,Option.some.injEq]at h
   subst h
   cases us with
   |nil=>rfl
   |cons _ _=>exact hr.elim
 |v::r,tg,xs,us,hr,h=>by
  cases us with
  |nil=>exact hr.elim
  |cons u us=>
   simp only[Jh]at h
   split at h
   ·rename_i x y h1 h2
    simp only[Option.some.injEq]at h
    subst h
    exact⟨_,_,Nw g hr.1 h1,Ji g hr.2 h2,rfl⟩
   ·cases h
theorem Bx{Γ:Nat→TK}(g:Good ty zb st a.tmps w env): ∀{xs:List Operand} {ts:List Nat} {vs as:List S1},tT Γ st xs ts=some (vs,as)→
  qd w as (xs.map a.eval) ((vs.flatMap cellsOf).map (Ht env))∧bt (RA w st.hp env) (vs.flatMap cellsOf) ((xs.map a.eval).flatMap fun u=>u.cells.toList)
 | [],ts,vs,as,h=>by
   simp only[tT,Option.some.injEq,Prod.mk.injEq]at h
   obtain⟨rfl,rfl⟩:=h
   exact⟨rfl,trivial⟩
 |x::r,ts,vs,as,h=>by
  simp only[tT]at h
  split at h
  ·rename_i v hx
   split at h
   ·rename_i y vs' ys h1 h2
    simp only[Option.some.injEq,Prod.mk.injEq]at h
    obtain⟨rfl,rfl⟩:=h
    have B4:=fC g (fun e he=>by simp at he) hx
    obtain⟨k1,k2⟩:=Bx g h2
    cases v with
    |a v=>
     simp only[Ry]at h1
     split at h1
     ·rename_i x' hl
      simp only[Option.some.injEq]at h1
      subst h1
      have Ns:=Nw g B4 hl
      refine⟨⟨_,_,Ns,k1,rfl⟩,?_⟩
      rw[List.map_cons,List.flatMap_cons,List.flatMap_cons,RI.cells Ns]
      exact⟨B4,k2⟩
     ·cases h1
    |agg l=>
     simp only[Ry]at h1
     split at h1
     ·rename_i x' hl
      simp only[Option.some.injEq]at h1
      subst h1
      obtain⟨cs,hu,j0⟩:=B4
      refine⟨⟨cs,_,_,hu,Ji g j0 hl,k1,by rw[List.flatMap_cons,List.map_append];rfl⟩,?_⟩
      rw[List.map_cons,List.flatMap_cons,List.flatMap_cons,hu]
      exact bt.app j0 k2
     ·cases h1
   ·cases h
  ·cases h
theorem Hu(g:Good ty zb st a.tmps w env){w':World}: ∀{vs as:List V} {us:List Value} {bh:List (List Nat)} {os:Hp},back st vs as=some os→bt (RA w st.hp env) vs us→RF w' as us bh→vT bh (vs.map (Ht env))→Own 0 w' bh.flatten→gR os=true→
  (∀b,b∈(vs.map (Ht env)).flatten→ ∃n o,look os n=some o∧b∈(env n).fp)∧
  (∀n o,look os n=some o→(∃t l l' gA,look st.hp n=some (.arr t l)∧o= .arr t l'∧Sl (kk t) (rd t) w' (env n).v l' gA∧Own 0 w' gA∧ ∀b,b∈gA→b∈(env n).fp)∧ ∀b,b∈(env n).fp→b∈(vs.map (Ht env)).flatten)∧
  ((vs.map (Ht env)).flatten.Nodup)
 | [],[],us,bh,os,h,_,_,_,_,_=>by
   simp only[back,Option.some.injEq]at h
   subst h
   exact⟨by simp,by simp[look],by simp⟩
 | .own n::r, .sl t' l'::s,us,bh,os,h,hr,hf,hsub,hown,hnd=>by
   cases us with
   |nil=>exact hr.elim
   |cons u us=>
    obtain⟨f,fr,h1,h2,rfl⟩:=hf
    simp only[back]at h
    split at h
    ·rename_i t l os' hl hb
     split at h
     ·rename_i l2 hc
      simp only[Option.some.injEq]at h
      subst h
      obtain⟨e,rfl⟩:=dK hc
      subst e
      simp only[gR,Bool.and_eq_true]at hnd
      rw[List.flatten_cons]at hown
      obtain⟨hn1,hn2,Vq⟩:=List.nodup_append.1 hown.nodup
      have o1:Own 0 w' f:=⟨hn1,fun _ _=>Nat.zero_le _,fun b hb=>hown.kind b (List.mem_append_left _ hb)⟩
      have o2:Own 0 w' fr.flatten:=⟨hn2,fun _ _=>Nat.zero_le _,fun b hb=>hown.kind b (List.mem_append_right _ hb)⟩
      obtain⟨q1,q2,q3⟩:=Hu g hb hr.2 h2 hsub.2 o2 hnd.2
      have hu:u=(env n).v:=hr.1.2
      have hno:look os' n=none:=by
       cases hq:look os' n with
       |none=>rfl
       |some x=>simp[hq]at hnd
      refine⟨fun b hb=> ?_,fun m o hm=> ?_,?_⟩
      ·rw[List.map_cons,List.flatten_cons]at hb
       rcases List.mem_append.1 hb with hb|hb
       ·exact⟨n,_,look_eq,hb⟩
       ·obtain⟨m,o,h3,h4⟩:=q1 b hb
        have hmn:m≠n:=by rintro rfl;rw[hno]at h3;cases h3
        exact⟨m,o,by rw[aU hmn];exact h3,h4⟩
      ·by_cases hmn:m=n
       ·subst hmn
        rw[look_eq]at hm
        simp only[Option.some.injEq]at hm
        exact⟨⟨t',l,l',f,hl,hm.symm,by rw[←hu];exact h1,o1,hsub.1⟩,fun b hb=>by rw[List.map_cons,List.flatten_cons];exact List.mem_append_left _ hb⟩
       ·rw[aU hmn]at hm
        obtain⟨h3,h4⟩:=q2 m o hm
        exact⟨h3,fun b hb=>by rw[List.map_cons,List.flatten_cons];exact List.mem_append_right _ (h4 b hb)⟩
      ·rw[List.map_cons,List.flatten_cons]
       refine List.nodup_append.2 ⟨(RO.own (g.obj n _ hl)).nodup,q3,?_⟩
       rintro b hb c hc rfl
       obtain⟨m,o,h3,h4⟩:=q1 b hc
       have hmn:n≠m:=by rintro rfl;rw[hno]at h3;cases h3
       obtain⟨⟨t2,l2,_,_,h5,_⟩,_⟩:=q2 m o h3
       exact g.kW n m _ _ hmn hl h5 b hb h4
     ·cases h
    ·cases h
 | .lit x::r,y::s,us,bh,os,h,hr,hf,hsub,hown,hnd=>by
   cases us with
   |nil=>exact hr.elim
   |cons u us=>
    obtain⟨f,fr,h1,h2,rfl⟩:=hf
    simp only[back]at h
    rw[List.flatten_cons]at hown
    obtain⟨_,hn2,_⟩:=List.nodup_append.1 hown.nodup
    obtain⟨q1,q2,q3⟩:=Hu g h hr.2 h2 hsub.2 ⟨hn2,fun _ _=>Nat.zero_le _,fun b hb=>hown.kind b (List.mem_append_right _ hb)⟩ hnd
    exact⟨q1,q2,q3⟩
 | .own _::_, .lit _::_,_,_,_,h,_,_,_,_,_=>by simp[back]at h
 | .own _::_, .any::_,_,_,_,h,_,_,_,_,_=>by simp[back]at h
 | .own _::_, .own _::_,_,_,_,h,_,_,_,_,_=>by simp[back]at h
 | .own _::_, .ptr _ _::_,_,_,_,h,_,_,_,_,_=>by simp[back]at h
 | .own _::_, .mM _ _ _::_,_,_,_,h,_,_,_,_,_=>by simp[back]at h
 | .own _::_, .ip _ _ _::_,_,_,_,h,_,_,_,_,_=>by simp[back]at h
 | .own _::_, .vw _ _ _ _::_,_,_,_,h,_,_,_,_,_=>by simp[back]at h
 | .own _::_, .BY _ _ _ _ _::_,_,_,_,h,_,_,_,_,_=>by simp[back]at h
 | .own _::_, .BZ _ _ _::_,_,_,_,h,_,_,_,_,_=>by simp[back]at h
 | .own _::_, .mix _ _ _ _::_,_,_,_,h,_,_,_,_,_=>by simp[back]at h
 | .own _::_, .Ag _::_,_,_,_,h,_,_,_,_,_=>by simp[back]at h
 | .own _::_, .Aj _ _::_,_,_,_,h,_,_,_,_,_=>by simp[back]at h
 | .own _::_, .vR _::_,_,_,_,h,_,_,_,_,_=>by simp[back]at h
 | .own _::_, .fY _ _ _::_,_,_,_,h,_,_,_,_,_=>by simp[back]at h
 | .own _::_,[],_,_,_,h,_,_,_,_,_=>by simp[back]at h
 | .lit _::_,[],_,_,_,h,_,_,_,_,_=>by simp[back]at h
 | [],_::_,_,_,_,h,_,_,_,_,_=>by simp[back]at h
 | .any::_,_,_,_,_,h,_,_,_,_,_=>by simp[back]at h
 | .sl _ _::_,_,_,_,_,h,_,_,_,_,_=>by simp[back]at h
 | .ptr _ _::_,_,_,_,_,h,_,_,_,_,_=>by simp[back]at h
 | .mM _ _ _::_,_,_,_,_,h,_,_,_,_,_=>by simp[back]at h
 | .ip _ _ _::_,_,_,_,_,h,_,_,_,_,_=>by simp[back]at h
 | .vw _ _ _ _::_,_,_,_,_,h,_,_,_,_,_=>by simp[back]at h
 | .BY _ _ _ _ _::_,_,_,_,_,h,_,_,_,_,_=>by simp[back]at h
 | .BZ _ _ _::_,_,_,_,_,h,_,_,_,_,_=>by simp[back]at h
 | .mix _ _ _ _::_,_,_,_,_,h,_,_,_,_,_=>by simp[back]at h
 | .Ag _::_,_,_,_,_,h,_,_,_,_,_=>by simp[back]at h
 | .Aj _ _::_,_,_,_,_,h,_,_,_,_,_=>by simp[back]at h
 | .vR _::_,_,_,_,_,h,_,_,_,_,_=>by simp[back]at h
 | .fY _ _ _::_,_,_,_,_,h,_,_,_,_,_=>by simp[back]at h
theorem DT(g:Good ty zb st a.tmps w env): ∀{vs as:List V} {os:Hp},back st vs as=some os→gR os=true→
  Own 0 w (vs.map (Ht env)).flatten∧(∀b,b∈(vs.map (Ht env)).flatten→ ∃n o o',look os n=some o∧look st.hp n=some o'∧b∈(env n).fp)
 | [],[],os,h,_=>⟨Own.nil _ _,by simp⟩
 | .own n::r, .sl t' l'::s,os,h,hnd=>by
   simp only[back]at h
   split at h
   ·rename_i t l os' hl hb
    split at h
    ·rename_i l2 hc
     simp only[Option.some.injEq]at h
     subst h
     simp only[gR,Bool.and_eq_true]at hnd
     obtain⟨q1,q2⟩:=DT g hb hnd.2
     have hno:look os' n=none:=by
      cases hq:look os' n with
      |none=>rfl
      |some x=>simp[hq]at hnd
     have ho:=RO.own (g.obj n _ hl)
     rw[List.map_cons,List.flatten_cons]
     refine⟨⟨List.nodup_append.2 ⟨ho.nodup,q1.nodup,?_⟩,fun _ _=>Nat.zero_le _,fun b hb=> ?_⟩,fun b hb=> ?_⟩
     ·rintro b hb c Ll rfl
      obtain⟨m,o,o',h3,h5,h4⟩:=q2 b Ll
      have hmn:n≠m:=by rintro rfl;rw[hno]at h3;cases h3
      exact g.kW n m _ _ hmn hl h5 b hb h4
     ·rcases List.mem_append.1 hb with hb|hb
      ·exact ho.kind b hb
      ·exact q1.kind b hb
     ·rcases List.mem_append.1 hb with hb|hb
      ·exact⟨n,_,_,look_eq,hl,hb⟩
      ·obtain⟨m,o,o',h3,h5,h4⟩:=q2 b hb
       have hmn:m≠n:=by rintro rfl;rw[hno]at h3;cases h3
       exact⟨m,o,o',by rw[aU hmn];exact h3,h5,h4⟩
    ·cases h
   ·cases h
 | .lit x::r,y::s,os,h,hnd=>by
   simp only[back]at h
   have q:=DT g h hnd
   exact q
 | .own _::_, .lit _::_,_,h,_=>by simp[back]at h
 | .own _::_, .any::_,_,h,_=>by simp[back]at h
 | .own _::_, .own _::_,_,h,_=>by simp[back]at h
 | .own _::_, .ptr _ _::_,_,h,_=>by simp[back]at h
 | .own _::_, .mM _ _ _::_,_,h,_=>by simp[back]at h
 | .own _::_, .ip _ _ _::_,_,h,_=>by simp[back]at h
 | .own _::_, .vw _ _ _ _::_,_,h,_=>by simp[back]at h
 | .own _::_, .BY _ _ _ _ _::_,_,h,_=>by simp[back]at h
 | .own _::_, .BZ _ _ _::_,_,h,_=>by simp[back]at h
 | .own _::_, .mix _ _ _ _::_,_,h,_=>by simp[back]at h
 | .own _::_, .Ag _::_,_,h,_=>by simp[back]at h
 | .own _::_, .Aj _ _::_,_,h,_=>by simp[back]at h
 | .own _::_, .vR _::_,_,h,_=>by simp[back]at h
 | .own _::_, .fY _ _ _::_,_,h,_=>by simp[back]at h
 | .own _::_,[],_,h,_=>by simp[back]at h
 | .lit _::_,[],_,h,_=>by simp[back]at h
 | [],_::_,_,h,_=>by simp[back]at h
 | .any::_,_,_,h,_=>by simp[back]at h
 | .sl _ _::_,_,_,h,_=>by simp[back]at h
 | .ptr _ _::_,_,_,h,_=>by simp[back]at h
 | .mM _ _ _::_,_,_,h,_=>by simp[back]at h
 | .ip _ _ _::_,_,_,h,_=>by simp[back]at h
 | .vw _ _ _ _::_,_,_,h,_=>by simp[back]at h
 | .BY _ _ _ _ _::_,_,_,h,_=>by simp[back]at h
 | .BZ _ _ _::_,_,_,h,_=>by simp[back]at h
 | .mix _ _ _ _::_,_,_,h,_=>by simp[back]at h
 | .Ag _::_,_,_,h,_=>by simp[back]at h
 | .Aj _ _::_,_,_,h,_=>by simp[back]at h
 | .vR _::_,_,_,h,_=>by simp[back]at h
 | .fY _ _ _::_,_,_,h,_=>by simp[back]at h
theorem Kept.YV{L:List Nat}{pv:Nat→CO}{w':World}(h:Kept ⟨w,L,pv⟩ w w')(hB:zb.w.heap.size≤w.heap.size)(hL: ∀b,b∈L→b∈zb.L∨zb.w.heap.size≤b):Kept zb w w':=
 ⟨h.os,h.tape,h.output,h.size,fun b hb hn=>h.block b (Nat.lt_of_lt_of_le hb hB) fun hm=>(hL b hm).elim hn fun h=>by omega,h.shape⟩
theorem F9{f:FuncId}{xs:Array Operand}{ts:Array TypeId}(ho:o.op= .call ⟨.value (.func f),xs,ts⟩)(hS: ∀(args:Array Value) (w:World),(callFunc f args).run P w= .ok (.enter f args) w):
  (execOp a.eval o).run P w= .ok (.enter f (xs.toList.map a.eval).toArray) w:=by
 have hx:xs.map a.eval=(xs.toList.map a.eval).toArray:=by rw[←List.map_toArray]
 rw[←hx]
 have h0:a.eval (.func f)= .func (.func f) #[] #[]:=rfl
 unfold execOp
 simp[ho,resolve,invoke,Deferred.ofValue,h0,hS]
theorem YW{Γ:Nat→TK}{cr:List (Nat×CR)}{vc:List Prop}{v:SV}{d:Option Nat}(h:eio P ty Γ cr st d o.op=some (vc,st',v))(g:Good ty zb st a.tmps w env)(hB:zb.w.heap.size≤w.heap.size)(hA:G9 zb)(hN:FX w)(hv: ∀q,q∈vc→q):
  o.wp P a w (fun a' w'=> ∃u env',a'=a.put o.dst u∧Kept zb w w'∧Good ty zb st' a.tmps w' env'∧st'.n=st.n∧p8 w' st'.hp env' a.tmps v u) Q:=by
 generalize gz:o.op=op at h
 unfold eio at h
 split at h
 ·rename_i f xs ts
  split at h
  ·rename_i vs as own v0 as' hl hcr
   split at h
   ·rename_i os hb h1
    split at h
    ·rename_i hnd
     simp only[Option.some.injEq,Prod.mk.injEq]at h
     obtain⟨rfl,rfl,rfl⟩:=h
     obtain⟨hS1,hS2⟩:dQ P f as as' v0:=hv _ (by simp)
     obtain⟨q1,q2⟩:=Bx g hl
     obtain⟨q3,q4⟩:=DT g hb hnd
     unfold Oper.wp
     rw[F9 gz hS1]
     simp only[Oper.upon]
     refine(hS2 w _ _ hN (fun b h0 hb=>by obtain⟨n,o,o',_,hl',QA⟩:=q4 b hb;exact hA.free (g.dom n o' hl' b QA) h0) q1 q3).mono ?_
     rintro e w' ⟨ke,rfl,hk,ha,hown,hsub⟩
     obtain⟨r1,r2,_⟩:=Hu g hb q2 (wW ha) hsub hown hnd
     have ig: ∀n, ∃Pm, ∀t l',look os n=some (.arr t l')→ng ty w' n t l' ⟨(env n).v,Pm⟩∧ ∀b,b∈Pm→b∈(env n).fp:=by
      intro n
      cases hq:look os n with
      |none=>exact⟨[],fun _ _ h=>by cases h⟩
      |some o'=>
       obtain⟨⟨t,l,l',gA,h3,rfl,h5,h6,h7⟩,_⟩:=r2 n o' hq
       obtain⟨Pm,k1,k2⟩:=DS (hp:=st.hp) (g.obj n _ h3) hk.shape h5 h6 h7
       refine⟨Pm,fun t2 l2 h=> ?_⟩
       simp only[Option.some.injEq,Obj.arr.injEq]at h
       obtain⟨rfl,h⟩:=h
       cases h
       exact⟨k1,k2⟩
     obtain⟨env',hg',Lt⟩:=Jg g (os:=os) (w':=w') (YU:=fun n=>Classical.choose (ig n))
      (fun n o' hn=>by
       obtain⟨⟨t,l,l',gA,h3,h4,_⟩,_⟩:=r2 n o' hn
       exact⟨t,l,l',h3,h4⟩)
      (fun n o' hn b hb'=>by
       obtain⟨⟨t,l,l',gA,h3,rfl,_⟩,_⟩:=r2 n o' hn
       exact(Classical.choose_spec (ig n) t l' hn).2 b hb')
      (fun b hlt hno=>hk.block b hlt fun hm=>by
       obtain⟨n,o',h3,h4⟩:=r1 b hm
       exact hno n o' h3 h4)
      (fun n t l' hn=>(Classical.choose_spec (ig n) t l' hn).1)
     refine⟨v0,env',rfl,hk.YV hB fun b hm=> ?_,hg',rfl,rfl,h1⟩
     obtain⟨n,o1,o2,h3,h4,h5⟩:=q4 b hm
     exact g.dom n o2 h4 b h5
    ·cases h
   ·cases h
  ·cases h
 ·cases h
theorem DU(g:Good ty zb st a.tmps w env): ∀{xs:List Operand} {as:List S1},yD st xs=some as→qd w as (xs.map a.eval) (as.map fun _=> [])
 | [],as,h=>by
   simp only[yD,Option.some.injEq]at h
   subst h;rfl
 |x::r,as,h=>by
  simp only[yD]at h
  split at h
  ·cases h
  ·rename_i v ys hne hx h2
   simp only[Option.some.injEq]at h
   subst h
   obtain⟨h3,h4⟩:=fC g (fun e he=>by simp at he) hx
   exact⟨[],_,⟨h3,h4,rfl⟩,DU g h2,rfl⟩
  ·cases h
theorem DV{n i off:Nat}{t:Tag}{l l2:List (T t)}{u0:Value}{gt:Tag}{l0:List (T gt)}{c:List V}{x':T gt}{pO:List Prop}{pv:Nat→CO}(g:Good ty zb st a.tmps w env)(hB:zb.w.heap.size≤w.heap.size)
  (hRV:RV w st.hp env n (some (i,off)) t l u0)(hl:look st.hp n=some (.arr gt l0))(hs:Ln (dec gt (l0.getD i (au gt))) off [.sl t l2]=some c)(he:enc gt c=some (pO,x'))(hv: ∀q,q∈pO→q):
  ∃fv,RI w (.sl t l) u0 fv∧(∀y,y∈fv→y∈zb.L∨zb.w.heap.size≤y)∧Own 0 w fv∧ ∀w' Nx,Kept ⟨w,fv,pv⟩ w w'→RI w' (.sl t l2) u0 Nx→Own 0 w' Nx→(∀y,y∈Nx→y∈fv)→ ∃env',Kept zb w w'∧Good ty zb (st.upd [(n, .arr gt (l0.set i x'))]) a.tmps w' env':=by
 obtain⟨_,_,abf⟩:=hRV
 obtain⟨t1,l1,b2,o2,adG,abc,nj,hi,YX,YY,Ga,hcell⟩:=abf i off rfl
 rw[hl]at nj
 simp only[Option.some.injEq,Obj.arr.injEq]at nj
 obtain⟨rfl,nj⟩:=nj
 cases nj
 have hro:=g.obj n _ hl
 obtain⟨oa,cap,oK,wV,Nu,h3⟩:=RO.sl hro
 have hown:=RO.own hro
 rcases h3 with⟨rfl,_⟩| ⟨b,o1,bh,Lp,aM,ig,hE⟩
 ·simp at hi
 rw[oK,Lp]at YY
 simp only[Value.slice.injEq,Option.some.injEq,Addr.mk.injEq,and_true]at YY
 obtain⟨⟨rfl,rfl⟩,rfl,rfl⟩:=YY
 have XI:l0[i]? =some (l0.getD i (au gt)):=by rw[List.getD_eq_getElem?_getD,List.getElem?_eq_getElem hi];rfl
 obtain⟨fe,hf⟩:=ji hE.1 XI
 obtain⟨cs,B5,YQ⟩:=hE.2 _ _ fe XI hf
 rw[ig]at hown
 have rL:=List.nodup_cons.1 hown.nodup
 have hR:=reads gt YQ
 obtain⟨f1,f',YZ,k1,k2⟩:=bW.split off hR
 have Fw: ∃r',(dec gt (l0.getD i (au gt))).drop off= .sl t l::r':=by
  rw[CD]at YX
  have hlt:=(List.getElem?_eq_some_iff.1 YX).1
  rw[List.drop_eq_getElem_cons hlt]
  have:=(List.getElem?_eq_some_iff.1 YX).2
  rw[this]
  exact⟨_,rfl⟩
 obtain⟨r',Fw⟩:=Fw
 rw[Fw]at k2
 have Rz: ∃u us,cs.drop off=u::us:=by
  cases hq:cs.drop off with
  |nil=>rw[hq]at k2;exact k2.elim
  |cons u us=>exact⟨u,us,rfl⟩
 obtain⟨u,us,Rz⟩:=Rz
 rw[Rz]at k2
 obtain⟨fv,f3,Ns,abg,hf'⟩:=k2
 have huc:cs[off]? =some u:=by
  have:=congrArg (fun l=>l[0]?) Rz
  simpa using this
 have hue:u0=u:=by
  have:=B5 off u huc
  rw[hcell]at this
  simpa using this
 rw[hue]at hcell ⊢
 have Gb: ∀y,y∈fv→y∈fe:=fun y hy=>by rw[YZ,hf'];simp[hy]
 have abh:=(List.pairwise_flatten.1 rL.2).1 fe (List.mem_of_getElem? hf)
 rw[YZ,hf']at abh
 obtain⟨n1,n2,n3⟩:=List.nodup_append.1 abh
 obtain⟨n4,n5,n6⟩:=List.nodup_append.1 n2
 have RC:Own 0 w fv:=⟨n4,fun _ _=>Nat.zero_le _,fun y hy=>hown.kind y (List.mem_cons_of_mem _ (cC hf (Gb y hy)))⟩
 refine⟨fv,Ns,fun y hy=>g.dom n _ hl y (by rw[ig];exact List.mem_cons_of_mem _ (cC hf (Gb y hy))),RC,?_⟩
 intro w' Nx hk Y0 LV LW
 have m1:=LV.nodup
 have hkeep: ∀y,y<w.heap.size→y∉fv→w'.heap[y]? =w.heap[y]? :=fun y hy hn=>hk.block y hy hn
 have Pp: ∀y,y∈bh.flatten→y≠b:=fun y hy e=>rL.1 (e▸hy)
 have Y1: ∀y,y∈bh.flatten→y<w.heap.size:=fun y hy=>hown.lt y (List.mem_cons_of_mem _ hy)
 have hkb:w'.heap[b]? =w.heap[b]? :=hkeep b aM fun hm=>rL.1 (cC hf (Gb b hm))
 have hrg: ∀{o:Nat} {cs:List Value},w.rangeAt b o cs→w'.rangeAt b o cs:=by
  intro o cs hr j v hv
  rw[World.cell?_of_block (w:=w) (a:=⟨b,_,none⟩) hkb];exact hr j v hv
 have ag1:eS w w' f1:=fun y hy=>hkeep y (Y1 y (cC hf (by rw[YZ];simp[hy]))) fun hm=>n3 y hy y (by simp[hm]) rfl
 have ag3:eS w w' f3:=fun y hy=>hkeep y (Y1 y (cC hf (by rw[YZ,hf'];simp[hy]))) fun hm=>n6 y hm y hy rfl
 have RD: ∀{c:List V} {us:List Value} {f:List Nat},bW w c us f→eS w w' f→bW w' c us f:=by
  intro c
  induction c with
  |nil=>intro us f h _;cases us with
   |nil=>exact h
   |cons _ _=>exact h.elim
  |cons v r ih=>
   intro us f h ha
   cases us with
   |nil=>exact h.elim
   |cons u us=>
    obtain⟨f1,f2,h1,h2,rfl⟩:=h
    refine⟨f1,f2,?_,ih h2 (ha.sub fun y hy=>List.mem_append_right _ hy),rfl⟩
    cases v with
    |lit x=>exact h1
    |sl t l=>exact Sl.bu (eK t) h1 (ha.sub fun y hy=>List.mem_append_left _ hy)
    |_=>exact h1.elim
 have Ll:c=(dec gt (l0.getD i (au gt))).take off++([.sl t l2]++r'):=by
  unfold Ln at hs
  split at hs
  ·simp only[Option.some.injEq]at hs
   rw[←hs]
   congr 2
   have:(dec gt (l0.getD i (au gt))).drop (off+ [V.sl t l2].length)=((dec gt (l0.getD i (au gt))).drop off).drop 1:=by rw[List.drop_drop];rfl
   rw[this,Fw];rfl
  ·cases hs
 have adM:cs=cs.take off++([u]++us):=by
  have:=(List.take_append_drop off cs).symm
  rw[Rz]at this
  exact this
 have hrd:bW w' c cs (f1++(Nx++f3)):=by
  rw[Ll,adM]
  refine bW.aa9 (RD k1 ag1) (y:= [.sl t l2]) (vs:= [u]) ?_ (RD abg ag3)
  exact⟨Nx,[],Y0,rfl,by simp⟩
 have hEn:=tJ gt he (fun q hq=>hv q hq) hrd
 have wF: ∀y,y∈f1++(Nx++f3)→y∈fe:=by
  intro y hy
  rw[YZ,hf']
  simp only[List.mem_append]at hy ⊢
  rcases hy with hy|hy|hy
  ·exact Or.inl hy
  ·exact Or.inr (Or.inl (LW y hy))
  ·exact Or.inr (Or.inr hy)
 have Pt:=Au (eK gt) (w':=w') hE (i:=i) (x':=x') (f':=f1++(Nx++f3)) (hrg B5) hEn (fun j cs' _ _ hr=>hrg hr)
  (fun j f' hj hf' y hy=>hkeep y (Y1 y (cC hf' hy)) fun hm=>vv rL.2 hf' hf hj y hy (Gb y hm))
 have hmem: ∀y,y∈(bh.set i (f1++(Nx++f3))).flatten→y∈bh.flatten:=by
  intro y hy
  rcases tS hy with h| ⟨j,f',_,hj,h⟩
  ·exact cC hf (wF y h)
  ·exact cC hj h
 have hO':Own 0 w' (b::(bh.set i (f1++(Nx++f3))).flatten):=by
  refine⟨List.nodup_cons.2 ⟨fun hm=>rL.1 (hmem b hm),pQ rL.2 ?_ fun j f' hj hf' y hy hy'=>vv rL.2 hf' hf hj y hy (wF y hy')⟩,fun _ _=>Nat.zero_le _,fun y hy=> ?_⟩
  ·refine List.nodup_append.2 ⟨n1,List.nodup_append.2 ⟨m1,n5,fun y hy z hz e=>n6 y (LW y hy) z hz e⟩,fun y hy z hz e=> ?_⟩
   rcases List.mem_append.1 hz with hz|hz
   ·exact n3 y hy z (by simp[LW z hz]) e
   ·exact n3 y hy z (by simp[hz]) e
  ·obtain⟨cb,eb,DR⟩:=hown.kind y (by
    rcases List.mem_cons.1 hy with rfl|hy
    ·simp
    ·exact List.mem_cons_of_mem _ (hmem y hy))
   obtain⟨cb',h5,_⟩:=hk.shape y cb eb DR
   exact⟨_,_,h5⟩
 have YS:Sl (kk gt) (rd gt) w' (env n).v (l0.set i x') (b::(bh.set i (f1++(Nx++f3))).flatten):=by
  refine⟨some ⟨b,o1,none⟩,cap,by rw[oK,Lp,List.length_set],by rw[List.length_set];exact wV,Nu,Or.inr ⟨b,o1,_,rfl,Nat.lt_of_lt_of_le aM hk.size,rfl,Pt⟩⟩
 obtain⟨Pm,w1,w2⟩:=DS (hp:=st.hp) hro hk.shape YS hO' (fun y hy=>by
  rw[ig]
  rcases List.mem_cons.1 hy with rfl|hy
  ·simp
  ·exact List.mem_cons_of_mem _ (hmem y hy))
 have hlk: ∀m o',look [(n,Obj.arr gt (l0.set i x'))] m=some o'→m=n∧o'= .arr gt (l0.set i x'):=by
  intro m o' hm
  by_cases hmn:m=n
  ·subst hmn;rw[look_eq]at hm;simp only[Option.some.injEq]at hm;exact⟨rfl,hm.symm⟩
  ·rw[aU hmn]at hm;cases hm
 obtain⟨env',hg',Lt⟩:=Jg g (os:= [(n, .arr gt (l0.set i x'))]) (w':=w') (YU:=fun _=>Pm)
  (fun m o' hm=>by obtain⟨rfl,rfl⟩:=hlk m o' hm;exact⟨_,_,_,hl,rfl⟩)
  (fun m o' hm y hy=>by obtain⟨rfl,_⟩:=hlk m o' hm;exact w2 y hy)
  (fun y hlt hno=>hkeep y hlt fun hm=>hno n _ look_eq (by rw[ig];exact List.mem_cons_of_mem _ (cC hf (Gb y hm))))
  (fun m t2 l3 hm=>by
   obtain⟨rfl,h5⟩:=hlk m _ hm
   simp only[Obj.arr.injEq]at h5
   obtain⟨rfl,h5⟩:=h5
   cases h5
   exact w1)
 refine⟨env',hk.YV hB fun y hm=> ?_,hg'⟩
 exact g.dom n _ hl y (by rw[ig];exact List.mem_cons_of_mem _ (cC hf (Gb y hm)))
theorem Y2{Γ:Nat→TK}{cr:List (Nat×CR)}{vc:List Prop}{v:SV}{d:Option Nat}(h:eiv P ty cr st d o.op=some (vc,st',v))(g:Good ty zb st a.tmps w env)(hB:zb.w.heap.size≤w.heap.size)(hA:G9 zb)(hN:FX w)(hv: ∀q,q∈vc→q):
  o.wp P a w (fun a' w'=> ∃u env',a'=a.put o.dst u∧Kept zb w w'∧Good ty zb st' a.tmps w' env'∧st'.n=st.n∧p8 w' st'.hp env' a.tmps v u) Q:=by
 generalize gz:o.op=op at h
 unfold eiv at h
 split at h
 ·rename_i f xs ts
  split at h
  ·rename_i x r hxs
   split at h
   ·rename_i n i off t l ls own v0 t' l' ls' hx hls hcr
    split at h
    ·rename_i gt l0 l2 hl hc hv0
     split at h
     ·rename_i c hs
      split at h
      ·rename_i pO x' he
       simp only[Option.some.injEq,Prod.mk.injEq]at h
       obtain⟨rfl,rfl,rfl⟩:=h
       obtain⟨hS1,hS2⟩:dQ P f (.a (.sl t l)::ls) (.a (.sl t l2)::ls') v0:=hv _ (by simp)
       obtain⟨fv,Ns,abj,RC,RE⟩:=DV (pv:=fun _=>⟨v0,[]⟩) g hB (fC g (fun e he=>by simp at he) hx) hl hs he (fun q hq=>hv q (by simp[hq]))
       have RG:((fv::ls.map fun _=>([]:List Nat))).flatten=fv:=by
        rw[List.flatten_cons]
        have:(ls.map fun _=>([]:List Nat)).flatten= []:=by simp
        rw[this,List.append_nil]
       unfold Oper.wp
       rw[F9 gz hS1]
       simp only[Oper.upon]
       rw[hxs,List.map_cons]
       have hargs:qd w (.a (.sl t l)::ls) (a.eval x::r.map a.eval) (fv::ls.map fun _=> []):=⟨fv,_,Ns,DU g hls,rfl⟩
       refine(hS2 w _ (fv::ls.map fun _=> []) hN (by rw[RG];exact fun b h0 hb=>hA.free (abj b hb) h0) hargs (by rw[RG];exact RC)).mono ?_
       rintro e w' ⟨ke,rfl,hk,⟨Nx,fr,Y0,_,rfl⟩,RH,hsub⟩
       rw[RG]at hk
       rw[List.flatten_cons]at RH
       obtain⟨m1,_,_⟩:=List.nodup_append.1 RH.nodup
       have LV:Own 0 w' Nx:=⟨m1,fun _ _=>Nat.zero_le _,fun y hy=>RH.kind y (List.mem_append_left _ hy)⟩
       obtain⟨env',hk2,hg'⟩:=RE w' Nx hk Y0 LV hsub.1
       exact⟨v0,env',rfl,hk2,hg',rfl,rfl,hv0⟩
      ·cases h
     ·cases h
    ·cases h
   ·cases h
  ·cases h
 ·cases h
def evs(Γ:Nat→TK)(st:St):Op→Option (List Prop×St)
 | .store t x y=>match iO st [] x,iO st [] y with
   |some (.a (.BY n (some (i,o2,j)) tg _ off)),some v=>match look st.hp n with
    |some (.arr g l0)=>match fits (Γ t) v,takes st (cellsOf v),yp (dec g (l0.getD i (au g))) o2 with
     |true,some (cv,[]),some (.sl t' l')=>match jj tg t' l' with
      |some l=>match Ln (dec tg (l.getD j (au tg))) off cv with
       |some d=>match enc tg d with
        |some (VD,y')=>match Ln (dec g (l0.getD i (au g))) o2 [.sl tg (l.set j y')]with
         |some c=>match enc g c with
          |some (pO,x')=>some (pO++VD,st.upd [(n, .arr g (l0.set i x'))])
          |none=>none
         |none=>none
        |none=>none
       |none=>none
      |none=>none
     |_,_,_=>none
    |_=>none
   |_,_=>none
 |_=>none
theorem Y3{Γ:Nat→TK}(C: ∀t,cA P t (Γ t))(Z: ∀t,(∀z tg fo,Γ t≠ .st z tg fo)→Γ t≠ .other→(P.info? t).map (·.size)=some 1){vc:List Prop}(h:evs Γ st o.op=some (vc,st'))(g:Good ty zb st a.tmps w env)(hB:zb.w.heap.size≤w.heap.size)(hv: ∀q,q∈vc→q):
  o.wp P a w (fun a' w'=> ∃env',a'=a.put o.dst undef∧Kept zb w w'∧Good ty zb st' a.tmps w' env'∧st'.n=st.n) Q:=by
 have hop: ∀{x v},iO st [] x=some v→fP w st.hp env v (a.eval x):=fun hx=>fC g (fun e he=>by simp at he) hx
 generalize gz:o.op=op at h
 cases op with
 |store t x y=>
  simp only[evs]at h
  split at h
  case h_2=>cases h
  rename_i n i o2 j tg xx off v hx hy
  have hx:=hop hx
  have hy:=hop hy
  split at h
  case h_2=>cases h
  rename_i gt l0 hl
  split at h
  case h_2=>cases h
  rename_i cv t' l' hfit Pr Jj
  split at h
  case h_2=>cases h
  rename_i l hcast
  split at h
  case h_2=>cases h
  rename_i d hs1
  split at h
  case h_2=>cases h
  rename_i VD y' he1
  split at h
  case h_2=>cases h
  rename_i c Da
  split at h
  case h_2=>cases h
  rename_i pO x' yE
  simp only[Option.some.injEq,Prod.mk.injEq]at h
  obtain⟨rfl,rfl⟩:=h
  obtain⟨_,_,_,_,_,_,_,_,_,_,_,hpos⟩:=hx
  obtain⟨l3,u0,b0,pN,len,cap,hRV,hj,_,Ny,hu⟩:=hpos i o2 j rfl
  have Rw:l3=l:=by
   obtain⟨_,_,hpv⟩:=hRV
   obtain⟨t1,l1,_,_,_,_,nj,_,hel,_⟩:=hpv i o2 rfl
   rw[hl]at nj
   simp only[Option.some.injEq,Obj.arr.injEq]at nj
   obtain⟨rfl,nj⟩:=nj
   cases nj
   rw[hel]at Jj
   simp only[Option.some.injEq,V.sl.injEq]at Jj
   obtain⟨rfl,Jj⟩:=Jj
   cases Jj
   obtain⟨e,rfl⟩:=dK hcast
   rfl
  subst Rw
  obtain⟨fv,Ns,_,hown,RE⟩:=DV (pv:=fun _=>⟨u0,[]⟩) g hB hRV hl Da yE (fun q hq=>hv q (by simp[hq]))
  obtain⟨oa,abc,oK,wV,Nu,h3⟩:=Ns
  rcases h3 with⟨rfl,_⟩| ⟨b,o1,bh,Lp,aM,ig,hE⟩
  ·simp at hj
  rw[Ny,Lp]at oK
  simp only[Value.slice.injEq,Option.some.injEq,Addr.mk.injEq,and_true]at oK
  obtain⟨⟨rfl,rfl⟩,rfl,rfl⟩:=oK
  have XI:l3[j]? =some (l3.getD j (au tg)):=by rw[List.getD_eq_getElem?_getD,List.getElem?_eq_getElem hj];rfl
  obtain⟨f,hf⟩:=ji hE.1 XI
  obtain⟨cs,B5,YQ⟩:=hE.2 _ _ f XI hf
  have hlen:=(eK tg).len YQ
  rw[ig]at hown
  have rL:=List.nodup_cons.1 hown.nodup
  obtain⟨fx,hrx,hox,Lj⟩:=yC g (jI g hy (fF Pr)) Pr List.nodup_nil
  have adN:fx= []:=by
   cases fx with
   |nil=>rfl
   |cons y r=>obtain⟨m,_,hm,_⟩:=Lj y (by simp);simp at hm
  subst adN
  obtain⟨f1,f2,f3,Nn,hrd,hlo⟩:=bW.Ln (reads tg YQ) hrx hs1
  have hEn:=tJ tg he1 (fun q hq=>hv q (by simp[hq])) hrd
  have hsz:(P.info? t).map (·.size)=some (a.eval y).cells.toList.length∧ ∀u,u∈(a.eval y).cells.toList→u.oneCell'=true:=by
   refine⟨?_,vr g (jI g hy (fF Pr)) (qc (fF Pr))⟩
   cases v with
   |agg c'=>
    obtain⟨z,tg',fo,hk,hfit⟩:=Jd hfit
    have hC:=C t
    rw[hk]at hC
    obtain⟨fs,_,hi2,_⟩:=hC
    obtain⟨us,Vx,Lr⟩:=hy
    have:=Nat.eq_of_beq_eq_true hfit
    have Rw:=Lr.len
    rw[Vx]
    cases hq:P.info? t with
    |none=>simp[hq]at hi2
    |some inf=>simp[hq]at hi2;simp[hi2.1,Value.cells,Rw,this]
   |a v'=>
    have hk:=Je hfit
    have hne:v'≠ .any:=by rintro rfl;simp[cellsOf,takes]at Pr
    have:=jR g (show RA w st.hp env v' (a.eval y)from hy) hne
    rw[this]
    exact Z t hk.1 hk.2
  obtain⟨cb,eb,DR⟩:=hown.kind b0 (by simp)
  have Vb:w.there b0 (pN+j*kk tg+off) (a.eval y).cells.toList.length:=by
   refine LH DR _ _ ?_
   have Ar:pN+j*kk tg+cs.length≤cb.size:=by
    have gS:=gQ tg
    have:=B5 (cs.length-1) _ (List.getElem?_eq_getElem (by omega))
    rw[IU DR]at this
    have:=(Array.getElem?_eq_some_iff.1 this).1
    omega
   omega
  have hkeep: ∀x,x≠b0→(w.setCells b0 (pN+j*kk tg+off) (a.eval y).cells.toList).heap[x]? =w.heap[x]? :=fun x hx=>cH b0 _ _ w x hx
  have Pp: ∀x,x∈bh.flatten→x≠b0:=fun x hx e=>rL.1 (e▸hx)
  have wF: ∀x,x∈f1++([]++f3)→x∈f:=by
   intro x hx
   rw[Nn]
   rcases List.mem_append.1 hx with hx|hx
   ·exact List.mem_append_left _ hx
   ·rw[List.nil_append]at hx;exact List.mem_append_right _ (List.mem_append_right _ hx)
  have O6:eS w (w.setCells b0 (pN+j*kk tg+off) (a.eval y).cells.toList) (f1++([]++f3)):=fun x hx=>hkeep x (Pp x (cC hf (wF x hx)))
  have Pt:=Au (eK tg) (w':=w.setCells b0 (pN+j*kk tg+off) (a.eval y).cells.toList) hE (i:=j) (x':=y') (f':=f1++([]++f3))
   (tR B5 hlo Vb) ((eK tg).bu hEn O6)
   (fun j1 cs' Rt Ar hr=>World.rangeAt_setCells_apart hr _ _ _ (Or.inr (by
    rw[Ar]
    rcases Nat.lt_or_ge j1 j with h1|h1
    ·left
     have:=Nat.mul_le_mul_right (kk tg) (show j1+1≤j by omega)
     rw[Nat.add_mul]at this;omega
    ·right
     have:=Nat.mul_le_mul_right (kk tg) (show j+1≤j1 by omega)
     rw[Nat.add_mul]at this;omega)))
   (fun j1 f' _ hf' x hx=>hkeep x (Pp x (cC hf' hx)))
  have YR:(f1++([]++f3)).Nodup:=by
   have h1:=(List.pairwise_flatten.1 rL.2).1 f (List.mem_of_getElem? hf)
   rw[Nn]at h1
   obtain⟨h2,h3,h4⟩:=List.nodup_append.1 h1
   obtain⟨_,h6,_⟩:=List.nodup_append.1 h3
   rw[List.nil_append]
   exact List.nodup_append.2 ⟨h2,h6,fun x hx z hz=>h4 x hx z (List.mem_append_right _ hz)⟩
  have hmem: ∀x,x∈(bh.set j (f1++([]++f3))).flatten→x∈bh.flatten:=by
   intro x hx
   rcases tS hx with h| ⟨j1,f',_,Rt,h⟩
   ·exact cC hf (wF x h)
   ·exact cC Rt h
  have hO':Own 0 (w.setCells b0 (pN+j*kk tg+off) (a.eval y).cells.toList) (b0::(bh.set j (f1++([]++f3))).flatten):=by
   refine⟨List.nodup_cons.2 ⟨fun hm=>rL.1 (hmem b0 hm),pQ rL.2 YR fun j1 f' Rt hf' x hx hx'=>vv rL.2 hf' hf Rt x hx (wF x hx')⟩,fun _ _=>Nat.zero_le _,fun x hx=> ?_⟩
   rcases List.mem_cons.1 hx with rfl|hx
   ·obtain⟨c',q1,_⟩:=eP x eb (a.eval y).cells.toList (pN+j*kk tg+off) w cb DR
    exact⟨_,_,q1⟩
   ·rw[hkeep x (Pp x (hmem x hx))];exact hown.kind x (List.mem_cons_of_mem _ (hmem x hx))
  have Rx:Kept ⟨w,fv,fun _=>⟨u0,[]⟩⟩ w (w.setCells b0 (pN+j*kk tg+off) (a.eval y).cells.toList):=
   DL (zb:=⟨w,fv,fun _=>⟨u0,[]⟩⟩) (Or.inl (by rw[ig];simp)) DR _ _
  have hrun:(storeVar t ⟨b0,pN+j*kk tg+off,none⟩ (a.eval y)).run P w= .ok () (w.setCells b0 (pN+j*kk tg+off) (a.eval y).cells.toList):=rJ (by simp) Vb hsz.1 hsz.2
  obtain⟨env',hk2,hg'⟩:=RE _ (b0::(bh.set j (f1++([]++f3))).flatten) Rx
   ⟨some ⟨b0,pN,none⟩,cap,by rw[Ny,List.length_set],by rw[List.length_set];exact wV,Nu,Or.inr ⟨b0,pN,_,rfl,by rw[lU];exact aM,rfl,Pt⟩⟩ hO'
   (fun y hy=>by
    rw[ig]
    rcases List.mem_cons.1 hy with rfl|hy
    ·simp
    ·exact List.mem_cons_of_mem _ (hmem y hy))
  unfold Oper.wp execOp
  simp only[gz,hu,Instr.storeAt,Instr.sureAddr,Sem.run_bind,Sem.run_pure,Result.andThen_ok,hrun]
  exact⟨env',rfl,hk2,hg',rfl⟩
 |_=>simp[evs]at h
end
end
section
variable{ty:Tag→Nat}
def VE(st:St):List V→Option (List V×List Nat)
 | []=>some ([],[])
 | .lit (.slice _ _ _)::_=>none
 | .lit v::r=>match VE st r with|some (c,k)=>some (.lit v::c,k)|none=>none
 | .sl t l::r=>match VE st r with|some (c,k)=>some (.sl t l::c,k)|none=>none
 | .own n::r=>match look st.hp n,VE st r with
   |some (.arr t l),some (c,k)=>some (.sl t l::c,n::k)
   |_,_=>none
 |_=>none
def DW(st:St)(g:Tag):Nat→List (Nat×Operand)→Option (List Prop×List (T g)×List Nat)
 |_,[]=>some ([],[],[])
 |i,(j,x)::r=>match Nat.beq i j,iO st [] x with
  |true,some s=>match VE st (cellsOf s)with
   |some (c,k)=>match enc g c,DW st g (i+1) r with
    |some (vc,y),some (vcs,ys,ks)=>some (vc++vcs,y::ys,k++ks)
    |_,_=>none
   |none=>none
  |_,_=>none
def efz(P:Program)(ty:Tag→Nat)(Γ:Nat→TK)(st:St):Op→Option (List Prop×St×SV)
 | .buildSlice t len parts=>match Γ t with
   | .sl g e=>match Nat.beq e (ty g),Nat.beq parts.toList.length len,Nat.ble (len*kk g) 16777216,DW st g 0 parts.toList with
     |true,true,true,some (vc,xs,ks)=>match pP ks&& !pinned ks with
      |true=>some (El P ty g::vc,⟨st.n,st.sl.map fun e=>(e.1,e.2.bE ks []),cE ks [] st.hp⟩, .one (.a (.sl g xs)))
      |_=>none
     |_,_,_,_=>none
   |_=>none
 |_=>none
section
variable{P:Program}{zb:bY}{st:St}{a:Act}{w:World}{env:Env}{Q:Exit→Act→World→Prop}{o:Oper}
theorem vA{st:St}: ∀{l c:List V} {k:List Nat},VE st l=some (c,k)→tM l=true
 | [],_,_,_=>rfl
 |v::r,c,k,h=>by
  unfold VE at h
  split at h
  ·rename_i he;cases he
  ·cases h
  ·rename_i x r' _ he
   simp only[List.cons.injEq]at he
   obtain⟨rfl,rfl⟩:=he
   split at h
   ·rename_i h';have h2:=vA h';exact h2
   ·cases h
  ·rename_i t l r' he
   simp only[List.cons.injEq]at he
   obtain⟨rfl,rfl⟩:=he
   split at h
   ·rename_i h';have h2:=vA h';exact h2
   ·cases h
  ·rename_i n r' he
   simp only[List.cons.injEq]at he
   obtain⟨rfl,rfl⟩:=he
   split at h
   ·rename_i h';have h2:=vA h';exact h2
   ·cases h
  ·cases h
theorem Hv(g:Good ty zb st a.tmps w env): ∀{l c:List V} {k:List Nat} {us:List Value},bt (RA w st.hp env) l us→VE st l=some (c,k)→
  ∃fp,bW w c us fp∧ ∀b,b∈fp→b<w.heap.size∧(¬Ow st.hp env b∨ ∃i o,i∈k∧look st.hp i=some o∧b∈(env i).fp)
 | [],c,k,us,hr,h=>by
   simp only[VE,Option.some.injEq,Prod.mk.injEq]at h
   obtain⟨rfl,rfl⟩:=h
   cases us with
   |nil=>exact⟨[],rfl,by simp⟩
   |cons _ _=>exact hr.elim
 |v::r,c,k,us,hr,h=>by
  cases us with
  |nil=>exact hr.elim
  |cons u us=>
   unfold VE at h
   split at h
   ·rename_i he;cases he
   ·cases h
   ·rename_i x r' _ he
    simp only[List.cons.injEq]at he
    obtain⟨rfl,rfl⟩:=he
    split at h
    ·rename_i c' k' h'
     simp only[Option.some.injEq,Prod.mk.injEq]at h
     obtain⟨rfl,rfl⟩:=h
     obtain⟨fp,h1,h3⟩:=Hv g hr.2 h'
     obtain⟨e1,e2⟩:=hr.1
     exact⟨fp,⟨[],fp,⟨e1,e2,rfl⟩,h1,rfl⟩,h3⟩
    ·cases h
   ·rename_i t l r' he
    simp only[List.cons.injEq]at he
    obtain⟨rfl,rfl⟩:=he
    split at h
    ·rename_i c' k' h'
     simp only[Option.some.injEq,Prod.mk.injEq]at h
     obtain⟨rfl,rfl⟩:=h
     obtain⟨fp,h1,h3⟩:=Hv g hr.2 h'
     obtain⟨f0,k1,k2⟩:=hr.1
     refine⟨f0++fp,⟨f0,fp,k1,h1,rfl⟩,fun b hb=> ?_⟩
     rcases List.mem_append.1 hb with hb|hb
     ·exact⟨Sl.lt (eK t) k1 b hb,Or.inl (k2 b hb)⟩
     ·exact h3 b hb
    ·cases h
   ·rename_i n r' he
    simp only[List.cons.injEq]at he
    obtain⟨rfl,rfl⟩:=he
    split at h
    ·rename_i t l c' k' hl h'
     simp only[Option.some.injEq,Prod.mk.injEq]at h
     obtain⟨rfl,rfl⟩:=h
     obtain⟨fp,h1,h3⟩:=Hv g hr.2 h'
     obtain⟨_,rfl⟩:=hr.1
     have hb:=RO.sl (g.obj n _ hl)
     refine⟨(env n).fp++fp,⟨_,_,hb,h1,rfl⟩,fun b hb=> ?_⟩
     rcases List.mem_append.1 hb with hb|hb
     ·exact⟨(g.obj n _ hl).wQ b hb,Or.inr ⟨n,_,by simp,hl,hb⟩⟩
     ·obtain⟨q1,q2⟩:=h3 b hb
      refine⟨q1,q2.imp id ?_⟩
      rintro⟨i,o,hi,h4,h5⟩
      exact⟨i,o,List.mem_cons_of_mem _ hi,h4,h5⟩
    ·cases h
   ·cases h
theorem Gc(g:Good ty zb st a.tmps w env){t:Tag}: ∀{ps:List (Nat×Operand)} {i:Nat} {vc:List Prop} {xs:List (T t)} {ks:List Nat},DW st t i ps=some (vc,xs,ks)→(∀q,q∈vc→q)→
  (ps.map fun p=>(p.1,a.eval p.2))=vS i (ps.map fun p=>a.eval p.2)∧xs.length=ps.length∧ ∃bh:List (List Nat),bh.length=xs.length∧
   (∀(i:Nat) (x:T t) (f:List Nat),xs[i]? =some x→bh[i]? =some f→ ∃p:Nat×Operand,ps[i]? =some p∧rd t w (a.eval p.2).cells.toList x f)∧ ∀b,b∈bh.flatten→b<w.heap.size∧(¬Ow st.hp env b∨ ∃i o,i∈ks∧look st.hp i=some o∧b∈(env i).fp)
 | [],i,vc,xs,ks,h,_=>by
   simp only[DW,Option.some.injEq,Prod.mk.injEq]at h
   obtain⟨rfl,rfl,rfl⟩:=h
   exact⟨rfl,rfl,[],rfl,by simp,by simp⟩
 | (j,x)::r,i,vc,xs,ks,h,hv=>by
   simp only[DW]at h
   split at h
   ·rename_i s hij hx
    have hij:=Nat.eq_of_beq_eq_true hij
    subst hij
    split at h
    ·rename_i c k hc
     split at h
     ·rename_i pO y vcs ys ks1 he hb
      simp only[Option.some.injEq,Prod.mk.injEq]at h
      obtain⟨rfl,rfl,rfl⟩:=h
      obtain⟨q1,q2,bh,q3,q4,q6⟩:=Gc g hb (fun q hq=>hv q (List.mem_append_right _ hq))
      obtain⟨fp,r1,r3⟩:=Hv g (jI g (fC g (fun e he=>by simp at he) hx) (vA hc)) hc
      have hE:=tJ t he (fun q hq=>hv q (List.mem_append_left _ hq)) r1
      refine⟨by simp[vS,q1],by simp[q2],fp::bh,by simp[q3],?_,?_⟩
      ·intro i' x' f hx' hf
       cases i' with
       |zero=>simp at hx' hf;subst hx';subst hf;exact⟨(i,x),rfl,hE⟩
       |succ n=>simp at hx' hf;obtain⟨p,h1,h2⟩:=q4 n x' f hx' hf;exact⟨p,by simpa using h1,h2⟩
      ·intro b hb
       rw[List.flatten_cons]at hb
       rcases List.mem_append.1 hb with hb|hb
       ·obtain⟨z1,z2⟩:=r3 b hb
        exact⟨z1,z2.imp id fun⟨n,o1,h1,h2,h3⟩=>⟨n,o1,List.mem_append_left _ h1,h2,h3⟩⟩
       ·obtain⟨z1,z2⟩:=q6 b hb
        exact⟨z1,z2.imp id fun⟨n,o1,h1,h2,h3⟩=>⟨n,o1,List.mem_append_right _ h1,h2,h3⟩⟩
     ·cases h
    ·cases h
   ·cases h
theorem run_frozen{t len:Nat}{parts:Array (Nat×Operand)}(ho:o.op= .buildSlice t len parts){g:Tag}(hu:P.underlying t=some (.slice (ty g)))(sH:El P ty g)(DE:len*kk g≤16777216)(hlen:parts.toList.length=len)
  {xs:List (T g)}{bh:List (List Nat)}(q1:(parts.toList.map fun p=>(p.1,a.eval p.2))=vS 0 (parts.toList.map fun p=>a.eval p.2))(q2:xs.length=parts.toList.length)(q3:bh.length=xs.length)
  (q4: ∀(i:Nat) (x:T g) (f:List Nat),xs[i]? =some x→bh[i]? =some f→ ∃p:Nat×Operand,parts.toList[i]? =some p∧rd g w (a.eval p.2).cells.toList x f):
  ∃w',(execOp a.eval o).run P w= .ok (.value (.slice (some ⟨w.heap.size,0,none⟩) len len)) w'∧Below w.heap.size w w'∧Sl (kk g) (rd g) w' (.slice (some ⟨w.heap.size,0,none⟩) len len) xs (w.heap.size::bh.flatten):=by
 have hkp:=gQ g
 have Ar: ∀v,v∈(parts.toList.map fun p=>a.eval p.2)→v.cells.size=kk g:=by
  intro v hv
  obtain⟨i,hi⟩:=List.getElem?_of_mem hv
  have hil:i<xs.length:=by have:=(List.getElem?_eq_some_iff.1 hi).1;simp at this;rw[q2];simpa using this
  have hfl:i<bh.length:=by omega
  obtain⟨p,h1,h2⟩:=q4 i xs[i] bh[i] (List.getElem?_eq_getElem hil) (List.getElem?_eq_getElem hfl)
  rw[List.getElem?_map,h1]at hi
  simp at hi
  subst hi
  simpa using(eK g).len h2
 cases hq:P.info? (ty g)with
 |none=>simp[El,hq]at sH
 |some inf=>
  simp[El,hq]at sH
  obtain⟨z1,z2,z3⟩:=sH
  let zs:List Value:=(List.range (len*kk g)).map fun j=>(if len*kk g=0 then #[]else(eZ g).cells)[j % (if len*kk g=0 then #[]else(eZ g).cells).size]!
  have hzl:zs.length=len*kk g:=by simp[zs]
  have hf:=DD (k:=kk g) (parts.toList.map fun p=>a.eval p.2) 0 zs Ar (by rw[hzl,List.length_map,hlen,Nat.zero_add])
  rw[Nat.zero_mul,List.take_zero,List.nil_append]at hf
  have hrun:(execOp a.eval o).run P w= .ok (.value (.slice (some ⟨w.heap.size,0,none⟩) len len)) (w.alloc (.cells (Array.mk ((parts.toList.map fun p=>a.eval p.2).flatMap fun v=>v.cells.toList)) (ty g) (0,0))):=by
   unfold execOp
   have oD:(parts.map fun(p:Nat×Operand)=>(p.1,a.eval p.2)).toList=vS 0 (parts.toList.map fun p=>a.eval p.2):=by
    rw[Array.toList_map];exact q1
   have hzs:((Array.range (len*kk g)).map fun j=>(if len*kk g=0 then #[]else(eZ g).cells)[j % (if len*kk g=0 then #[]else(eZ g).cells).size]!)=Array.mk zs:=by
    simp only[zs]
    apply Array.ext'
    simp
   have hze:(sizeOf (ty g)).run P w= .ok (kk g) w:=by simp[sizeOf,typeInfo,hq,z2]
   simp only[ho,Instr.buildSlice,Sem.run_bind,run_underlying hu,Result.andThen_ok,hze]
   rw[if_neg (by omega)]
   by_cases hz0:len*kk g=0
   ·simp only[if_pos hz0]at hzs ⊢
    simp only[Sem.run_bind,Sem.run_pure,Result.andThen_ok]
    rw[hzs,oD,hf]
    simp[newRow]
   ·have hzv:(zeroValue (ty g)).run P w= .ok (eZ g) w:=by simp[zeroValue,typeInfo,hq,z1]
    simp only[if_neg hz0]at hzs ⊢
    simp only[Sem.run_bind,hzv,Sem.run_pure,Result.andThen_ok]
    rw[hzs,oD,hf]
    simp[newRow]
  have hps:((parts.toList.map fun p=>a.eval p.2).flatMap fun v=>v.cells.toList)=((parts.toList.map fun p=>(a.eval p.2).cells.toList).flatMap id):=by
   simp[List.flatMap_map]
  have Rk: ∀v,v∈(parts.toList.map fun p=>(a.eval p.2).cells.toList)→v.length=kk g:=by
   intro v hv
   obtain⟨p,hp,rfl⟩:=List.mem_map.1 hv
   simpa using Ar _ (List.mem_map.2 ⟨p,hp,rfl⟩)
  have F3:=tQ Rk
  rw[List.length_map,hlen]at F3
  have hb0:Below w.heap.size w (w.alloc (.cells (Array.mk ((parts.toList.map fun p=>a.eval p.2).flatMap fun v=>v.cells.toList)) (ty g) (0,0))):=(Below.refl _ _).alloc (Nat.le_refl _) _
  have abl:=nB (w:=w) (o:= .cells (Array.mk ((parts.toList.map fun p=>a.eval p.2).flatMap fun v=>v.cells.toList)) (ty g) (0,0)) (k:=w.heap.size) rfl
  refine⟨_,hrun,hb0,some ⟨w.heap.size,0,none⟩,len,by rw[q2,hlen],by rw[q2,hlen];exact Nat.le_refl _,?_,Or.inr ⟨w.heap.size,0,bh,rfl,Q2 abl,rfl,q3,?_⟩⟩
  ·unfold maxLen;have:=Nat.le_mul_of_pos_right len hkp;omega
  ·intro i x f hx Nn
   obtain⟨p,h1,h2⟩:=q4 i x f hx Nn
   have hkey:(((parts.toList.map fun p=>a.eval p.2).flatMap fun v=>v.cells.toList).drop (i*kk g)).take (kk g)=(a.eval p.2).cells.toList:=by
    rw[hps];exact tP Rk (by rw[List.getElem?_map,h1];rfl)
   refine⟨_,Ve abl _ _ fun j v hv=> ?_,(eK g).below h2 hb0⟩
   rw[←hkey]at hv
   rw[List.getElem?_take]at hv
   split at hv
   ·rw[List.getElem?_drop]at hv
    rw[Nat.zero_add,List.getElem?_toArray]
    exact hv
   ·cases hv
theorem Pw(g:Good ty zb st a.tmps w env){ks:List Nat}{w':World}(hb:Below w.heap.size w w'):Good ty zb ⟨st.n,st.sl.map fun e=>(e.1,e.2.bE ks []),cE ks [] st.hp⟩ a.tmps w' env:=by
 have hlk: ∀m o,look (cE ks [] st.hp) m=some o→m∉ks∧ ∃o',look st.hp m=some o'∧o=o'.bE ks []:=by
  intro m o hm
  rw[bT]at hm
  split at hm
  ·cases hm
  ·rename_i hks
   cases hq:look st.hp m with
   |none=>rw[hq]at hm;cases hm
   |some o'=>rw[hq]at hm;simp only[Option.map_some,Option.some.injEq]at hm;exact⟨hks,o',rfl,hm.symm⟩
 have s:sS ks [] w st.hp env w' (cE ks [] st.hp) env:=by
  refine⟨fun b hlt _=>hb.block b hlt,?_,?_,?_⟩
  ·rintro b hlt ⟨m,o',h1,h2⟩
   obtain⟨_,B6,h3,rfl⟩:=hlk m o' h1
   exact⟨m,B6,h3,h2⟩
  ·intro m o' hks h1
   exact⟨o'.bE ks [],by rw[bT,if_neg hks,h1];rfl,by cases o'<;>simp[Obj.like,Obj.bE],rfl⟩
  ·rintro m t' l' ⟨hks,_⟩ h1
   exact⟨by rw[bT,if_neg hks,h1];rfl,rfl,fun b Ga=>hb.block b ((g.obj m _ h1).wQ b Ga)⟩
 refine g.jl s (fun m o' hm=> ?_) (fun m m' o1 o2 hne h1 h2 b Ga hb'=> ?_) (fun m o' hm b Ga=> ?_) g.pins
 ·obtain⟨hks,B6,h3,rfl⟩:=hlk m o' hm
  exact(g.obj m B6 h3).jl s fun b Ga=>hb.block b ((g.obj m B6 h3).wQ b Ga)
 ·obtain⟨_,q1,h3,_⟩:=hlk m o1 h1
  obtain⟨_,q2,h4,_⟩:=hlk m' o2 h2
  exact g.kW m m' _ _ hne h3 h4 b Ga hb'
 ·obtain⟨_,q1,h3,_⟩:=hlk m o' hm
  exact g.dom m q1 h3 b Ga
theorem Y4{Γ:Nat→TK}(C: ∀t,cA P t (Γ t)){vc:List Prop}{st':St}{v:SV}(h:efz P ty Γ st o.op=some (vc,st',v))(g:Good ty zb st a.tmps w env)(hB:zb.w.heap.size≤w.heap.size)(hv: ∀q,q∈vc→q):
  o.wp P a w (fun a' w'=> ∃u env',a'=a.put o.dst u∧Kept zb w w'∧Good ty zb st' a.tmps w' env'∧st'.n=st.n∧p8 w' st'.hp env' a.tmps v u) Q:=by
 generalize gz:o.op=op at h
 cases op with
 |buildSlice t len parts=>
  simp only[efz]at h
  split at h
  ·rename_i gt e hk
   split at h
   ·rename_i pO xs ks he hlen DE hb
    have he:=Nat.eq_of_beq_eq_true he
    split at h
    ·rename_i hnd
     simp only[Option.some.injEq,Prod.mk.injEq]at h
     obtain⟨rfl,rfl,rfl⟩:=h
     have sH:El P ty gt:=hv _ (by simp)
     obtain⟨q1,q2,bh,q3,q4,q6⟩:=Gc g hb (fun q hq=>hv q (by simp[hq]))
     have hC:=C t
     rw[hk,he]at hC
     obtain⟨w',r1,r2,r3⟩:=run_frozen (P:=P) (w:=w) (a:=a) gz hC.1 sH (Nat.le_of_ble_eq_true DE) (Nat.eq_of_beq_eq_true hlen) q1 q2 q3 q4
     have hg':=Pw g (ks:=ks) r2
     unfold Oper.wp
     rw[r1]
     refine⟨_,env,rfl,jF r2 hB,hg',rfl,_,r3,?_⟩
     rintro b Ga ⟨m,o',h1,h2⟩
     rw[bT]at h1
     split at h1
     ·cases h1
     ·rename_i hks
      cases hq:look st.hp m with
      |none=>rw[hq]at h1;cases h1
      |some B6=>
       have hlt:=(g.obj m B6 hq).wQ b h2
       rcases List.mem_cons.1 Ga with rfl|Ga
       ·omega
       ·rcases(q6 b Ga).2 with h3| ⟨i,oi,hi,h4,h5⟩
        ·exact h3 ⟨m,B6,hq,h2⟩
        ·exact g.kW m i _ _ (fun e=>hks (e▸hi)) hq h4 b h2 h5
    ·cases h
   ·cases h
  ·cases h
 |_=>simp[efz]at h
end
end
section
variable{ty:Tag→Nat}
def inv:List (Nat×Nat)→Nat→Option Nat
 | [],_=>none
 | (n,m)::r,k=>match Nat.beq k m with|true=>some n|false=>inv r k
def V.toF(ρ:List (Nat×Nat)):V→V
 | .lit v=> .lit v
 | .sl t l=> .sl t l
 | .own m=>match inv ρ m with|some n=> .own n|none=> .any
 | .ptr m o=>match inv ρ m with|some n=> .ptr n o|none=> .any
 | .Aj f m=>match inv ρ m with|some n=> .Aj f n|none=> .any
 | .fY v t l=> .fY v t l
 |_=> .any
def Obj.toF(ρ:List (Nat×Nat)):Obj→Obj
 | .box c=> .box (c.map (V.toF ρ))
 | .arr t l=> .arr t l
 | .lZ t l _=> .lZ t l .gone
def yF(st:St)(ρ:List (Nat×Nat)):List (Nat×Nat)→Option Hp
 | []=>some []
 | (n,m)::r=>match look st.hp m, !jk m||jk n, !soft m||soft n,yF st ρ r with
   |some o,true,true,some h=>some ((n,o.toF ρ)::h)
   |_,_,_,_=>none
def VF(st:St)(ρ:List (Nat×Nat))(tg:Option Tag)(v:V):Option V:=match v.name with
 |some m=>match inv ρ m with
  |some n=>match v with
   | .own _=>some (.own n)
   | .ptr _ o=>some (.ptr n o)
   | .Aj f _=>some (.Aj f n)
   |_=>none
  |none=>match v with
   | .mix _ _ _ _=>none
   | .Ag _=>none
   |v=>oB st tg v
 |none=>oB st tg v
def Jk(st:St)(ρ:List (Nat×Nat)):List (Option Tag)→List V→Option (List V)
 |_,[]=>some []
 |tg,v::r=>match VF st ρ (match tg with|t::_=>t| []=>none) v,Jk st ρ (match tg with|_::ts=>ts| []=> []) r with
  |some x,some y=>some (x::y)
  |_,_=>none
def V.XJ:V→Bool
 | .fY _ _ _=>true
 |_=>false
def Y5(st:St)(ρ:List (Nat×Nat))(k:TK):S1→Option S1
 | .a v=>match v.XJ with
   |true=>some (.a v)
   |false=>match VF st ρ (match k with| .sl t _=>some t|_=>none) v with|some x=>some (.a x)|none=>none
 | .agg l=>match Jk st ρ (match k with| .st _ tg _=>tg|_=> []) l with|some x=>some (.agg x)|none=>none
def Jl(Γ:Nat→TK)(st:St)(ρ:List (Nat×Nat)):List Operand→List Nat→Option (List S1)
 | [],_=>some []
 |x::r,t=>match Lm st [] x with
  |some v=>match Y5 st ρ (match t with|t::_=>Γ t| []=> .other) v,Jl Γ st ρ r (match t with|_::ts=>ts| []=> [])with
   |some y,some ys=>some (y::ys)
   |_,_=>none
  |none=>none
def Hw(st:St)(ρ:List (Nat×Nat))(x:Operand):Option (FuncId×List S1):=match iO st [] x with
 |some (.a (.Aj f m))=>match inv ρ m with|some n=>some (f,[.a (.ptr n 0)])|none=>none
 |some v=>match Vi v with|some f=>some (f,[])|none=>none
 |none=>none
def Y6:List V→Option (List (Nat×Nat))
 | []=>some []
 | .ptr n m::r=>match Y6 r with|some l=>some ((n,m)::l)|none=>none
 |_=>none
def abm:List V→Option (List Nat)
 | []=>some []
 | .own n::r=>match abm r with|some l=>some (n::l)|none=>none
 |_=>none
def RJ:List Nat→List S1→Option Hp
 | [],[]=>some []
 |n::ns, .a (.sl t l)::r=>match RJ ns r with|some h=>some ((n, .arr t l)::h)|none=>none
 |n::ns, .agg c::r=>match RJ ns r with|some h=>some ((n, .box c)::h)|none=>none
 |_,_=>none
def knV:List V→Option V
 | []=>none
 | .fY v t l::_=>some (.fY v t l)
 |_::r=>knV r
def knX(st:St):List Operand→Option V
 | []=>none
 |x::r=>match Lm st [] x with
  |some (.a v)=>match v.XJ with|true=>some v|false=>knX st r
  |_=>knX st r
def knR(st:St):List (Nat×Nat)→Option V
 | []=>none
 | (_,m)::r=>match look st.hp m with
   |some (.box c)=>match knV c with|some v=>some v|none=>knR st r
   |_=>knR st r
def VG(st:St)(xs:List Operand)(ρ:List (Nat×Nat)):Option V:=match knX st xs with|some v=>some v|none=>knR st ρ
def Jm(kn:Option V):V→List Prop
 | .fY v _ _=>match kn with
   |some (.fY u _ _)=> [v=u]
   |_=> [False]
 |_=> []
def RK(kn:Option V):List V→List Prop
 | []=> []
 |v::r=>mO (Jm kn v) (RK kn r)
def LX(kn:Option V):Hp→List Prop
 | []=> []
 | (_, .box c)::r=>mO (RK kn c) (LX kn r)
 |_::r=>LX kn r
def V.toA(kn:Option V)(ρ:List (Nat×Nat)):V→Option V
 | .fY _ _ _=>kn
 | .any=>some .any
 | .lit v=>some (.lit v)
 | .own n=>match look ρ n with|some m=>some (.own m)|none=>none
 | .ptr n o=>match look ρ n with|some m=>some (.ptr m o)|none=>none
 |_=>none
def toAs(kn:Option V)(ρ:List (Nat×Nat)):List V→Option (List V)
 | []=>some []
 |v::r=>match v.toA kn ρ,toAs kn ρ r with|some x,some y=>some (x::y)|_,_=>none
def S1.toA(ρ:List (Nat×Nat)):S1→Option S1
 | .a v=>match v.toA none ρ with|some x=>some (.a x)|none=>none
 | .agg l=>match toAs none ρ l with|some x=>some (.agg x)|none=>none
def VH(ρ:List (Nat×Nat)):List S1→Option (List S1)
 | []=>some []
 |v::r=>match v.toA ρ,VH ρ r with|some x,some y=>some (x::y)|_,_=>none
def Obj.toA(kn:Option V)(ρ:List (Nat×Nat)):Obj→Option Obj
 | .box c=>match toAs kn ρ c with|some x=>some (.box x)|none=>none
 | .arr t l=>some (.arr t l)
 | .lZ _ _ _=>none
def DX(kn:Option V)(ρ:List (Nat×Nat)):Hp→Option (List (Nat×Nat×Obj))
 | []=>some []
 | (n,o)::r=>match look ρ n,o.toA kn ρ,DX kn ρ r with
   |some m,some o',some h=>match !jk m||jk n, !soft n||soft m with|true,true=>some ((n,m,o')::h)|_,_=>none
   |_,_,_=>none
def DY:Option Obj→Bool
 |some (.box _)=>true
 |_=>false
def Jn(ty:Tag→Nat)(w:World)(hp:Hp)(env:Env):Prop:=(∀n o,look hp n=some o→RO ty w hp env n o (env n))∧ ∀n m o o',n≠m→look hp n=some o→look hp m=some o'→ ∀b,b∈(env n).fp→b∉(env m).fp
def yG(hp:Hp)(env:Env):List Nat:=hp.flatMap fun e=>(env e.1).fp
def abp(w:World)(hp:Hp)(env:Env)(rs:List S1)(u:Value):Prop:=match rs with
 | [r]=>fP w hp env r u
 |rs=> ∃us,u= .tuple us.toArray∧bt (fP w hp env) rs us
def dG(ty:Tag→Nat)(P:Program)(f:FuncId)(gG:Hp)(as:List S1)(fu:Hp)(rs:List S1):Prop:=
 (∀(args:Array Value) (w:World),(callFunc f args).run P w= .ok (.enter f args) w)∧
 ∀w env us,FX w→(∀b,IX b→b∉yG gG env)→Jn ty w gG env→bt (fP w gG env) as us→Calls P f us.toArray w fun e w'=> ∃env' u,e= .returned u∧Kept ⟨w,yG gG env,env⟩ w w'∧Jn ty w' fu env'∧
  (∀n o,look fu n=some o→ ∀b,b∈(env' n).fp→b∈yG gG env∨w.heap.size≤b)∧(∀n,jk n=true→(env' n).v=(env n).v∧ ∀b,b∈(env' n).fp→b∈(env n).fp)∧abp w' fu env' rs u
def CF(B:List (Nat×Nat×Obj)):Hp:=B.map fun e=>(e.2.1,e.2.2)
def Fy:List (Nat×Nat×Obj)→Nat→Option Nat
 | [],_=>none
 | (n,m,_)::r,k=>match Nat.beq k m with|true=>some n|false=>Fy r k
def DZ(kv ks:List Nat)(hp:Hp):Hp:=(hp.filter fun e=> !kv.any (Nat.beq e.1)).map fun e=>(e.1,e.2.bE ks kv)
def Hx(hp:Hp):Hp→Bool
 | []=>true
 | (m,_)::r=>(match look hp m with|none=>true|some _=>false)&&Hx hp r
def RL(P:Program)(ty:Tag→Nat)(Γ:Nat→TK)(cr:List (Nat×CR))(st:St)(d:Option Nat):Op→Option (List Prop×St×SV)
 | .call ⟨.value x,xs,ts⟩=>match look cr (d.getD 99999+700000),look cr (d.getD 99999+800000)with
   |some ⟨_, .agg a:: .agg b:: .agg c::os⟩,some ⟨_,rs⟩=>match Y6 a,Y6 b,abm c with
    |some ρ0,some ρ1,some ns=>match RJ ns os,yF st ρ0 ρ0,Hw st ρ0 x,Jl Γ st ρ0 xs.toList ts.toList with
     |some fu,some gG,some (f,ex),some as=>match DX (VG st xs.toList ρ0) (ρ0++ρ1) fu,VH (ρ0++ρ1) rs with
      |some B,some rsA=>match pP ((ρ0++ρ1).map Prod.fst)&&pP (ρ0.map Prod.snd)&&gR fu&&gR (CF B)&&Hx (DZ (ρ0.map Prod.snd) ((ρ0.filter fun e=> !jk e.1).map Prod.snd) st.hp) (CF B)&&ρ0.all (fun e=> !jk e.1|| (DY (look gG e.1)&&DY (look fu e.1)))&&ρ1.all (fun e=> !jk e.2)with
       |true=>some (dG ty P f gG (mO as ex) fu rs::LX (VG st xs.toList ρ0) fu,⟨st.n,st.sl.map fun e=>(e.1,e.2.bE ((ρ0.filter fun e=> !jk e.1).map Prod.snd) (ρ0.map Prod.snd)),CF B++DZ (ρ0.map Prod.snd) ((ρ0.filter fun e=> !jk e.1).map Prod.snd) st.hp⟩,match rsA with| [r]=> .one r|l=> .tK l)
       |false=>none
      |_,_=>none
     |_,_,_,_=>none
    |_,_,_=>none
   |_,_=>none
 |_=>none
theorem nk: ∀{ρ:List (Nat×Nat)} {m n:Nat},inv ρ m=some n→(n,m)∈ρ
 | (a,b)::r,m,n,h=>by
   simp only[inv]at h
   split at h
   ·rename_i hb
    have:=Nat.eq_of_beq_eq_true hb
    simp only[Option.some.injEq]at h
    subst h;subst this;simp
   ·exact List.mem_cons_of_mem _ (nk h)
theorem Jo: ∀{ρ:List (Nat×Nat)} {m:Nat},inv ρ m=none→m∉ρ.map Prod.snd
 | [],_,_=>by simp
 | (a,b)::r,m,h=>by
   simp only[inv]at h
   split at h
   ·cases h
   ·rename_i hb
    have hne:m≠b:=fun e=>by rw[e,Nat.beq_refl]at hb;cases hb
    have:=Jo h
    simp only[List.map_cons,List.mem_cons,not_or]
    exact⟨hne,this⟩
theorem eT{α:Type}: ∀{l:List (Nat×α)} {n:Nat} {x:α},(l.map Prod.fst).Nodup→(n,x)∈l→look l n=some x
 | (j,y)::r,n,x,hnd,h=>by
   obtain⟨h1,h2⟩:=List.nodup_cons.1 hnd
   rcases List.mem_cons.1 h with h'|h'
   ·simp only[Prod.mk.injEq]at h'
    obtain⟨rfl,rfl⟩:=h'
    exact look_eq
   ·have hne:n≠j:=fun e=>h1 (List.mem_map.2 ⟨(n,x),h',e⟩)
    rw[aU hne];exact eT h2 h'
theorem vB: ∀{l:Hp},gR l=true→(l.map Prod.fst).Nodup
 | [],_=>List.nodup_nil
 | (n,x)::r,h=>by
   simp only[gR,Bool.and_eq_true]at h
   refine List.nodup_cons.2 ⟨fun hm=> ?_,vB h.2⟩
   obtain⟨e,he,rfl⟩:=List.mem_map.1 hm
   have:=eT (vB h.2) (show(e.1,e.2)∈r from he)
   rw[this]at h;simp at h
theorem nC: ∀{B:List (Nat×Nat×Obj)} {m:Nat} {o:Obj},look (CF B) m=some o→ ∃n,(n,m,o)∈B∧Fy B m=some n
 | (n,k,x)::r,m,o,h=>by
   have h:look ((k,x)::CF r) m=some o:=h
   by_cases hm:m=k
   ·subst hm
    rw[look_eq]at h
    simp only[Option.some.injEq]at h
    subst h
    exact⟨n,by simp,by simp[Fy]⟩
   ·rw[aU hm]at h
    obtain⟨n',h1,h2⟩:=nC h
    refine⟨n',List.mem_cons_of_mem _ h1,?_⟩
    simp only[Fy]
    cases hb:Nat.beq m k with
    |true=>exact absurd (Nat.eq_of_beq_eq_true hb) hm
    |false=>exact h2
theorem Gd: ∀{B:List (Nat×Nat×Obj)} {m:Nat},look (CF B) m=none→Fy B m=none
 | [],_,_=>rfl
 | (n,k,x)::r,m,h=>by
   have h:look ((k,x)::CF r) m=none:=h
   have hm:m≠k:=by rintro rfl;rw[look_eq]at h;cases h
   rw[aU hm]at h
   simp only[Fy]
   cases hb:Nat.beq m k with
   |true=>exact absurd (Nat.eq_of_beq_eq_true hb) hm
   |false=>exact Gd h
theorem lf{kn:Option V}{ρ:List (Nat×Nat)}: ∀{hp:Hp} {B:List (Nat×Nat×Obj)},DX kn ρ hp=some B→ ∀n m o',(n,m,o')∈B→ ∃o,(n,o)∈hp∧look ρ n=some m∧o.toA kn ρ=some o'∧(jk m=true→jk n=true)∧(soft n=true→soft m=true)
 | [],B,h,n,m,o',hm=>by
   simp only[DX,Option.some.injEq]at h
   subst h;cases hm
 | (k,x)::r,B,h,n,m,o',hm=>by
   simp only[DX]at h
   split at h
   ·rename_i m1 o1 h1 e1 e2 e3
    split at h
    ·rename_i hp hs
     simp only[Option.some.injEq]at h
     subst h
     rcases List.mem_cons.1 hm with h|h
     ·simp only[Prod.mk.injEq]at h
      obtain⟨rfl,rfl,rfl⟩:=h
      refine⟨x,by simp,e1,e2,fun hn=> ?_,fun hn=> ?_⟩
      ·rw[hn]at hp;simpa using hp
      ·rw[hn]at hs;simpa using hs
     ·obtain⟨o,q1,q2⟩:=lf e3 n m o' h
      exact⟨o,List.mem_cons_of_mem _ q1,q2⟩
    ·cases h
   ·cases h
theorem Ge{kn:Option V}{ρ:List (Nat×Nat)}: ∀{hp:Hp} {B:List (Nat×Nat×Obj)},DX kn ρ hp=some B→ ∀n o,(n,o)∈hp→ ∃m o',(n,m,o')∈B∧look ρ n=some m∧o.toA kn ρ=some o'
 | [],B,h,n,o,hm=>by cases hm
 | (k,x)::r,B,h,n,o,hm=>by
   simp only[DX]at h
   split at h
   ·rename_i m1 o1 h1 e1 e2 e3
    split at h
    ·simp only[Option.some.injEq]at h
     subst h
     rcases List.mem_cons.1 hm with h|h
     ·simp only[Prod.mk.injEq]at h
      obtain⟨rfl,rfl⟩:=h
      exact⟨m1,o1,by simp,e1,e2⟩
     ·obtain⟨m,o',q1,q2⟩:=Ge e3 n o h
      exact⟨m,o',List.mem_cons_of_mem _ q1,q2⟩
    ·cases h
   ·cases h
theorem Gf{st:St}{ρ:List (Nat×Nat)}: ∀{r:List (Nat×Nat)} {hp:Hp},yF st ρ r=some hp→(∀n o,(n,o)∈hp→ ∃m x,(n,m)∈r∧look st.hp m=some x∧o=x.toF ρ∧(jk m=true→jk n=true)∧(soft m=true→soft n=true))∧ ∀n m,(n,m)∈r→ ∃x,look st.hp m=some x∧(n,x.toF ρ)∈hp
 | [],hp,h=>by
   simp only[yF,Option.some.injEq]at h
   subst h
   exact⟨(fun n o hm=>nomatch hm),(fun n m hm=>nomatch hm)⟩
 | (k,j)::r,hp,h=>by
   simp only[yF]at h
   split at h
   ·rename_i x h' e1 e2 e3 e4
    simp only[Option.some.injEq]at h
    subst h
    obtain⟨q1,q2⟩:=Gf e4
    refine⟨fun n o hm=> ?_,fun n m hm=> ?_⟩
    ·rcases List.mem_cons.1 hm with h|h
     ·simp only[Prod.mk.injEq]at h
      obtain⟨rfl,rfl⟩:=h
      exact⟨j,x,by simp,e1,rfl,fun hs=>by rw[hs]at e2;simpa using e2,fun hs=>by rw[hs]at e3;simpa using e3⟩
     ·obtain⟨m,y,p1,p2⟩:=q1 n o h
      exact⟨m,y,List.mem_cons_of_mem _ p1,p2⟩
    ·rcases List.mem_cons.1 hm with h|h
     ·simp only[Prod.mk.injEq]at h
      obtain⟨rfl,rfl⟩:=h
      exact⟨x,e1,by simp⟩
     ·obtain⟨y,p1,p2⟩:=q2 n m h
      exact⟨y,p1,List.mem_cons_of_mem _ p2⟩
   ·cases h
theorem Av{st:St}{ρ:List (Nat×Nat)}: ∀{r:List (Nat×Nat)} {hp:Hp},yF st ρ r=some hp→hp.map Prod.fst=r.map Prod.fst
 | [],hp,h=>by simp only[yF,Option.some.injEq]at h;subst h;rfl
 | (k,j)::r,hp,h=>by
   simp only[yF]at h
   split at h
   ·rename_i e4
    simp only[Option.some.injEq]at h
    subst h
    rw[List.map_cons,List.map_cons,Av e4]
   ·cases h
theorem rM{kv ks:List Nat}{hp:Hp}{n:Nat}:look (DZ kv ks hp) n=if n∈kv then none else(look hp n).map (Obj.bE ks kv):=by
 unfold DZ
 rw[j9 (α:=Obj) (f:=fun e:Nat×Obj=>e.2.bE ks kv)]
 have:look (hp.filter fun e=> !kv.any (Nat.beq e.1)) n=if n∈kv then none else look hp n:=by
  induction hp with
  |nil=>simp[look]
  |cons e r ih=>
   obtain⟨j,x⟩:=e
   by_cases hj:j∈kv
   ·have:(kv.any (Nat.beq j))=true:=List.any_eq_true.2 ⟨j,hj,by simp⟩
    rw[List.filter_cons_of_neg (by simp[this]),ih]
    by_cases hn:n∈kv
    ·simp[hn]
    ·have:n≠j:=by rintro rfl;exact hn hj
     rw[if_neg hn,if_neg hn,aU this]
   ·have:(kv.any (Nat.beq j))=false:=by
     rw[List.any_eq_false]
     intro y hy hb
     exact hj (by rw[Nat.eq_of_beq_eq_true hb];exact hy)
    rw[List.filter_cons_of_pos (by simp[this])]
    by_cases Y7:n=j
    ·subst Y7;rw[look_eq,if_neg hj,look_eq]
    ·rw[aU Y7,aU Y7,ih]
 rw[this]
 split<;>simp
theorem Gg{hp:Hp}: ∀{l:Hp},Hx hp l=true→ ∀m o,look l m=some o→look hp m=none
 | (k,x)::r,h,m,o,hl=>by
   simp only[Hx,Bool.and_eq_true]at h
   by_cases hm:m=k
   ·subst hm
    cases hq:look hp m with
    |none=>rfl
    |some y=>rw[hq]at h;simp at h
   ·rw[aU hm]at hl;exact Gg h.2 m o hl
theorem RM{w:World}{hp:Hp}{env:Env}: ∀{c:List V} {us:List Value} {x:V},bt (RA w hp env) c us→knV c=some x→ ∃u t l,x= .fY u t l∧RA w hp env x u
 | [],_,_,_,h=>by cases h
 |v::r,us,x,hr,h=>by
  cases us with
  |nil=>exact hr.elim
  |cons u us=>
   cases v with
   |fY v t l=>
    simp only[knV,Option.some.injEq]at h
    subst h
    have h1:=hr.1
    obtain⟨hu,_⟩:=h1
    subst hu
    exact⟨_,t,l,rfl,hr.1⟩
   |_=>exact RM hr.2 h
theorem LY{zb:bY}{st:St}{a:Act}{w:World}{env:Env}(g:Good ty zb st a.tmps w env): ∀{xs:List Operand} {x:V},knX st xs=some x→ ∃u t l,x= .fY u t l∧RA w st.hp env x u
 | [],_,h=>by cases h
 |y::r,x,h=>by
  simp only[knX]at h
  split at h
  ·rename_i v hv
   split at h
   ·rename_i hl
    simp only[Option.some.injEq]at h
    subst h
    have hr:=wU g (fun e he=>by simp at he) hv
    cases v with
    |fY v t l=>
     have h1:RA w st.hp env (.fY v t l) (a.eval y):=hr
     obtain⟨hu,_⟩:=h1
     refine⟨v,t,l,rfl,?_⟩
     have h2:RA w st.hp env (.fY v t l) (a.eval y):=hr
     rw[hu]at h2
     exact h2
    |_=>cases hl
   ·exact LY g h
  ·exact LY g h
theorem LZ{zb:bY}{st:St}{tmps:Array Value}{w:World}{env:Env}(g:Good ty zb st tmps w env): ∀{ρ:List (Nat×Nat)} {x:V},knR st ρ=some x→ ∃u t l,x= .fY u t l∧RA w st.hp env x u
 | [],_,h=>by cases h
 | (n,m)::r,x,h=>by
   simp only[knR]at h
   split at h
   ·rename_i c hc
    split at h
    ·rename_i v hv
     simp only[Option.some.injEq]at h
     subst h
     obtain⟨b,cs,e,_,_,h3⟩:=g.obj m _ hc
     exact RM h3 hv
    ·exact LZ g h
   ·exact LZ g h
theorem Y8{zb:bY}{st:St}{a:Act}{w:World}{env:Env}(g:Good ty zb st a.tmps w env){xs:List Operand}{ρ:List (Nat×Nat)}{x:V}(h:VG st xs ρ=some x): ∃u t l,x= .fY u t l∧RA w st.hp env x u:=by
 unfold VG at h
 split at h
 ·rename_i v hv
  simp only[Option.some.injEq]at h
  subst h
  exact LY g hv
 ·exact LZ g h
theorem Jp{kn:Option V}: ∀{c:List V} {v:V},v∈c→ ∀q,q∈Jm kn v→q∈RK kn c
 |x::r,v,hv,q,hq=>by
  simp only[RK,dU]
  rcases List.mem_cons.1 hv with rfl|hv
  ·exact List.mem_append_left _ hq
  ·exact List.mem_append_right _ (Jp hv q hq)
theorem Jq{kn:Option V}: ∀{hp:Hp} {n:Nat} {c:List V},(n, .box c)∈hp→ ∀q,q∈RK kn c→q∈LX kn hp
 | (m,o)::r,n,c,h,q,hq=>by
   rcases List.mem_cons.1 h with h|h
   ·simp only[Prod.mk.injEq]at h
    obtain⟨_,rfl⟩:=h
    simp only[LX,dU]
    exact List.mem_append_left _ hq
   ·have:=Jq h q hq
    cases o with
    |box d=>simp only[LX,dU];exact List.mem_append_right _ this
    |_=>exact this
end
end Go.Proofs.YteodajeiagmekaaGreat.G
