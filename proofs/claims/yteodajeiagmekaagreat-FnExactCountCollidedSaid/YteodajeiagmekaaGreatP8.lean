/-
  Calls that are lent memory: what they find there and what they leave.
-/
import Derived.ArgAppend
import Derived.Test.YteodajeiagmekaaGreatP7
namespace Go.Proofs.YteodajeiagmekaaGreat.G
set_option linter.all false
open Go.RowKit L D
section
variable{ty:Tag→Nat}
section
variable{P:Program}{zb:aY}{st:St}{a:Act}{w:World}{env:Env}{Q:Exit→Act→World→Prop}{o:Oper}
theorem oO{hp:Hp}{env:Env}: ∀{z:List Value},(∀v,v∈z→v.oneCell'=true)→aD (RA w hp env) (z.map V.lit) z
 | [],_=>trivial
 |v::r,h=>⟨⟨rfl,h v (by simp)⟩,oO fun u hu=>h u (by simp[hu])⟩
theorem dw(g:Good ty zb st a.tmps w env){v:V}{u:Value}(h:RA w st.hp env v u)(hv:v≠ .any):u.cells= #[u]:=by
 cases v with
 |any=>exact absurd rfl hv
 |lit x=>obtain⟨rfl,h1⟩:=h;cases u<;>simp_all [Value.cells,Value.oneCell']
 |sl t l=>obtain⟨fp,⟨oa,cap,rfl,_⟩,_⟩:=h;rfl
 |own n=>
  obtain⟨⟨t,l,hl⟩,rfl⟩:=h
  obtain⟨oa,cap,h,_⟩:=RO.sl (g.obj n _ hl)
  rw[h];rfl
 |ptr n off=>obtain⟨_,b,_,rfl⟩:=h;rfl
 |ou f n=>obtain⟨_,b,_,rfl⟩:=h;rfl
 |jW k=>obtain⟨oa,cap,rfl,_⟩:=h;rfl
 |fZ v t l=>obtain⟨_,fp,⟨oa,cap,rfl,_⟩,_⟩:=h;rfl
 |fA n i off=>obtain⟨t,l,_,b,o,len,cap,_,rfl⟩:=h;rfl
 |ip t x off=>obtain⟨b,o,cs,fp,rfl,_⟩:=h;rfl
 |vw n p t l=>obtain⟨_,⟨fp,⟨oa,cap,rfl,_⟩,_⟩,_⟩:=h;rfl
 |qn n t l=>obtain⟨_,b,fp,⟨oa,cap,rfl,_⟩,_⟩:=h;rfl
 |mix n c t l=>obtain⟨_,⟨fp,⟨oa,cap,rfl,_⟩,_⟩,_⟩:=h;rfl
 |l6 n=>
  obtain⟨⟨t,l,s,hl⟩,rfl⟩:=h
  rcases RO.tF (g.obj n _ hl)with⟨_,r,lx,_,h,_⟩| ⟨_,_,us,hB,_⟩
  ·rw[h];rfl
  ·obtain⟨oa,cap,h,_⟩:=hB.sl
   rw[h];rfl
 |qm n p t x off=>obtain⟨_,b,o,cs,fp,rfl,_⟩:=h;rfl
theorem CA{op:BinOp}{k k':IntKind}{x y:Int}{vc:List Prop}{v:Value}(h:Cr op k k' x y=some (vc,v))(hv: ∀q,q∈vc→q){t:TypeId}{X Y:Operand}:
  (do eqGuard op t X Y (.int k x) (.int k' y);binOp op t (.int k x) (.int k' y):Sem Value).run P w= .ok v w∧v.oneCell'=true:=by
 have gen:(∀(_: ¬(op= .shl∨op= .shr)),(match decEq k k' with|isTrue _=>He op k x y|isFalse _=>none)=some (vc,v)→(do eqGuard op t X Y (.int k x) (.int k' y);binOp op t (.int k x) (.int k' y):Sem Value).run P w= .ok v w∧v.oneCell'=true):=by
  intro _ h'
  clear h
  split at h'
  ·rename_i hk _
   subst hk
   exact Eo h' hv
  ·cases h'
 cases op with
 |shl=>
  simp only[Cr,Option.some.injEq,Prod.mk.injEq]at h
  obtain⟨rfl,rfl⟩:=h
  have hy: ¬y<0:=by have:0≤y:=hv _ (List.mem_singleton.2 rfl);omega
  refine⟨?_,rfl⟩
  simp[eqGuard,binOp,Op.shift,hy]
 |shr=>
  simp only[Cr,Option.some.injEq,Prod.mk.injEq]at h
  obtain⟨rfl,rfl⟩:=h
  have hy: ¬y<0:=by have:0≤y:=hv _ (List.mem_singleton.2 rfl);omega
  refine⟨?_,rfl⟩
  simp[eqGuard,binOp,Op.shift,hy]
 |_=>exact gen (by simp) h
theorem CB{op:BinOp}{x y:ByteArray}{vc:List Prop}{v:Value}(h:yy op x y=some (vc,v))(hv: ∀q,q∈vc→q){t:TypeId}{X Y:Operand}:
  (do eqGuard op t X Y (.string x) (.string y);binOp op t (.string x) (.string y):Sem Value).run P w= .ok v w∧v.oneCell'=true:=by
 cases op with
 |add=>
  simp only[yy,Option.some.injEq,Prod.mk.injEq]at h
  obtain⟨rfl,rfl⟩:=h
  have hy:((x.size+y.size:Nat):Int)≤IntKind.i64.max:=hv _ (List.mem_singleton.2 rfl)
  refine⟨?_,rfl⟩
  have hy': ¬((x.size+y.size:Nat):Int)>IntKind.i64.max:=by omega
  simp only[eqGuard,binOp,Op.stringOp,if_neg hy']
  rfl
 |eql=>
  simp only[yy,Option.some.injEq,Prod.mk.injEq]at h
  obtain⟨rfl,rfl⟩:=h
  exact⟨by simp[eqGuard,binOp,Op.stringOp],rfl⟩
 |neq=>
  simp only[yy,Option.some.injEq,Prod.mk.injEq]at h
  obtain⟨rfl,rfl⟩:=h
  exact⟨by simp[eqGuard,binOp,Op.stringOp],rfl⟩
 |_=>simp[yy]at h
theorem xp{v:S1}{u:Value}{f:FuncId}(hr:cz w st.hp env v u)(h:Cs v=some f):u= .func (.func f) #[] #[]:=by
 unfold Cs at h
 split at h
 ·simp only[Option.some.injEq]at h
  subst h
  exact hr.lit
 ·cases h
theorem yE(l:List UInt8):strOfNums (l.map fun n=>(n.toNat:Int))=qq l:=by
 unfold strOfNums qq
 congr 2
 rw[List.map_map]
 conv=>rhs;rw[←List.map_id l]
 apply List.map_congr_left
 intro n _
 simp
theorem nA(ad:Addr)(cap:Nat):(Conv.bytesToString (.slice (some ad) 0 cap)).run P w= .ok (.string (qq [])) w:=by
 have:=run_bytesToString (P:=P) w ad 0 cap [] (by simp[loadCells,loadCellsFrom])
 exact this
theorem m7{a b:List (List Nat)}(h:a.Sublist b):a.flatten.Sublist b.flatten:=by
 induction h with
 |slnil=>exact List.Sublist.refl _
 |cons x _ ih=>rw[List.flatten_cons];exact ih.trans (List.sublist_append_right _ _)
 |cons_cons x _ ih=>rw[List.flatten_cons,List.flatten_cons];exact List.Sublist.append (List.Sublist.refl _) ih
theorem mo{t:Nat}{x:Operand}{lo hi:Option Operand}(ho:o.op= .slice t x lo hi none){g:Tag}{e:Nat}(hk:aQ P t (.sl g e)){t':Tag}{l:List (T t')}(hkk:kk g=kk t'){fp:List Nat}(hx:Sl (kk t') (rd t') w (a.eval x) l fp){n1 n2:Int}
  (h1:(lo=none∧n1=0)∨ ∃y k,lo=some y∧a.eval y= .int k n1)(h2:(hi=none∧n2=l.length)∨ ∃y k,hi=some y∧a.eval y= .int k n2)(q0:0≤n1)(q1:n1≤n2)(q2:n2≤(l.length:Int)):
  ∃u' cL,(execOp a.eval o).run P w= .ok (.value u') w∧Sl (kk t') (rd t') w u' ((l.take n2.toNat).drop n1.toNat) cL∧cL.Sublist fp:=by
 obtain⟨hu,hs⟩:=hk
 obtain⟨oa,cap,hv,hc,hm,h3⟩:=hx
 cases hq:P.info? e with
 |none=>simp[hq]at hs
 |some inf=>
  have hsz:inf.size=kk g:=by simpa[hq]using hs
  have hcap:n2≤(cap:Int):=by omega
  have hn2:0≤n2:=by omega
  have Cd:max n2 0=n2:=by omega
  have hlen:((l.take n2.toNat).drop n1.toNat).length=n2.toNat-n1.toNat:=by simp;omega
  have hrun:(Instr.sliceAt t (.slice oa l.length cap) (lo.map a.eval) (hi.map a.eval) none).run P w= .ok (.slice (if cap=n1.toNat then oa else oa.map (·.add (n1.toNat*kk g))) (n2.toNat-n1.toNat) (cap-n1.toNat)) w:=by
   rcases h1 with⟨rfl,rfl⟩| ⟨y1,k1,rfl,e1⟩<;>rcases h2 with⟨rfl,rfl⟩| ⟨y2,k2,rfl,e2⟩
   all_goals simp[Instr.sliceAt,Instr.slice,Instr.sliceBounds,Instr.sliceBound,asIntOf,run_underlying hu,sizeOf,typeInfo,hq,hsz, *]
  have hex:(execOp a.eval o).run P w= .ok (.value (.slice (if cap=n1.toNat then oa else oa.map (·.add (n1.toNat*kk g))) (n2.toNat-n1.toNat) (cap-n1.toNat))) w:=by
   unfold execOp
   simp only[ho,hv,Option.map_none,Sem.run_bind,hrun,Result.andThen_ok,Sem.run_pure]
  rcases h3 with⟨rfl,rfl,hn⟩| ⟨b,off,az,rfl,hb,rfl,hE⟩
  ·have e0:n1=0:=by simp at q2;omega
   have e2:n2=0:=by simp at q2;omega
   subst e0;subst e2
   refine⟨_,[],hex,⟨_,_,rfl,by simp,by omega,Or.inl ⟨by simp,rfl,?_⟩⟩,List.nil_sublist _⟩
   intro vr
   split at vr
   ·rw[hn vr];rfl
   ·cases oa with
    |none=>rw[hn rfl];rfl
    |some _=>simp at vr
  ·by_cases IQ:cap=n1.toNat
   ·have e0:(l.take n2.toNat).drop n1.toNat= []:=by
     apply List.eq_nil_of_length_eq_zero;omega
    refine⟨_,[],hex,⟨_,_,by rw[hlen],by rw[hlen];omega,by omega,Or.inl ⟨e0,rfl,?_⟩⟩,List.nil_sublist _⟩
    intro vr;rw[if_pos IQ]at vr;cases vr
   ·refine⟨_,b::((az.take n2.toNat).drop n1.toNat).flatten,hex,⟨_,_,by rw[hlen],by rw[hlen];omega,by omega,Or.inr ⟨b,off+n1.toNat*kk t',(az.take n2.toNat).drop n1.toNat,?_,hb,rfl,?_,?_⟩⟩,?_⟩
    ·rw[if_neg IQ,hkk];simp[Addr.add_mid]
    ·have:=hE.1;simp[this]
    ·intro i x f hx hf
     rw[List.getElem?_drop,List.getElem?_take]at hx hf
     split at hx
     ·rename_i hlt
      rw[if_pos hlt]at hf
      obtain⟨cs,k1,k2⟩:=hE.2 _ x f hx hf
      exact⟨cs,by rw[Nat.add_assoc, ←Nat.add_mul];exact k1,k2⟩
     ·cases hx
    ·exact List.Sublist.cons_cons _ (m7 ((List.drop_sublist _ _).trans (List.take_sublist _ _)))
theorem tM{t:Nat}{x:Operand}{lo:Option Operand}(ho:o.op= .slice t x lo none none){g:Tag}{e:Nat}(hk:aQ P t (.sl g e)){oa:Option Addr}{n cap:Nat}(hv:a.eval x= .slice oa n cap)(hc:n≤cap){n1:Int}
  (h1:(lo=none∧n1=0)∨ ∃y k,lo=some y∧a.eval y= .int k n1)(hn:n1=(n:Int)):
  ∃DG,(execOp a.eval o).run P w= .ok (.value (.slice DG 0 (cap-n))) w∧(DG=none→oa=none):=by
 obtain⟨hu,hs⟩:=hk
 cases hq:P.info? e with
 |none=>simp[hq]at hs
 |some inf=>
  have hsz:inf.size=kk g:=by simpa[hq]using hs
  subst hn
  have Cd:max (n:Int) 0=n:=by omega
  refine⟨if cap=n then oa else oa.map (·.add (n*kk g)),?_,fun h=> ?_⟩
  ·have hrun:(Instr.sliceAt t (.slice oa n cap) (lo.map a.eval) none none).run P w= .ok (.slice (if cap=n then oa else oa.map (·.add (n*kk g))) 0 (cap-n)) w:=by
    have h0:(n:Int)≤(cap:Int):=by omega
    rcases h1 with⟨rfl,e1⟩| ⟨y1,k1,rfl,e1⟩
    ·have:n=0:=by omega
     subst this
     simp[Instr.sliceAt,Instr.slice,Instr.sliceBounds,Instr.sliceBound,asIntOf,run_underlying hu,sizeOf,typeInfo,hq,hsz]
    ·simp[Instr.sliceAt,Instr.slice,Instr.sliceBounds,Instr.sliceBound,asIntOf,run_underlying hu,sizeOf,typeInfo,hq,hsz, *]
   unfold execOp
   simp only[ho,hv,Option.map_none,Sem.run_bind,hrun,Result.andThen_ok,Sem.run_pure]
  ·split at h
   ·exact h
   ·simpa using h
theorem aN.at{w:World}: ∀{c:List V} {cs:List Value} {f:List Nat} {i:Nat} {v:V},aN w c cs f→qK c i=some v→ ∃u f',cs[i]? =some u∧RI w v u f'∧f'.Sublist f
 |x::r,u::us,_,0,v,⟨f1,f2,h1,_,rfl⟩,h=>by
  simp only[qK,Option.some.injEq]at h
  subst h
  exact⟨u,f1,rfl,h1,List.sublist_append_left _ _⟩
 |x::r,u::us,_,i+1,v,⟨f1,f2,_,h2,rfl⟩,h=>by
  obtain⟨u',f',k1,k2,k3⟩:=aN.at h2 (show qK r i=some v from h)
  exact⟨u',f',by simpa using k1,k2,k3.trans (List.sublist_append_right _ _)⟩
 | [],_,_,_,_,_,h=>by simp[qK]at h
 |_::_,[],_,_,_,h,_=>h.elim
theorem oP(g:Good ty zb st a.tmps w env){n:Nat}{t:Tag}{l:List (T t)}(hl:look st.hp n=some (.arr t l)){i:Nat}(hi:i<l.length):
  ∃b o cap cs f,(env n).v= .slice (some ⟨b,o,none⟩) l.length cap∧b∈(env n).fp∧w.rangeAt b (o+i*kk t) cs∧rd t w cs (l.getD i (aK t)) f∧f.Sublist (env n).fp:=by
 obtain⟨oa,cap,hv,_,_,h3⟩:=RO.sl (g.obj n _ hl)
 rcases h3 with⟨rfl,_⟩| ⟨b,o,az,rfl,hb,dN,he⟩
 ·simp at hi
 ·have hx:l[i]? =some (l.getD i (aK t)):=by rw[List.getD_eq_getElem?_getD,List.getElem?_eq_getElem hi];rfl
  obtain⟨f,hf⟩:=cW he.1 hx
  obtain⟨cs,hr,hE⟩:=he.2 _ _ f hx hf
  exact⟨b,o,cap,cs,f,hv,by rw[dN];simp,hr,hE,by rw[dN];exact(List.sublist_flatten_of_mem (List.mem_of_getElem? hf)).trans (List.sublist_cons_self _ _)⟩
theorem rV{hp:Hp}{n:Nat}{t0:Tag}{l0:List (T t0)}(hl:look hp n=some (.arr t0 l0)){p:Option (Nat×Nat)}{v:V}{u:Value}{f:List Nat}(h:RI w v u f)(hnd:f.Nodup)(hf: ∀b,b∈f→b∈(env n).fp)
  (eK: ∀i off,p=some (i,off)→ ∃b o len cap,i<l0.length∧qK (dec t0 (l0.getD i (aK t0))) off=some v∧(env n).v= .slice (some ⟨b,o,none⟩) len cap∧b∈(env n).fp∧w.cell? ⟨b,o+i*kk t0+off,none⟩=some u):RA w hp env (FY n p v) u:=by
 cases v with
 |sl t l=>
  refine⟨⟨t0,l0,hl⟩,⟨f,h,hnd,hf⟩,fun i off Ep=> ?_⟩
  obtain⟨b,o,len,cap,h1,h2,h3,h4,h5⟩:=eK i off Ep
  exact⟨t0,l0,b,o,len,cap,hl,h1,h2,h3,h4,h5⟩
 |lit x=>exact⟨h.1,h.2.1⟩
 |_=>trivial
theorem xq{hp:Hp}{n:Nat}{t0:Tag}{l0:List (T t0)}(hl:look hp n=some (.arr t0 l0)){i:Nat}(hi:i<l0.length){b o len cap:Nat}(hv:(env n).v= .slice (some ⟨b,o,none⟩) len cap)(hb:b∈(env n).fp):
  ∀{c:List V} {us:List Value} {f:List Nat} {k:Nat},aN w c us f→f.Nodup→(∀x,x∈f→x∈(env n).fp)→(∀j v,c[j]? =some v→qK (dec t0 (l0.getD i (aK t0))) (k+j)=some v)→w.rangeAt b (o+i*kk t0+k) us→aD (RA w hp env) (Eg n i k c) us
 | [],[],_,_,_,_,_,_,_=>trivial
 |v::r,u::us,_,k,⟨f1,f2,h1,h2,rfl⟩,hnd,hf,hc,hr=>by
  obtain⟨hn1,hn2,_⟩:=List.nodup_append.1 hnd
  refine⟨rV hl h1 hn1 (fun x hx=>hf x (List.mem_append_left _ hx)) ?_,xq hl hi hv hb h2 hn2 (fun x hx=>hf x (List.mem_append_right _ hx)) ?_ ?_⟩
  ·rintro i' off' Ep
   simp only[Option.some.injEq,Prod.mk.injEq]at Ep
   obtain⟨rfl,rfl⟩:=Ep
   exact⟨b,o,len,cap,hi,hc 0 v rfl,hv,hb,by have:=hr 0 u rfl;simpa using this⟩
  ·intro j v' hj
   have:=hc (j+1) v' (by simpa using hj)
   rwa [show k+(j+1)=k+1+j by omega]at this
  ·intro j v' hj
   have:=hr (j+1) v' (by simpa using hj)
   rwa [show o+i*kk t0+k+(j+1)=o+i*kk t0+(k+1)+j by omega]at this
 | [],_::_,_,_,h,_,_,_,_=>h.elim
 |_::_,[],_,_,h,_,_,_,_=>h.elim
theorem xu{hp:Hp}{n:Nat}{t0:Tag}{l0:List (T t0)}(hl:look hp n=some (.arr t0 l0)):
  ∀{c:List V} {us:List Value} {f:List Nat},aN w c us f→f.Nodup→(∀x,x∈f→x∈(env n).fp)→aD (RA w hp env) (Eh n c) us
 | [],[],_,_,_,_=>trivial
 |v::r,u::us,_,⟨f1,f2,h1,h2,rfl⟩,hnd,hf=>
  ⟨rV hl h1 (List.nodup_append.1 hnd).1 (fun x hx=>hf x (List.mem_append_left _ hx)) (by simp),xu hl h2 (List.nodup_append.1 hnd).2.1 (fun x hx=>hf x (List.mem_append_right _ hx))⟩
 | [],_::_,_,h,_,_=>h.elim
 |_::_,[],_,h,_,_=>h.elim
theorem rW: ∀{l:List V} {i:Nat},qK l i=l[i]?
 | [],_=>by simp[qK]
 |_::_,0=>rfl
 |_::r,i+1=>by rw[qK,rW (l:=r)];simp
theorem aN.sub{w:World}{c d:List V}{cs:List Value}{f:List Nat}{off k:Nat}(h:aN w c cs f)(hs:sub c off k=some d): ∃f',aN w d ((cs.drop off).take k) f'∧f'.Sublist f∧d=(c.drop off).take k∧((cs.drop off).take k).length=k:=by
 have drop: ∀(n:Nat) {c:List V} {cs:List Value} {f:List Nat},aN w c cs f→ ∃f',aN w (c.drop n) (cs.drop n) f'∧f'.Sublist f:=by
  intro n
  induction n with
  |zero=>intro c cs f h;exact⟨f,by simpa using h,List.Sublist.refl _⟩
  |succ n ih=>
   intro c cs f h
   cases c with
   |nil=>cases cs with
    |nil=>exact⟨f,by simpa using h,List.Sublist.refl _⟩
    |cons _ _=>exact h.elim
   |cons v r=>cases cs with
    |nil=>exact h.elim
    |cons u us=>
     obtain⟨f1,f2,_,h2,rfl⟩:=h
     obtain⟨f',k1,k2⟩:=ih h2
     exact⟨f',by simpa using k1,k2.trans (List.sublist_append_right _ _)⟩
 have take: ∀(n:Nat) {c:List V} {cs:List Value} {f:List Nat},aN w c cs f→ ∃f',aN w (c.take n) (cs.take n) f'∧f'.Sublist f:=by
  intro n
  induction n with
  |zero=>intro c cs f h;exact⟨[],by simp[aN],List.nil_sublist _⟩
  |succ n ih=>
   intro c cs f h
   cases c with
   |nil=>cases cs with
    |nil=>exact⟨f,by simpa using h,List.Sublist.refl _⟩
    |cons _ _=>exact h.elim
   |cons v r=>cases cs with
    |nil=>exact h.elim
    |cons u us=>
     obtain⟨f1,f2,h1,h2,rfl⟩:=h
     obtain⟨f',k1,k2⟩:=ih h2
     exact⟨f1++f',⟨f1,f',h1,k1,rfl⟩,List.Sublist.append (List.Sublist.refl _) k2⟩
 unfold G.sub at hs
 split at hs
 ·rename_i hb
  have hb:=Nat.le_of_ble_eq_true hb
  simp only[Option.some.injEq]at hs
  obtain⟨f1,h1,h2⟩:=drop off h
  obtain⟨f2,h3,h4⟩:=take k h1
  refine⟨f2,by rw[←hs];exact h3,h4.trans h2,hs.symm,?_⟩
  have:=h.len
  rw[List.length_take,List.length_drop];omega
 ·cases hs
theorem CC{n:Nat}{p:Option (Nat×Nat)}{t:Tag}{l:List (T t)}{u:Value}{k:Int}(h:RA w st.hp env (.vw n p t l) u)(h0:0≤k)(h1:k<l.length):
  ∃b off len cap,u= .slice (some ⟨b,off,none⟩) len cap∧k<len∧RA w st.hp env (.qm n (Ei p k.toNat) t (l.getD k.toNat (aK t)) 0) (.pointer (some ⟨b,off+k.toNat*kk t,none⟩)):=by
 have FJ:RV w st.hp env n p t l u:=h
 obtain⟨hA,⟨fp,⟨oa,cap,rfl,hc,hm,h3⟩,hnd,hd⟩,_⟩:=h
 have hn:k.toNat<l.length:=by omega
 rcases h3 with⟨rfl,_⟩| ⟨b,off,az,rfl,hb,rfl,he⟩
 ·simp at hn
 ·have hx:l[k.toNat]? =some (l.getD k.toNat (aK t)):=by rw[List.getD_eq_getElem?_getD,List.getElem?_eq_getElem hn];rfl
  obtain⟨f,hf⟩:=cW he.1 hx
  obtain⟨cs,hr,hE⟩:=he.2 _ _ f hx hf
  refine⟨b,off,l.length,cap,rfl,h1,hA,b,off+k.toNat*kk t,cs,f,rfl,hd b (by simp),hr,hE,((List.sublist_flatten_of_mem (List.mem_of_getElem? hf)).trans (List.sublist_cons_self _ _)).nodup hnd,fun c hc=>hd c (List.mem_cons_of_mem _ (aP hf hc)),fun i o2 j hp=> ?_⟩
  cases p with
  |none=>cases hp
  |some ab=>
   obtain⟨a1,b1⟩:=ab
   simp only[Ei,Option.some.injEq,Prod.mk.injEq]at hp
   obtain⟨rfl,rfl,rfl⟩:=hp
   exact⟨l,_,b,off,l.length,cap,FJ,hn,rfl,rfl,rfl⟩
theorem rX{t:Nat}{x:Operand}{lo hi:Option Operand}(ho:o.op= .slice t x lo hi none)(hu:P.underlying t=some .string){s:ByteArray}(hv:a.eval x= .string s){n1 n2:Int}
  (h1:(lo=none∧n1=0)∨ ∃y k,lo=some y∧a.eval y= .int k n1)(h2:(hi=none∧n2=s.size)∨ ∃y k,hi=some y∧a.eval y= .int k n2)(q0:0≤n1)(q1:n1≤n2)(q2:n2≤(s.size:Int)):
  o.wp P a w (kW ty st a w env o.dst (.one (.a (.lit (.string (s.extract n1.toNat n2.toNat))))) []) Q:=by
 have hn2:0≤n2:=by omega
 have Cd:max n2 0=n2:=by omega
 have hrun:(Instr.sliceAt t (.string s) (lo.map a.eval) (hi.map a.eval) none).run P w= .ok (.string (s.extract n1.toNat n2.toNat)) w:=by
  rcases h1 with⟨rfl,rfl⟩| ⟨y1,k1,rfl,e1⟩<;>rcases h2 with⟨rfl,rfl⟩| ⟨y2,k2,rfl,e2⟩
  all_goals simp[Instr.sliceAt,Instr.slice,Instr.sliceBounds,Instr.sliceBound,asIntOf,run_underlying hu, *]
 refine bg (u:= .string (s.extract n1.toNat n2.toNat)) ?_ ⟨rfl,rfl⟩
 unfold execOp
 simp only[ho,hv,Option.map_none,Sem.run_bind,hrun,Result.andThen_ok,Sem.run_pure]
theorem yF(g:Good ty zb st a.tmps w env){v:V}{u:Value}(hr:cz w st.hp env (.a v) u){l:List UInt8}(hl:bytesOf st v=some l){s e t:Nat}(hs:P.underlying s=some (.slice e))(he:P.underlying e=some (.int .u8))(ht:P.underlying t=some .string):
  (convert s t u).run P w= .ok (.string (qq l)) w:=by
 have key: ∀{b off len cap:Nat},len=l.length→(∀i x,l[i]? =some x→w.cell? ⟨b,off+i,none⟩=some (.int .u8 x.toNat))→(convert s t (.slice (some ⟨b,off,none⟩) len cap)).run P w= .ok (.string (qq l)) w:=by
  intro b off len cap hlen hc
  rw[run_convert_bytes_arg w s e hs he b off len cap (l.map fun n=>(n.toNat:Int)) (by simp[hlen]) (fun i hi=> ?_) t ht,yE]
  have hi2:i<l.length:=by omega
  rw[hc i _ (List.getElem?_eq_getElem hi2),List.getD_eq_getElem?_getD,List.getElem?_map,List.getElem?_eq_getElem hi2]
  rfl
 have nil: ∀{c:Nat},(convert s t (.slice none 0 c)).run P w= .ok (.string (qq [])) w:=by
  intro c
  rw[run_convert_bytes_nil w s e hs he 0 c t ht];rfl
 have sl: ∀{fp:List Nat},Sl 1 vl w u l fp→(convert s t u).run P w= .ok (.string (qq l)) w:=by
  rintro fp ⟨oa,cap,rfl,_,_,h3⟩
  rcases h3 with⟨rfl,_,_⟩| ⟨b,off,az,rfl,_,_,hE⟩
  ·cases oa with
   |none=>exact nil
   |some ad=>
    rw[run_convert_bytes_string w s t e _ _ _ hs he ht]
    exact nA ad cap
  ·refine key rfl fun i x hx=> ?_
   obtain⟨f,hf⟩:=cW hE.1 hx
   obtain⟨cs,q1,rfl,_⟩:=hE.2 i x f hx hf
   have:=q1 0 _ rfl
   simpa using this
 unfold bytesOf at hl
 split at hl
 ·simp only[Option.some.injEq]at hl
  subst hl
  obtain⟨fp,h,_⟩:=hr
  exact sl h
 ·rename_i n
  split at hl
  ·rename_i l' hlk
   simp only[Option.some.injEq]at hl
   subst hl
   obtain⟨_,hu⟩:=hr
   have hb:Sl 1 vl w (env n).v l' (env n).fp:=RO.sl (g.obj n _ hlk)
   rw[←show u=(env n).v from hu]at hb
   exact sl hb
  ·cases hl
 ·simp only[Option.some.injEq]at hl
  subst hl
  obtain⟨_,⟨fp,h,_⟩,_⟩:=hr
  exact sl h
 ·simp only[Option.some.injEq]at hl
  subst hl
  have hu:=(show cz w st.hp env (.a (.lit tB)) u from hr).lit
  rw[hu]
  exact nil
 ·cases hl
theorem eG{p:List (Nat×Bool)}(hop: ∀{x v},cC st p x=some v→cz w st.hp env v (a.eval x)){z n:Int}{b:Option Operand}(h:s8 st p z b=some n):(b=none∧n=z)∨ ∃x k,b=some x∧a.eval x= .int k n:=by
 cases b with
 |none=>simp only[s8,Option.some.injEq]at h;exact Or.inl ⟨rfl,h.symm⟩
 |some x=>
  simp only[s8]at h
  split at h
  ·rename_i k i hx
   simp only[Option.some.injEq]at h
   subst h
   exact Or.inr ⟨x,k,rfl,(hop hx).lit⟩
  ·cases h
theorem qQ{m:Nat}{t:Tag}{l:List (T t)}{w':World}{u:Value}{fp:List Nat}(hr:(execOp a.eval o).run P w= .ok (.value u) w')(hb:Below w.heap.size w w')(hB:dy (kk t) (rd t) w.heap.size (ty t) w' u l fp):
  o.wp P a w (kW ty st a w env o.dst (.one (.a (.own m))) [(m, .arr t l)]) Q:=by
 unfold Oper.wp
 rw[hr]
 obtain⟨env',hN,hl⟩:=eF.list (ty:=ty) (hp:=st.hp) (env:=env) (os:= [(m, .arr t l)]) (ce:= [⟨u,fp⟩]) hb (by simp[cx,look]) ⟨⟨fun _ _=>RO.xk (dy.mono hB (Nat.zero_le _)),(dy.own hB).ge⟩,trivial⟩ (by simpa using(dy.own hB).nodup)
 have h2:env' m=⟨u,fp⟩:=hl.1.2
 exact⟨u,env',rfl,hN,⟨t,l,look_eq⟩,by rw[h2]⟩
theorem kZ{α:Type}{k:Nat}{E:ER α}(G:bW k E)(hk:0<k){w:World}{u:Value}{l:List α}{fp:List Nat}(h:Sl k E w u l fp):
  ∃(news:List Value) (fx:List (List Nat)),Src w u l.length news∧fx.length=l.length∧news.length=l.length*k∧(∀i x f,l[i]? =some x→fx[i]? =some f→E w ((news.drop (i*k)).take k) x f)∧fx.flatten.Sublist fp∧ ∀b r,fp=b::r→fx.flatten=r:=by
 obtain⟨oa,cap,rfl,hc,hm,h3⟩:=h
 rcases h3 with⟨rfl,rfl,hno⟩| ⟨b,off,az,rfl,hb,rfl,he⟩
 ·refine⟨[],[],?_,rfl,by simp,by simp,by simp,fun b r h=>by cases h⟩
  cases oa with
  |none=>exact Or.inl ⟨by simp[hno rfl],rfl,rfl⟩
  |some a=>exact Or.inr ⟨a,cap,rfl,by simp⟩
 ·have hcell: ∀j,j<l.length*k→ ∃v,w.cell? ⟨b,off+j,none⟩=some v:=by
   intro j hj
   have hi:j/k<l.length:=Nat.div_lt_of_lt_mul (by rw[Nat.mul_comm];omega)
   obtain⟨f,hf⟩:=cW he.1 (List.getElem?_eq_getElem hi)
   obtain⟨cs,hr,hE⟩:=he.2 _ _ f (List.getElem?_eq_getElem hi) hf
   have hl:=G.len hE
   have hml:=Nat.mod_lt j hk
   have:=hr (j % k) cs[j % k] (List.getElem?_eq_getElem (by omega))
   refine⟨cs[j % k]'(by omega),?_⟩
   rw[←this]
   congr 2
   have:=Nat.div_add_mod j k
   have:=Nat.mul_comm k (j/k)
   omega
  refine⟨(List.range (l.length*k)).map fun j=>(w.cell? ⟨b,off+j,none⟩).getD undef,az,Or.inr ⟨_,cap,rfl,?_⟩,he.1,by simp,?_,List.sublist_cons_self _ _,fun b r h=>by cases h;rfl⟩
  ·intro j u hu
   have hj:j<l.length*k:=by have:=(List.getElem?_eq_some_iff.1 hu).1;simpa using this
   obtain⟨v,hv⟩:=hcell j hj
   simp[hj,hv]at hu
   rw[Addr.add_mid,hv,hu]
  ·intro i x f hx hf
   obtain⟨cs,hr,hE⟩:=he.2 i x f hx hf
   have hl:=G.len hE
   have hi:i<l.length:=(List.getElem?_eq_some_iff.1 hx).1
   have h5:i*k+k≤l.length*k:=by
    have:=Nat.mul_le_mul_right k (show i+1≤l.length by omega)
    rw[Nat.add_mul]at this;omega
   have:(((List.range (l.length*k)).map fun j=>(w.cell? ⟨b,off+j,none⟩).getD undef).drop (i*k)).take k=cs:=by
    apply List.ext_getElem?
    intro j
    by_cases hj:j<k
    ·rw[List.getElem?_take,if_pos hj,List.getElem?_drop]
     have h6:=hr j cs[j] (List.getElem?_eq_getElem (by omega))
     rw[List.getElem?_map,List.getElem?_range (by omega)]
     simp[←Nat.add_assoc,h6,show j<cs.length by omega]
    ·rw[List.getElem?_take,if_neg hj,List.getElem?_eq_none (by omega)]
   rw[this];exact hE
theorem CD{α:Type}{k:Nat}{E:ER α}(G:bW k E)(hk:0<k){w:World}{l:List α}{news:List Value}{fx:List (List Nat)}(hf:fx.length=l.length)(hl:news.length=l.length*k)
  (hE: ∀i x f,l[i]? =some x→fx[i]? =some f→E w ((news.drop (i*k)).take k) x f): ∀u,u∈news→u.oneCell'=true:=kN G hf hl hk hE
theorem CE{P:Program}{w:World}{t ty' e:TypeId}{z:Value}{k bytes:Nat}(ht:P.underlying t=some (.slice e))(zC:(P.info? e).map (fun i=>(i.zero,i.size,i.bytes))=some (some z,k,bytes))(hzs:z.cells.size=k)(hk:0<k)
  {n:Nat}{oa:Option Addr}{olds:List Value}(HF:Src w (.slice oa n n) n olds)(hlo:olds.length=n*k)
  {m:Nat}{y:Value}{news:List Value}(Jy:Src w y m news)(hl:news.length=m*k)(h1: ∀u,u∈news→u.oneCell'=true)(b1:n+m≤maxLen)(b2:(n+m)*bytes≤140737488355328):
  ∃v' w',(Builtin.append_ #[t,t] ty' #[.slice oa n n,y]).run P w= .ok v' w'∧((m=0∧v'= .slice oa n n∧w'=w)∨(w'.ownsRow w.heap.size e k v' (n+m) (olds++news)∧w.grownBy w' none)):=by
 obtain⟨i,hi,hz,hsize,hby⟩:=info_parts zC
 rcases Jy with⟨rfl,rfl,rfl⟩| ⟨a,c,rfl,hnews⟩
 ·refine⟨.slice oa n n,w,?_,Or.inl ⟨rfl,rfl,rfl⟩⟩
  cases oa with
  |none=>simp[Builtin.append_,run_underlying ht,sizeOf,typeInfo,hi,Builtin.lenOf,Builtin.firstCells,storeCells]
  |some b=>simp[Builtin.append_,run_underlying ht,sizeOf,typeInfo,hi,Builtin.lenOf,Builtin.firstCells,storeCells]
 ·by_cases hm:m=0
  ·subst hm
   have hn0:news= []:=List.eq_nil_of_length_eq_zero (by omega)
   subst hn0
   refine⟨.slice oa n n,w,?_,Or.inl ⟨rfl,rfl,rfl⟩⟩
   have IS:=run_firstCells_some (P:=P) w i.size 0 a 0 c [] (by simp) (by simp)
   cases oa with
   |none=>simp[Builtin.append_,run_underlying ht,sizeOf,typeInfo,hi,Builtin.lenOf,IS]
   |some b=>simp[Builtin.append_,run_underlying ht,sizeOf,typeInfo,hi,Builtin.lenOf,IS,storeCells]
  ·rcases HF with⟨hx,rfl,rfl⟩| ⟨b,cb,hx,holds⟩
   ·simp only[Value.slice.injEq]at hx
    obtain⟨rfl,_⟩:=hx
    obtain⟨v',w',hrun,r1,r2,_⟩:=run_append_own (P:=P) w w.heap.size t ty' e i z k bytes ht hi hz hsize hby hzs hk (.slice none 0 0) 0 [] (World.ownsRow_nil w _ e k) a m c news hl hnews h1 b1 b2 (Nat.le_refl _)
    exact⟨v',w',hrun,Or.inr ⟨r1,r2⟩⟩
   ·simp only[Value.slice.injEq]at hx
    obtain⟨rfl,_,rfl⟩:=hx
    obtain⟨v',w',hrun,r1,r2⟩:=run_append_arg_grows (P:=P) w t ty' e i z k bytes ht hi hz hsize hby hzs hk b n n olds hlo holds a m c news hl hnews (by omega) b1 b2
    exact⟨v',w',hrun,Or.inr ⟨r1,r2⟩⟩
theorem Er{α:Type}{k:Nat}{E:ER α}{w:World}{oa:Option Addr}{cap:Nat}{l:List α}{fp:List Nat}(h:Sl k E w (.slice oa l.length cap) l fp){j q:Nat}(hj:j≤l.length)(hq:q=0):
  ∃cL,Sl k E w (.slice (if j=0 then oa else oa.map (·.add q)) j j) (l.take j) cL∧ ∀b,b∈cL→b∈fp:=by
 subst hq
 obtain⟨DG,cap',hu,hc,hm,h3⟩:=h
 simp only[Value.slice.injEq,true_and]at hu
 obtain⟨rfl,rfl⟩:=hu
 have hlen:(l.take j).length=j:=by rw[List.length_take];omega
 by_cases h0:j=0
 ·subst h0
  refine⟨[],⟨oa,0,by simp,by simp,Nat.zero_le _,Or.inl ⟨by simp,rfl,fun _=>rfl⟩⟩,by simp⟩
 ·rcases h3 with⟨rfl,_⟩| ⟨b,off,az,rfl,hb,rfl,he⟩
  ·simp at hj;omega
  ·rw[if_neg h0]
   refine⟨b::(az.take j).flatten,⟨_,j,by rw[hlen],by omega,by omega,Or.inr ⟨b,off,az.take j,by simp[Addr.add_mid],hb,rfl,?_,fun i x f hx hf=> ?_⟩⟩,fun c hc=> ?_⟩
   ·have:=he.1;simp[this]
   ·rw[List.getElem?_take]at hx hf
    split at hx
    ·rename_i hij
     rw[if_pos hij]at hf
     exact he.2 i x f hx hf
    ·cases hx
   ·rcases List.mem_cons.1 hc with rfl|hc
    ·simp
    ·exact List.mem_cons_of_mem _ ((m7 (List.take_sublist j az)).subset hc)
theorem Es{α:Type}{k:Nat}{E:ER α}{w:World}{lo e:Nat}{v:Value}{l:List α}{xs:List Value}{az:List (List Nat)}(h:w.ownsRow lo e k v l.length xs)(hf:az.length=l.length)(he: ∀i x f,l[i]? =some x→az[i]? =some f→E w ((xs.drop (i*k)).take k) x f):
  Sl k E w v l (v.ownBlock.toList++az.flatten):=by
 have hlt:=h.lt
 have vu: ∀g,v.ownBlock=some g→ ∀j u,xs[j]? =some u→w.cell? ((⟨g,0,none⟩:Addr).add j)=some u:=fun g hg=>h.cells (g:=g) hg
 rcases h.2 with⟨rfl,h0⟩| ⟨g,cap,cur,rfl,D9,hg,hnc,FI,hcs,DH⟩
 ·have hl:l= []:=List.eq_nil_of_length_eq_zero h0
  subst hl
  have:az= []:=List.eq_nil_of_length_eq_zero (by simpa using hf)
  subst this
  exact⟨none,0,rfl,Nat.le_refl _,Nat.zero_le _,Or.inl ⟨rfl,rfl,fun _=>rfl⟩⟩
 ·refine⟨some ⟨g,0,none⟩,cap,rfl,hnc,FI,Or.inr ⟨g,0,az,rfl,(hlt g rfl).2,rfl,kM hf (fun j u hu=> ?_) he⟩⟩
  have:=vu g rfl j u hu
  rwa [Addr.add_mid,Nat.zero_add]at this
theorem tN{w:World}{hp:Hp}{env:Env}: ∀{l:List V} {us:List Value},plain l=true→aD (RA w hp env) l us→aN w l us []:=by
 intro l
 induction l with
 |nil=>intro us _ h;cases us with
  |nil=>rfl
  |cons _ _=>exact h.elim
 |cons v r ih=>
  intro us iq h
  cases us with
  |nil=>exact h.elim
  |cons u us=>
   unfold plain at iq
   split at iq
   ·rename_i heq;cases heq
   ·cases iq
   ·rename_i heq
    simp only[List.cons.injEq]at heq
    obtain⟨rfl,rfl⟩:=heq
    exact⟨[],[],⟨h.1.1,h.1.2,rfl⟩,ih iq h.2,rfl⟩
   ·cases iq
theorem xw(g:Good ty zb st a.tmps w env): ∀{l c:List V} {n:Nat} {us:List Value},aD (RA w st.hp env) l us→jZ st.hp l=some (c,n)→ ∃t l' fp,look st.hp n=some (.arr t l')∧aN w c us fp∧fp.Nodup∧ ∀b,b∈fp→b∈(env n).fp
 | [],_,_,_,_,h=>by simp[jZ]at h
 |v::r,c,n,us,hr,h=>by
  cases us with
  |nil=>exact hr.elim
  |cons u us=>
   unfold jZ at h
   split at h
   ·rename_i m r' he
    simp only[List.cons.injEq]at he
    obtain⟨rfl,rfl⟩:=he
    split at h
    ·rename_i t l hl iq
     simp only[Option.some.injEq,Prod.mk.injEq]at h
     obtain⟨rfl,rfl⟩:=h
     obtain⟨_,rfl⟩:=hr.1
     exact⟨t,l,(env m).fp,hl,⟨_,[],RO.sl (g.obj m _ hl),tN iq hr.2,by simp⟩,(RO.own (g.obj m _ hl)).nodup,fun _ hb=>hb⟩
    ·cases h
   ·rename_i m pp t l r' he
    simp only[List.cons.injEq]at he
    obtain⟨rfl,rfl⟩:=he
    split at h
    ·rename_i t0 l0 hl iq
     simp only[Option.some.injEq,Prod.mk.injEq]at h
     obtain⟨rfl,rfl⟩:=h
     obtain⟨_,⟨fp,h1,h2,h3⟩,_⟩:=hr.1
     exact⟨t0,l0,fp,hl,⟨fp,[],h1,tN iq hr.2,by simp⟩,h2,h3⟩
    ·cases h
   ·cases h
   ·rename_i x r' _ he
    simp only[List.cons.injEq]at he
    obtain⟨rfl,rfl⟩:=he
    split at h
    ·rename_i c' n' h'
     simp only[Option.some.injEq,Prod.mk.injEq]at h
     obtain⟨rfl,rfl⟩:=h
     obtain⟨t,l',fp,h1,h2,h3,h4⟩:=xw g hr.2 h'
     exact⟨t,l',fp,h1,⟨[],_,⟨hr.1.1,hr.1.2,rfl⟩,h2,by simp⟩,h3,h4⟩
    ·cases h
   ·cases h
theorem vQ(g:Good ty zb st a.tmps w env){s:S1}{u:Value}(hr:cz w st.hp env s u){c:List V}{n:Nat}(h:jZ st.hp (cellsOf s)=some (c,n)):aD (RA w st.hp env) (cellsOf s) u.cells.toList:=by
 cases s with
 |agg l=>obtain⟨cs,rfl,hl⟩:=hr;exact hl
 |a v=>
  have hv:v≠ .any:=by rintro rfl;simp[cellsOf,jZ]at h
  have:=dw g (show RA w st.hp env v u from hr) hv
  rw[this]
  exact⟨hr,trivial⟩
theorem qR(g:Good ty zb st a.tmps w env){p:List (Nat×Bool)}(hp:holds a.tmps p){t:Tag}: ∀{ps:List (Nat×Operand)} {i:Nat} {vc:List Prop} {xs:List (T t)},fN st p t i ps=some (vc,xs)→(∀q,q∈vc→q)→
  (ps.map fun p=>(p.1,a.eval p.2))=kY i (ps.map fun p=>a.eval p.2)∧xs.length=ps.length∧ ∀(i:Nat) (x:T t),xs[i]? =some x→ ∃p:Nat×Operand,ps[i]? =some p∧rd t w (a.eval p.2).cells.toList x []
 | [],i,vc,xs,h,_=>by
   simp only[fN,Option.some.injEq,Prod.mk.injEq]at h
   obtain⟨rfl,rfl⟩:=h
   exact⟨rfl,rfl,by simp⟩
 | (j,x)::r,i,vc,xs,h,hv=>by
   simp only[fN]at h
   split at h
   ·rename_i s hij hx
    have hij:=Nat.eq_of_beq_eq_true hij
    subst hij
    split at h
    ·rename_i j7 y vcs ys iq he hb
     simp only[Option.some.injEq,Prod.mk.injEq]at h
     obtain⟨rfl,rfl⟩:=h
     obtain⟨q1,q2,q3⟩:=qR g hp hb (fun q hq=>hv q (List.mem_append_right _ hq))
     have hc: ∃us,(a.eval x).cells.toList=us∧aN w (cellsOf s) us []:=by
      have hs:=bX g hp hx
      have key: ∀{l:List V} {us:List Value},plain l=true→aD (RA w st.hp env) l us→aN w l us []:=by
       intro l
       induction l with
       |nil=>intro us _ h;cases us with
        |nil=>rfl
        |cons _ _=>exact h.elim
       |cons v r ih=>
        intro us iq h
        cases us with
        |nil=>exact h.elim
        |cons u us=>
         unfold plain at iq
         split at iq
         ·rename_i heq;cases heq
         ·cases iq
         ·rename_i heq
          simp only[List.cons.injEq]at heq
          obtain⟨rfl,rfl⟩:=heq
          exact⟨[],[],⟨h.1.1,h.1.2,rfl⟩,ih iq h.2,rfl⟩
         ·cases iq
      cases s with
      |agg l=>
       obtain⟨cs,hu,hl⟩:=hs
       exact⟨cs,by rw[hu];rfl,key iq hl⟩
      |a v=>
       have hne:v≠ .any:=by rintro rfl;cases iq
       exact⟨[a.eval x],by rw[dw g hs hne],key iq ⟨hs,trivial⟩⟩
     obtain⟨us,CF,xy⟩:=hc
     refine⟨by simp[kY,q1],by simp[q2],fun i' x' hx'=> ?_⟩
     cases i' with
     |zero=>
      simp at hx'
      subst hx'
      exact⟨(i,x),rfl,by rw[CF];exact jY t he (fun q hq=>hv q (List.mem_append_left _ hq)) xy⟩
     |succ n=>
      obtain⟨p,h1,h2⟩:=q3 n x' (by simpa using hx')
      exact⟨p,by simpa using h1,h2⟩
    ·cases h
   ·cases h
theorem CG(g:Good ty zb st a.tmps w env){p:List (Nat×Bool)}(hp:holds a.tmps p){x:Operand}{k:IntKind}{i:Int}(h:Ct st p x=some (k,i)):a.eval x= .int k i:=by
 unfold Ct at h
 split at h
 ·rename_i k' i' hx
  simp only[Option.some.injEq,Prod.mk.injEq]at h
  obtain⟨rfl,rfl⟩:=h
  exact(bX g hp hx).lit
 ·cases h
theorem oQ(g:Good ty zb st a.tmps w env){p:List (Nat×Bool)}(hp:holds a.tmps p): ∀{xs:List Operand} {ys:List (IntKind×Int)},kU st p xs=some ys→xs.map a.eval=ys.map fun y=> .int y.1 y.2
 | [],ys,h=>by simp only[kU,Option.some.injEq]at h;subst h;rfl
 |x::r,ys,h=>by
  simp only[kU]at h
  split at h
  ·rename_i y ys' h1 h2
   simp only[Option.some.injEq]at h
   subst h
   rw[List.map_cons,List.map_cons,oQ g hp h2,CG g hp h1]
  ·cases h
theorem oR{F:Int→Int→Int}{f:Value→Value→Sem Value}(hf: ∀(k:IntKind) (x y:Int),f (.int k x) (.int k y)=pure (.int k (F x y))){k:IntKind}: ∀{ys:List (IntKind×Int)} {x z:Int},qL F k x ys=some z→(List.foldlM f (.int k x) (ys.map fun y=> .int y.1 y.2)).run P w= .ok (.int k z) w
 | [],x,z,h=>by simp only[qL,Option.some.injEq]at h;subst h;rfl
 | (k',y)::r,x,z,h=>by
   simp only[qL]at h
   split at h
   ·rename_i hk _
    subst hk
    rw[List.map_cons,List.foldlM_cons,hf]
    simp only[pure_bind]
    exact oR hf h
   ·cases h
theorem tO(g:Good ty zb st a.tmps w env){p:List (Nat×Bool)}(hp:holds a.tmps p){n:Nat}{fo:List Nat}{pl:Nat→Option (Nat×Nat)}(iq: ∀j o k,fC fo j=some o→DJ n fo j=some k→pl j=some (o,k)):
  ∀{ps:List (Nat×Operand)} {c c':List V} {cs:List Value},ij st p n fo ps c=some c'→aD (RA w st.hp env) c cs→
   ∃cs',Instr.fill pl (Array.mk cs) (ps.map fun q=>(q.1,a.eval q.2))=some (Array.mk cs')∧aD (RA w st.hp env) c' cs'
 | [],c,c',cs,h,hc=>by
   simp only[ij,Option.some.injEq]at h
   subst h
   exact⟨cs,rfl,hc⟩
 | (j,x)::r,c,c',cs,h,hc=>by
   simp only[ij]at h
   split at h
   ·rename_i o' k s h1 h2 hx
    split at h
    ·rename_i c1 hna hs
     simp only[Bool.and_eq_true]at hna
     have hk:=Nat.eq_of_beq_eq_true hna.2
     have qS:=j0 g hp hx
     have hcs: ∃us,(a.eval x).cells=Array.mk us∧aD (RA w st.hp env) (cellsOf s) us:=by
      cases s with
      |agg l=>obtain⟨us,hu,hl⟩:=qS;exact⟨us,by rw[hu];rfl,hl⟩
      |a v=>
       have hne:v≠ .any:=by rintro rfl;simp[cellsOf,iH]at hna
       exact⟨[a.eval x],dw g qS hne,qS,trivial⟩
     obtain⟨us,CF,vR⟩:=hcs
     obtain⟨q1,q2⟩:=rT hc vR hs
     obtain⟨cs',h3,h4⟩:=tO g hp iq h q2
     refine⟨cs',?_,h4⟩
     rw[List.map_cons,Instr.fill,iq j o' k h1 h2]
     simp only[CF]
     have hl:=vR.len
     rw[if_neg (by simp;omega)]
     have Al:((Array.mk us).zipIdx.foldl (fun cs (x:Value×Nat)=>cs.setIfInBounds (o'+x.2) x.1) (Array.mk cs))=splice (Array.mk cs) o' us:=by
      rw[←Array.foldl_toList,Array.toList_zipIdx,gL,Nat.add_zero]
     show Instr.fill _ ((Array.mk us).zipIdx.foldl (fun cs (x:Value×Nat)=>cs.setIfInBounds (o'+x.2) x.1) (Array.mk cs)) _=_
     rw[Al,fG us cs o' q1]
     exact h3
    ·cases h
   ·cases h
theorem k8{w:World}{t:Nat}{d:Nat}(hu:P.underlying t=some .bool){x y:Bool}:(Op.equalIn (d+1) t (.bool x) (.bool y)).run P w= .ok (x==y) w:=by
 simp[Op.equalIn,run_underlying hu]
theorem Ap{x:Operand}{op:Op}{out:Out}(bU:o.op=op)(hm:op= .move x∨op= .assign x)(g:Good ty zb st a.tmps w env)(h:zZ st x=some out):o.wp P a w (kW ty st a w env o.dst out.v out.o) Q:=by
 unfold zZ at h
 split at h
 ·rename_i t
  split at h
  ·rename_i l hl
   simp only[Option.some.injEq]at h
   subst h
   have hr:=g.slot t _ hl
   rcases hm with rfl|rfl
   ·exact oJ (by unfold execOp;simp only[bU,Sem.run_pure];rfl) hr
   ·exact oJ (by unfold execOp;simp only[bU,Sem.run_pure];rfl) hr
  ·cases h
 ·cases h
theorem yG{n:Nat}(hr:(execOp a.eval o).run P w= .ok (.value (.map (some w.heap.size))) (w.alloc (.map #[] 0))):
  o.wp P a w (kW ty st a w env o.dst (.one (.a (.l6 n))) [(n, .dh .int [] .mp)]) Q:=by
 unfold Oper.wp
 rw[hr]
 have hm: ∀eK env',RO ty (w.alloc (.map #[] 0)) eK env' n (.dh .int [] .mp) ⟨.map (some w.heap.size),[w.heap.size]⟩:=fun _ _=>⟨w.heap.size,[],rfl,rfl,#[],0,(Go.MapKept.heap_alloc w _).1,rfl⟩
 obtain⟨env',h1,h2⟩:=eF.list (ty:=ty) (hp:=st.hp) (env:=env) (os:= [(n, .dh .int [] .mp)]) (ce:= [⟨.map (some w.heap.size),[w.heap.size]⟩]) ((Below.refl _ _).alloc (Nat.le_refl _) _) rfl ⟨⟨hm,by simp⟩,trivial⟩ (by simp)
 exact⟨_,env',rfl,h1,⟨.int,[], .mp,by simp[look]⟩,by rw[h2.1.2]⟩
theorem tP{Γ:Nat→TK}(C: ∀t,aQ P t (Γ t)){cr:List (Nat×CR)}{p:List (Nat×Bool)}{d m:Nat}{out:Out}(h:quiet Γ (yC P ty) (Sound ty P) cr st p d m o.op=some out)
  (g:Good ty zb st a.tmps w env)(hp:holds a.tmps p)(hA:qJ w)(hv: ∀q,q∈out.vc→q)(hf:fresh st.hp out.o=true)(hn:cx out.o=true):
  o.wp P a w (kW ty st a w env o.dst out.v out.o) Q:=by
 have hop: ∀{q x v},holds a.tmps q→cC st q x=some v→cz w st.hp env v (a.eval x):=fun hq hx=>bX g hq hx
 generalize bU:o.op=op at h
 cases op with
 |move x=>
  simp only[quiet]at h
  split at h
  ·rename_i v hx
   simp only[bn,Option.some.injEq]at h
   subst h
   exact bg (by unfold execOp;simp only[bU,Sem.run_pure]) (j0 g hp hx)
  ·exact Ap bU (Or.inl rfl) g h
 |assign x=>
  simp only[quiet]at h
  split at h
  ·rename_i v hx
   simp only[bn,Option.some.injEq]at h
   subst h
   exact bg (by unfold execOp;simp only[bU,Sem.run_pure]) (j0 g hp hx)
  ·exact Ap bU (Or.inr rfl) g h
 |pick c x y=>
  cases c with
  |tmp c=>
   simp only[quiet]at h
   split at h
   ·rename_i t u v h1 h2 h3
    simp only[bn,Option.some.injEq]at h
    subst h
    have hc:=(hop hp h1).lit
    have vn:a.tmps[c]? =some (.bool t):=vP hc
    refine bg (u:= .bool (if t then u else v)) ?_ ⟨rfl,rfl⟩
    unfold execOp
    cases t with
    |true=>
     have hx:=(hop (q:=(c,true)::p) (by intro e he;rcases List.mem_cons.1 he with rfl|he;exact vn;exact hp e he) h2).lit
     simp[bU,hc,hx,asBool]
    |false=>
     have hx:=(hop (q:=(c,false)::p) (by intro e he;rcases List.mem_cons.1 he with rfl|he;exact vn;exact hp e he) h3).lit
     simp[bU,hc,hx,asBool]
   ·cases h
  |_=>simp[quiet]at h
 |box e x=>
  simp only[quiet]at h
  split at h
  ·rename_i l hx
   simp only[Option.some.injEq]at h
   subst h
   obtain⟨cs,hu,hl⟩:=hop hp hx
   exact mj (cs:=cs) (e:=e) (by unfold execOp;simp[bU,Instr.box,newVar,newRow,hu,Value.cells]) g hf hl
  ·cases h
  ·rename_i v hne hx
   simp only[Option.some.injEq]at h
   subst h
   have hr:=hop hp hx
   have hc:=dw g (show RA w st.hp env v (a.eval x)from hr) (fun e=>hne e)
   exact mj (cs:= [a.eval x]) (e:=e) (by unfold execOp;simp[bU,Instr.box,newVar,newRow,hc]) g hf ⟨hr,trivial⟩
  ·cases h
 |alloc t=>
  simp only[quiet]at h
  split at h
  ·rename_i z tg fo hk
   simp only[Option.some.injEq]at h
   subst h
   have hC:=C t
   rw[hk]at hC
   obtain⟨fs,hu,hi,h1,_⟩:=hC
   refine mj (cs:=z) (e:=t) ?_ g hf (oO h1)
   unfold execOp
   cases hq:P.info? t with
   |none=>simp[hq]at hi
   |some i=>
    simp[hq]at hi
    simp[bU,Instr.alloc,zeroValue,typeInfo,hq,hi.2,newVar,newRow,Value.cells]
  ·cases h
 |load t x=>
  simp only[quiet]at h
  split at h
  ·rename_i n off hx
   obtain⟨_,b,hb,hu⟩:=hop hp hx
   split at h
   ·rename_i c hl
    obtain⟨b',cs,e,tQ,hh,hc⟩:=g.obj n _ hl
    have F5:b=b':=by
     rw[tQ]at hb
     simpa using hb.symm
    subst F5
    have nB:w.rangeAt b 0 cs:=by simpa using zU hh
    split at h
    ·rename_i z tg fo hk
     split at h
     ·rename_i l hs
      simp only[bn,Option.some.injEq]at h
      subst h
      have hC:=C t
      rw[hk]at hC
      obtain⟨k1,k2⟩:=Ah hc hs
      exact wp_load_row bU hC hu (by have:=ep (k:=z.length) (j:=off) nB;rwa [Nat.zero_add]at this) k2 k1
     ·cases h
    ·cases h
    ·rename_i k1 k2
     split at h
     ·rename_i v hs
      simp only[bn,Option.some.injEq]at h
      subst h
      obtain⟨u,q1,q2⟩:=hc.at (rS hs)
      refine fF bU (C t) ?_ ?_ hu (by have:=eu nB q1;rwa [Nat.zero_add]at this) (RA.zX q2)
      ·intro z tg fo hz;exact k1 z tg fo hz
      ·exact k2
     ·cases h
   ·cases h
  ·rename_i gt y off hx
   obtain⟨b,o',cs,fp,hu,_,nB,hE,_,hd⟩:=hop hp hx
   have hc:=Ai hE hd
   split at h
   ·rename_i z tg fo hk
    split at h
    ·rename_i l hs
     simp only[bn,Option.some.injEq]at h
     subst h
     have hC:=C t
     rw[hk]at hC
     obtain⟨k1,k2⟩:=Ah hc hs
     exact wp_load_row bU hC hu (ep nB) k2 k1
    ·cases h
   ·cases h
   ·rename_i k1 k2
    split at h
    ·rename_i v hs
     simp only[bn,Option.some.injEq]at h
     subst h
     obtain⟨u,q1,q2⟩:=hc.at (rS hs)
     refine fF bU (C t) ?_ ?_ hu (eu nB q1) q2
     ·intro z tg fo hz;exact k1 z tg fo hz
     ·exact k2
    ·cases h
  ·rename_i n gt y off hx
   obtain⟨⟨tA,lA,hl⟩,b,o',cs,fp,hu,hb,nB,hE,hd⟩:=hop hp hx
   have hR:=reads gt hE
   split at h
   ·rename_i z tg fo hk
    split at h
    ·rename_i l hs
     simp only[bn,Option.some.injEq]at h
     subst h
     have hC:=C t
     rw[hk]at hC
     obtain⟨f',r1,r2,r3,r4⟩:=aN.sub hR hs
     exact wp_load_row bU hC hu (ep nB) r4 (xu hl r1 (r2.nodup hd.1) (fun x hx=>hd.2.1 x (r2.subset hx)))
    ·cases h
   ·cases h
   ·rename_i k1 k2
    split at h
    ·rename_i v hs
     simp only[bn,Option.some.injEq]at h
     subst h
     obtain⟨u,f',q1,q2,q3⟩:=aN.at hR hs
     refine fF bU (C t) ?_ ?_ hu (eu nB q1) (rV hl q2 (q3.nodup hd.1) (fun x hx=>hd.2.1 x (q3.subset hx)) (by simp))
     ·intro z tg fo hz;exact k1 z tg fo hz
     ·exact k2
    ·cases h
  ·rename_i n i off hx
   obtain⟨tA,lA,HG,b,o',len,cap,rY,hu⟩:=hop hp hx
   split at h
   ·rename_i gt l hl
    rw[hl]at HG
    simp only[Option.some.injEq,Obj.arr.injEq]at HG
    obtain⟨rfl,_⟩:=HG
    split at h
    ·rename_i z tg fo hk
     split at h
     ·rename_i c hs
      simp only[Option.some.injEq]at h
      subst h
      have hi:i<l.length:=hv _ (List.mem_singleton.2 rfl)
      obtain⟨b2,o2,F6,cs,f,Aq,hb,nB,hE,hd⟩:=oP g hl hi
      rw[Aq]at rY
      simp only[Value.slice.injEq,Option.some.injEq,Addr.mk.injEq,and_true]at rY
      obtain⟨⟨rfl,rfl⟩,rfl,rfl⟩:=rY
      have hC:=C t
      rw[hk]at hC
      obtain⟨f',r1,r2,r3,r4⟩:=aN.sub (reads gt hE) hs
      refine wp_load_row bU hC hu (ep nB) r4 (xq hl hi Aq hb r1 ((r2.trans hd).nodup (RO.own (g.obj _ _ hl)).nodup) (fun x hx=>hd.subset (r2.subset hx)) (fun j v hj=> ?_) (ep nB))
      rw[r3,List.getElem?_take]at hj
      split at hj
      ·rw[List.getElem?_drop]at hj;rw[rW];exact hj
      ·cases hj
     ·cases h
    ·cases h
    ·rename_i k1 k2
     split at h
     ·rename_i v hs
      simp only[Option.some.injEq]at h
      subst h
      have hi:i<l.length:=hv _ (List.mem_singleton.2 rfl)
      obtain⟨b2,o2,F6,cs,f,Aq,hb,nB,hE,hd⟩:=oP g hl hi
      rw[Aq]at rY
      simp only[Value.slice.injEq,Option.some.injEq,Addr.mk.injEq,and_true]at rY
      obtain⟨⟨rfl,rfl⟩,rfl,rfl⟩:=rY
      obtain⟨u,f',q1,q2,q3⟩:=aN.at (reads gt hE) hs
      refine fF bU (C t) ?_ ?_ hu (eu nB q1) (rV hl q2 ((q3.trans hd).nodup (RO.own (g.obj _ _ hl)).nodup) (fun x hx=>hd.subset (q3.subset hx)) ?_)
      ·intro z tg fo hz;exact k1 z tg fo hz
      ·exact k2
      ·rintro i' off' Ep
       simp only[Option.some.injEq,Prod.mk.injEq]at Ep
       obtain⟨rfl,rfl⟩:=Ep
       exact⟨b2,o2,_,F6,hi,hs,Aq,hb,eu nB q1⟩
     ·cases h
   ·cases h
  ·cases h
 |binOp op t x y t'=>
  simp only[quiet]at h
  split at h
  ·rename_i k m k' m' h1 h2
   split at h
   ·rename_i vc v hb
    simp only[Option.some.injEq]at h
    subst h
    have hx:=(hop hp h1).lit
    have hy:=(hop hp h2).lit
    obtain⟨q1,q2⟩:=CA (P:=P) (w:=w) hb hv (t:=t) (X:=x) (Y:=y)
    refine bg (u:=v) ?_ ⟨rfl,q2⟩
    unfold execOp
    simp only[bU,hx,hy]
    rw[Sem.run_bind,q1]
    rfl
   ·cases h
  ·rename_i m m' h1 h2
   split at h
   ·rename_i vc v hb
    simp only[Option.some.injEq]at h
    subst h
    have hx:=(hop hp h1).lit
    have hy:=(hop hp h2).lit
    obtain⟨q1,q2⟩:=CB (P:=P) (w:=w) hb hv (t:=t) (X:=x) (Y:=y)
    refine bg (u:=v) ?_ ⟨rfl,q2⟩
    unfold execOp
    simp only[bU,hx,hy]
    rw[Sem.run_bind,q1]
    rfl
   ·cases h
  ·rename_i m m' h1 h2
   have hx:=(hop hp h1).lit
   have hy:=(hop hp h2).lit
   have hC:=C t
   split at h
   ·rename_i hk
    rw[hk]at hC
    simp only[bn,Option.some.injEq]at h
    subst h
    refine bg (u:= .bool (m==m')) ?_ ⟨rfl,rfl⟩
    unfold execOp
    simp only[bU,hx,hy]
    have he:(Op.equal t (.bool m) (.bool m')).run P w= .ok (m==m') w:=k8 hC
    simp[eqGuard,binOp,he]
   ·rename_i hk
    rw[hk]at hC
    simp only[bn,Option.some.injEq]at h
    subst h
    refine bg (u:= .bool (m !=m')) ?_ ⟨rfl,rfl⟩
    unfold execOp
    simp only[bU,hx,hy]
    have he:(Op.equal t (.bool m) (.bool m')).run P w= .ok (m==m') w:=k8 hC
    simp[eqGuard,binOp,he]
    cases m<;>cases m'<;>rfl
   ·cases h
  ·cases h
 |unOp op t x=>
  cases op with
  |not=>
   simp only[quiet]at h
   split at h
   ·rename_i b hx
    simp only[bn,Option.some.injEq]at h
    subst h
    have hx:=(hop hp hx).lit
    refine bg (u:= .bool (!b)) ?_ ⟨rfl,rfl⟩
    unfold execOp
    simp[bU,hx,Op.unary]
   ·cases h
  |neg=>
   simp only[quiet]at h
   split at h
   ·rename_i k n hx
    simp only[bn,Option.some.injEq]at h
    subst h
    have hx:=(hop hp hx).lit
    refine bg (u:= .int k (k.wrap (0-n))) ?_ ⟨rfl,rfl⟩
    unfold execOp
    simp[bU,hx,Op.unary,Op.intArith]
   ·cases h
  |_=>simp[quiet]at h
 |convert s t x=>
  simp only[quiet]at h
  split at h
  ·rename_i k n k1 k2 hx hk1 hk2
   simp only[bn,Option.some.injEq]at h
   subst h
   have hx:=(hop hp hx).lit
   have c1:=C s
   have c2:=C t
   rw[hk1]at c1
   rw[hk2]at c2
   refine bg (u:= .int k2 (k2.wrap n)) ?_ ⟨rfl,rfl⟩
   unfold execOp
   simp[bU,hx,convert,run_underlying (show P.underlying s=_ from c1),run_underlying (show P.underlying t=_ from c2),Conv.intToInt]
  ·rename_i v g' e hx hk1 hk2
   split at h
   ·rename_i l Ar hl
    simp only[bn,Option.some.injEq]at h
    subst h
    have c1:=C s
    have c2:=C t
    have c3:=C e
    rw[hk1]at c1
    rw[hk2]at c2
    rw[Ar]at c3
    have:=yF g (hop hp hx) hl c1.1 c3 c2
    refine bg (u:= .string (qq l)) ?_ ⟨rfl,rfl⟩
    unfold execOp
    simp only[bU,Sem.run_bind,this,Result.andThen_ok,Sem.run_pure]
   ·cases h
  ·cases h
 |slice t x lo hi mx=>
  cases mx with
  |some mx=>
   cases lo with
   |some _=>simp[quiet]at h
   |none=>
    cases hi with
    |none=>simp[quiet]at h
    |some hi=>
     simp only[quiet]at h
     split at h
     case h_2=>cases h
     rename_i gt e hk
     have hC:=C t
     rw[hk]at hC
     split at h
     case h_2=>cases h
     rename_i n n1 n2 hx h1 h2
     split at h
     case h_2=>cases h
     rename_i t' l hl
     split at h
     case h_2=>cases h
     rename_i hkk
     have hkk:=Nat.eq_of_beq_eq_true hkk
     simp only[Option.some.injEq]at h
     subst h
     obtain⟨q0,q1,q2⟩:=hv _ (List.mem_singleton.2 rfl)
     obtain⟨hA,hu⟩:=hop hp hx
     have hs:=RO.sl (g.obj n _ hl)
     rw[←show a.eval x=(env n).v from hu]at hs
     obtain⟨oa,cap,rY,hc,hm,h3⟩:=id hs
     obtain⟨y1,k1,e1,e2⟩: ∃y k,some hi=some y∧a.eval y= .int k n1:=by
      rcases eG (hop hp) h1 with⟨h,_⟩|h
      ·cases h
      ·exact h
     obtain⟨y2,k2,e3,e4⟩: ∃y k,some mx=some y∧a.eval y= .int k n2:=by
      rcases eG (hop hp) h2 with⟨h,_⟩|h
      ·cases h
      ·exact h
     simp only[Option.some.injEq]at e1 e3
     subst e1;subst e3
     subst q1
     rw[rY]at hs
     obtain⟨cL,r2,r3⟩:=Er hs (j:=n1.toNat) (q:=0*kk gt) (by omega) (by simp)
     have hrun:(execOp a.eval o).run P w= .ok (.value (.slice (if n1.toNat=0 then oa else oa.map (·.add (0*kk gt))) n1.toNat n1.toNat)) w:=by
      obtain⟨hun,hsz⟩:=hC
      cases hq:P.info? e with
      |none=>simp[hq]at hsz
      |some inf=>
       have hsz':inf.size=kk gt:=by simpa[hq]using hsz
       have c1:n1≤(cap:Int):=by omega
       have c2: ¬max n1 0<n1:=by omega
       unfold execOp
       simp[bU,rY,e2,e4,c2,Instr.sliceAt,Instr.slice,Instr.sliceBounds,Instr.sliceBound,asIntOf,run_underlying hun,sizeOf,typeInfo,hq,hsz',q0,c1]
     have hlt:(l.take n1.toNat).length=n1.toNat:=by rw[List.length_take];omega
     exact bg hrun ⟨hA,⟨cL,r2,fun b hb=>Or.inl (r3 b hb)⟩,fun _=>⟨_,by rw[hlt]⟩⟩
  |none=>
   simp only[quiet]at h
   split at h
   ·rename_i gt e hk
    have hC:=C t
    rw[hk]at hC
    split at h
    ·split at h
     ·rename_i n p' t' l n1 hx h1
      simp only[Option.some.injEq]at h
      subst h
      have hlo:n1=(l.length:Int):=hv _ (List.mem_singleton.2 rfl)
      obtain⟨hA,⟨fp,⟨oa,cap,hu,hc,hm,h3⟩,hnd,hd⟩,_⟩:=hop hp hx
      have hz:oa=none→cap=0:=by
       intro ho
       rcases h3 with⟨_,_,h4⟩| ⟨b,off,az,h4,_⟩
       ·exact h4 ho
       ·rw[ho]at h4;cases h4
      obtain⟨DG,r1,r2⟩:=tM (P:=P) (w:=w) bU hC hu hc (eG (hop hp) h1) hlo
      refine bg r1 ⟨[],⟨DG,cap-l.length,rfl,Nat.zero_le _,by omega,Or.inl ⟨rfl,rfl,fun ho=> ?_⟩⟩,by simp⟩
      rw[hz (r2 ho)];omega
     ·rename_i k n1 hx h1
      simp only[Option.some.injEq]at h
      subst h
      have hlo:n1=(k:Int):=hv _ (List.mem_singleton.2 rfl)
      obtain⟨oa,cap,hu,hc,hm,hz⟩:=hop hp hx
      obtain⟨DG,r1,r2⟩:=tM (P:=P) (w:=w) bU hC hu hc (eG (hop hp) h1) hlo
      refine bg r1 ⟨[],⟨DG,cap-k,rfl,Nat.zero_le _,by omega,Or.inl ⟨rfl,rfl,fun ho=> ?_⟩⟩,by simp⟩
      rw[hz (r2 ho)];omega
     ·cases h
    split at h
    ·rename_i t' l n1 hx h1
     split at h
     ·rename_i n2 h2
      split at h
      ·rename_i hkk
       have hkk:=Nat.eq_of_beq_eq_true hkk
       simp only[Option.some.injEq]at h
       subst h
       obtain⟨q0,q1,q2⟩:=hv _ (List.mem_singleton.2 rfl)
       obtain⟨fp,hs,hd⟩:=hop hp hx
       obtain⟨u',cL,r1,r2,r3⟩:=mo bU hC hkk hs (eG (hop hp) h1) (eG (hop hp) h2) q0 q1 q2
       exact bg r1 ⟨cL,r2,fun b hb=>hd b (r3.subset hb)⟩
      ·cases h
     ·cases h
    ·rename_i n p' t' l n1 hx h1
     split at h
     ·rename_i n2 h2
      split at h
      ·rename_i hkk
       have hkk:=Nat.eq_of_beq_eq_true hkk
       simp only[Option.some.injEq]at h
       subst h
       obtain⟨q0,q1,q2⟩:=hv _ (List.mem_singleton.2 rfl)
       obtain⟨hA,⟨fp,hs,hnd,hd⟩,_⟩:=hop hp hx
       obtain⟨u',cL,r1,r2,r3⟩:=mo bU hC hkk hs (eG (hop hp) h1) (eG (hop hp) h2) q0 q1 q2
       exact bg r1 ⟨hA,⟨cL,r2,r3.nodup hnd,fun b hb=>hd b (r3.subset hb)⟩,by simp⟩
      ·cases h
     ·cases h
    ·rename_i n n1 hx h1
     split at h
     ·rename_i t' l hl
      split at h
      ·rename_i n2 h2
       split at h
       ·rename_i hkk
        have hkk:=Nat.eq_of_beq_eq_true hkk
        simp only[Option.some.injEq]at h
        subst h
        obtain⟨q0,q1,q2⟩:=hv _ (List.mem_singleton.2 rfl)
        obtain⟨hA,hu⟩:=hop hp hx
        have hs:=RO.sl (g.obj n _ hl)
        rw[←show a.eval x=(env n).v from hu]at hs
        obtain⟨u',cL,r1,r2,r3⟩:=mo bU hC hkk hs (eG (hop hp) h1) (eG (hop hp) h2) q0 q1 q2
        exact bg r1 ⟨hA,⟨cL,r2,r3.nodup (RO.own (g.obj n _ hl)).nodup,fun b hb=>r3.subset hb⟩,by simp⟩
       ·cases h
      ·cases h
     ·cases h
    ·cases h
   ·rename_i hk
    have hC:=C t
    rw[hk]at hC
    split at h
    ·rename_i s n1 hx h1
     split at h
     ·rename_i n2 h2
      simp only[Option.some.injEq]at h
      subst h
      obtain⟨q0,q1,q2⟩:=hv _ (List.mem_singleton.2 rfl)
      exact rX bU hC (hop hp hx).lit (eG (hop hp) h1) (eG (hop hp) h2) q0 q1 q2
     ·cases h
    ·cases h
   ·cases h
 |makeFunc fn first captured=>
  cases fn with
  |func f=>
   simp only[quiet]at h
   split at h
   ·rename_i x hf hc
    split at h
    ·rename_i n hx
     simp only[bn,Option.some.injEq]at h
     subst h
     obtain⟨hA,b,hb,hu⟩:=hop hp hx
     have e1:first= #[]:=by cases first;simp_all
     have e2:captured= #[x]:=by cases captured;simp_all
     refine bg (u:= .func (.func f) #[] #[.pointer (some ⟨b,0,none⟩)]) ?_ ⟨hA,b,hb,rfl⟩
     unfold execOp
     simp[bU,Instr.makeFunc,e1,e2,hu]
    ·cases h
   ·cases h
  |_=>simp[quiet]at h
 |fieldAddr t x f=>
  simp only[quiet]at h
  split at h
  ·rename_i z tg fo hk
   have hC:=C t
   rw[hk]at hC
   split at h
   ·rename_i k hf'
    split at h
    ·rename_i n off hx
     simp only[bn,Option.some.injEq]at h
     subst h
     obtain⟨hc,b,hb,hu⟩:=hop hp hx
     exact eP bU hC hf' hu ⟨hc,b,hb,rfl⟩
    ·rename_i gt y off hx
     simp only[bn,Option.some.injEq]at h
     subst h
     obtain⟨b,o',cs,fp,hu,k1⟩:=hop hp hx
     exact eP bU hC hf' hu ⟨b,o',cs,fp,by rw[Nat.add_assoc],k1⟩
    ·rename_i n i off hx
     simp only[bn,Option.some.injEq]at h
     subst h
     obtain⟨t',l,hl,b,o',len,cap,hb,hu⟩:=hop hp hx
     exact eP bU hC hf' hu ⟨t',l,hl,b,o',len,cap,hb,by rw[Nat.add_assoc]⟩
    ·rename_i n gt y off hx
     simp only[bn,Option.some.injEq]at h
     subst h
     obtain⟨hA,b,o',cs,fp,hu,k1,k2,k3,Jz,k4,k5⟩:=hop hp hx
     refine eP bU hC hf' hu ⟨hA,b,o',cs,fp,by rw[Nat.add_assoc],k1,k2,k3,Jz,k4,fun i o2 j hq=> ?_⟩
     obtain⟨l,u0,b0,gJ,len,cap,j1,j2,j3,j4,j5⟩:=k5 i o2 j hq
     rw[hu]at j5
     simp only[Value.pointer.injEq,Option.some.injEq,Addr.mk.injEq,and_true]at j5
     obtain⟨rfl,j5⟩:=j5
     exact⟨l,u0,b,gJ,len,cap,j1,j2,j3,j4,by rw[j5,Nat.add_assoc]⟩
    ·cases h
   ·cases h
  ·cases h
 |indexAddr t x i=>
  simp only[quiet]at h
  split at h
  ·rename_i gt e hk
   have hC:=C t
   rw[hk]at hC
   split at h
   ·rename_i t' l ik n hx hi
    split at h
    ·rename_i hkk
     have hkk:=Nat.eq_of_beq_eq_true hkk
     simp only[Option.some.injEq]at h
     subst h
     obtain⟨h0,h1⟩:=hv _ (List.mem_singleton.2 rfl)
     have hx:=hop hp hx
     have hi:=(hop hp hi).lit
     obtain⟨b,off,len,cap,hu,hlt,hr⟩:=Cz hx h0 h1
     exact gK bU hC hu hi h0 hlt (by rw[hkk];exact hr)
    ·cases h
   ·rename_i m ik n hx hi
    split at h
    ·rename_i t' l hl
     split at h
     ·rename_i hkk
      have hkk:=Nat.eq_of_beq_eq_true hkk
      simp only[Option.some.injEq]at h
      subst h
      obtain⟨h0,h1⟩:=hv _ (List.mem_singleton.2 rfl)
      obtain⟨_,hu⟩:=hop hp hx
      have hi:=(hop hp hi).lit
      obtain⟨b,o',cap,cs,f,hs,_⟩:=oP g hl (i:=n.toNat) (by omega)
      exact gK bU hC (hu.trans hs) hi h0 h1 ⟨t',l,hl,b,o',_,cap,hs,by rw[hkk];simp⟩
     ·cases h
    ·cases h
   ·rename_i m p' t' l ik n hx hi
    split at h
    ·rename_i hkk
     have hkk:=Nat.eq_of_beq_eq_true hkk
     simp only[Option.some.injEq]at h
     subst h
     obtain⟨h0,h1⟩:=hv _ (List.mem_singleton.2 rfl)
     have hx:=hop hp hx
     have hi:=(hop hp hi).lit
     obtain⟨b,off,len,cap,hu,hlt,hr⟩:=CC hx h0 h1
     exact gK bU hC hu hi h0 hlt (by rw[hkk];exact hr)
    ·cases h
   ·cases h
  ·cases h
 |lookup t x y b=>
  cases b with
  |true=>simp[quiet]at h
  |false=>
   simp only[quiet]at h
   split at h
   ·rename_i hk
    have hC:=C t
    rw[hk]at hC
    obtain⟨kt,et,ht,HH,hz,_⟩:=hC
    split at h
    ·rename_i n k hx hy
     split at h
     ·rename_i tg l0 hl
      split at h
      ·rename_i l hc
       simp only[bn,Option.some.injEq]at h
       subst h
       obtain⟨_,hu⟩:=hop hp hx
       have hy:=(hop hp hy).lit
       obtain⟨r,lx,h1,h2,h3⟩:=g.obj n _ hl
       rw[hc]at h1
       simp only[Option.some.injEq]at h1
       subst h1
       have Ce:a.eval x= .map (some r):=by rw[hu,h2]
       refine bg (u:= .int .i64 (fB l k)) ?_ ⟨rfl,rfl⟩
       unfold execOp
       simp only[bU,Ce,hy,Sem.run_bind,Sem.run_pure,oG ht HH (hz w) h3,Result.andThen_ok]
      ·cases h
     ·cases h
    ·cases h
   ·cases h
 |makeMap t r=>
  cases r with
  |some _=>simp[quiet]at h
  |none=>
   simp only[quiet]at h
   split at h
   ·simp only[Option.some.injEq]at h
    subst h
    exact yG (by unfold execOp;simp[bU,Instr.makeMap])
   ·cases h
 |makeSlice t x y=>
  simp only[quiet]at h
  split at h
  ·rename_i gt e hk
   have hC:=C t
   rw[hk]at hC
   split at h
   ·rename_i k1 n1 k2 n2 hx hy
    simp only[Option.some.injEq]at h
    subst h
    have hE:yC P ty gt e:=hv _ (by simp)
    have hab:n1=n2:=hv _ (by simp)
    have h0:0≤n1:=hv _ (by simp)
    obtain⟨h1,h2⟩:n1.toNat*iA gt≤140737488355328∧n1.toNat≤maxLen:=hv _ (by simp)
    subst hab
    obtain⟨rfl,j6⟩:=hE
    obtain⟨w',u,fp,r1,r2,r3⟩:=Ao (P:=P) (w:=w) (a:=a) bU hC.1 j6 (hop hp hx).lit (hop hp hy).lit h0 h1 h2
    exact qQ r1 r2 r3
   ·cases h
  ·cases h
 |buildSlice t len parts=>
  simp only[quiet]at h
  split at h
  ·rename_i gt e hk
   have hC:=C t
   rw[hk]at hC
   split at h
   ·split at h
    case h_2=>cases h
    rename_i x hlen hps
    split at h
    case h_2=>cases h
    rename_i s hx
    split at h
    case h_2=>cases h
    rename_i c n hc
    split at h
    case h_2=>cases h
    rename_i vc y he rU
    simp only[Option.some.injEq]at h
    subst h
    have hE:yC P ty gt e:=hv _ (by simp)
    obtain⟨rfl,j6⟩:=hE
    have hs:=hop hp hx
    obtain⟨tA,lA,F7,hl,xy,hnd,hsub⟩:=xw g (vQ g hs hc) hc
    have hrd:=jY gt he (fun q hq=>hv q (by simp[hq])) xy
    have hlen:=Nat.eq_of_beq_eq_true hlen
    subst hlen
    have IT:=RO.own (g.obj n _ hl)
    have hO:Own _ w F7:=⟨hnd,fun b hb=>IT.ge b (hsub b hb),fun b hb=>IT.kind b (hsub b hb)⟩
    have hfl:([F7]:List (List Nat)).flatten=F7:=by simp
    obtain⟨w',r1,r2,r3⟩:=mm (P:=P) (w:=w) (a:=a) bU hC.1 j6 (by rw[Nat.one_mul];exact Nat.le_of_ble_eq_true rU) (by rw[hps];rfl) (Nat.zero_le _) (xs:= [y]) (az:= [F7]) (by rw[hps];rfl) (by rw[hps];rfl) rfl
     (fun i x' f hx' hf=>by
      cases i with
      |zero=>simp at hx' hf;subst hx';subst hf;exact⟨(0,x),by rw[hps];rfl,hrd⟩
      |succ i=>simp at hx') (by rw[hfl];exact hO)
    rw[hfl]at r3
    unfold Oper.wp
    rw[r1]
    refine⟨_,env,rfl,eF.none r2,⟨tA,lA,hl⟩,w.heap.size,F7,dy.sl r3,fun ho=> ?_,hnd,hsub⟩
    have:=(g.ow ho).2
    omega
   split at h
   ·rename_i vc xs hlen rU hb
    simp only[Option.some.injEq]at h
    subst h
    have hE:yC P ty gt e:=hv _ (by simp)
    obtain⟨rfl,j6⟩:=hE
    obtain⟨q1,q2,q3⟩:=qR g hp hb (fun q hq=>hv q (by simp[hq]))
    have hfl:(List.replicate xs.length ([]:List Nat)).flatten= []:=by simp
    obtain⟨w',r1,r2,r3⟩:=mm (P:=P) (w:=w) (a:=a) bU hC.1 j6 (Nat.le_of_ble_eq_true rU) (Nat.eq_of_beq_eq_true hlen) (Nat.le_refl _) (xs:=xs) (az:=List.replicate xs.length []) q1 q2 (by simp)
     (fun i x f hx hf=>by
      obtain⟨p,h1,h2⟩:=q3 i x hx
      rw[List.getElem?_replicate]at hf
      split at hf
      ·simp only[Option.some.injEq]at hf;subst hf;exact⟨p,h1,h2⟩
      ·cases hf) (by rw[hfl];exact Own.nil _ _)
    exact qQ r1 r2 r3
   ·cases h
  ·cases h
 |build t parts=>
  simp only[quiet]at h
  split at h
  ·rename_i z tg fo hk
   have hC:=C t
   rw[hk]at hC
   obtain⟨fs,hu,hi,h1,_,places,Et,iq⟩:=hC
   split at h
   ·rename_i c hb
    simp only[bn,Option.some.injEq]at h
    subst h
    cases hq:P.info? t with
    |none=>simp[hq]at hi
    |some inf=>
     simp[hq]at hi
     obtain⟨cs',h3,h4⟩:=tO (st:=st) (zb:=zb) g hp (pl:=fun j=>places[j]?) iq hb (oO h1)
     refine bg (u:= .agg (Array.mk cs')) ?_ ⟨cs',rfl,h4⟩
     have hrun:=run_build (P:=P) w t (parts.map fun(q:Nat×Operand)=>(q.1,a.eval q.2)) (Array.mk cs') (by
      unfold Program.built
      rw[hq,hu]
      simp only[hi.2,Et]
      rw[Array.toList_map]
      simpa[Value.cells]using h3)
     unfold execOp
     simp only[bU,Sem.run_bind,hrun,Result.andThen_ok,Sem.run_pure]
   ·cases h
  ·cases h
 |nilCheck x=>
  simp only[quiet]at h
  split at h
  ·rename_i n off hx
   simp only[bn,Option.some.injEq]at h
   subst h
   obtain⟨hA,b,hb,hu⟩:=hop hp hx
   refine bg (u:=a.eval x) ?_ ⟨hA,b,hb,hu⟩
   unfold execOp
   simp[bU,hu]
  ·rename_i n i off hx
   simp only[bn,Option.some.injEq]at h
   subst h
   obtain⟨t,l,hl,b,o',len,cap,hb,hu⟩:=hop hp hx
   refine bg (u:=a.eval x) ?_ ⟨t,l,hl,b,o',len,cap,hb,hu⟩
   unfold execOp
   simp[bU,hu]
  ·cases h
 |extract x i=>
  cases x with
  |tmp t=>
   simp only[quiet]at h
   split at h
   ·rename_i l hl
    split at h
    ·rename_i x hx
     simp only[bn,Option.some.injEq]at h
     subst h
     obtain⟨us,hu,fP⟩:=g.slot t _ hl
     obtain⟨u,k1,k2⟩:=fP.at hx
     refine bg ?_ k2
     unfold execOp
     have HI:a.eval (.tmp t)= .tuple us.toArray:=hu
     simp[bU,HI,Instr.extract,k1]
    ·cases h
   ·cases h
  |_=>simp[quiet]at h
 |call c=>
  obtain⟨callee,xs,ts⟩:=c
  cases callee with
  |value x=>
   cases x with
   |func f=>
    simp only[quiet]at h
    split at h
    ·rename_i as c h1 h2
     simp only[Option.some.injEq]at h
     obtain⟨own,rs⟩:=c
     have F8:out.vc= [Sound ty P f as rs]:=by
      rw[←h]
      unfold outs
      dsimp only
      (repeat' split)<;>rfl
     exact xm bU rfl (hv _ (by rw[F8];simp)) hA g (rR g hp h1) h hn
    ·cases h
   |tmp x=>
    simp only[quiet]at h
    split at h
    ·rename_i v hx
     split at h
     ·rename_i f hfn
      split at h
      ·rename_i as c h1 h2
       simp only[Option.some.injEq]at h
       obtain⟨own,rs⟩:=c
       have F8:out.vc= [Sound ty P f as rs]:=by
        rw[←h]
        unfold outs
        dsimp only
        (repeat' split)<;>rfl
       exact xm bU (xp (hop hp hx) hfn) (hv _ (by rw[F8];simp)) hA g (rR g hp h1) h hn
      ·cases h
     ·cases h
    ·cases h
   |_=>simp[quiet]at h
  |builtin b=>
   cases b with
   |append=>
    simp only[quiet]at h
    split at h
    case h_2=>cases h
    rename_i x y t1 t2 hkey hxl htl
    obtain rfl:xs= #[x,y]:=by cases xs;simp_all
    obtain rfl:ts= #[t1,t2]:=by cases ts;simp_all
    split at h
    case h_2=>cases h
    rename_i gt e HJ hk
    have HJ:=Nat.eq_of_beq_eq_true HJ
    subst HJ
    split at h
    case h_2=>cases h
    rename_i n t l n2 pq t' l' hx hy
    split at h
    case h_2=>cases h
    rename_i la lb hnn hca hcb
    have hnn:=Nat.eq_of_beq_eq_true hnn
    subst hnn
    simp only[Option.some.injEq]at h
    subst h
    obtain⟨ea,rfl⟩:=bk hca
    subst ea
    obtain⟨eb,rfl⟩:=bk hcb
    subst eb
    have hE:yC P ty t' e:=hv _ (by simp)
    obtain⟨b1,b2⟩:(l.length+l'.length)*iA t'≤140737488355328∧l.length+l'.length≤maxLen:=hv _ (by simp)
    obtain⟨rfl,j6⟩:=hE
    have hC:=C t1
    rw[hk]at hC
    obtain⟨IU,⟨fp,hs,hsub⟩,hcap⟩:=hop hp hx
    obtain⟨KD,⟨yH,B8,hnd,F9⟩,_⟩:=hop hp hy
    obtain⟨oa,hu⟩:=hcap rfl
    obtain⟨olds,fx,n1,n2,n3,n4,n5,_⟩:=kZ (bI t') (cF t') hs
    obtain⟨news,fy,m1,m2,m3,m4,m5,_⟩:=kZ (bI t') (cF t') B8
    rw[hu]at n1
    obtain⟨v',w',hrun,hres⟩:=CE (ty':=o.type) hC.1 j6 (gH t') (cF t') n1 n3 m1 m3 (CD (bI t') (cF t') m2 m3 m4) b2 b1
    have key:Below w.heap.size w w'∧RA w' st.hp env (.mix n false t' (l++l')) v':=by
     rcases hres with⟨h0,rfl,rfl⟩| ⟨hrow,Ga⟩
     ·have e0:l'= []:=List.eq_nil_of_length_eq_zero h0
      subst e0
      refine⟨Below.refl _ _,IU,⟨fp,?_,hsub⟩,fun hh=>by cases hh⟩
      rw[List.append_nil, ←hu];exact hs
     ·have Ca:Below w.heap.size w w':=⟨Ga.os,Ga.tape,Ga.output,Ga.size,fun b hb=>Ga.block b hb (fun h=>by cases h)⟩
      have hkk:=cF t'
      refine⟨Ca,IU,⟨_,Es (l:=l++l') (az:=fx++fy) (by rw[List.length_append];exact hrow) (by rw[List.length_append,List.length_append,n2,m2]) (fun i x f hx hf=> ?_),fun b hb=> ?_⟩,fun hh=>by cases hh⟩
      ·refine(bI t').below ?_ Ca
       by_cases hi:i<l.length
       ·rw[List.getElem?_append_left hi]at hx
        rw[List.getElem?_append_left (by omega)]at hf
        have h1:i*kk t'+kk t'≤olds.length:=by
         have:=Nat.mul_le_mul_right (kk t') (show i+1≤l.length by omega)
         rw[Nat.add_mul]at this;omega
        rw[List.drop_append_of_le_length (by omega),List.take_append_of_le_length (by rw[List.length_drop];omega)]
        exact n4 i x f hx hf
       ·rw[List.getElem?_append_right (by omega)]at hx
        rw[List.getElem?_append_right (by omega),n2]at hf
        have h1:i*kk t'=olds.length+(i-l.length)*kk t':=by
         rw[n3, ←Nat.add_mul];congr 1;omega
        rw[h1,List.drop_append]
        have h2:olds.drop (olds.length+(i-l.length)*kk t')= []:=List.drop_eq_nil_of_le (by omega)
        rw[h2,List.nil_append,Nat.add_sub_cancel_left]
        exact m4 _ x f hx hf
      ·rcases List.mem_append.1 hb with hb|hb
       ·refine Or.inr fun ho=> ?_
        have h1:=(g.ow ho).2
        have h2:=(hrow.lt b (by simpa using hb)).1
        omega
       ·rw[List.flatten_append]at hb
        rcases List.mem_append.1 hb with hb|hb
        ·exact hsub b (n5.subset hb)
        ·exact Or.inl (F9 b (m5.subset hb))
    unfold Oper.wp execOp
    simp only[bU,resolve,invoke,builtin,Sem.run_bind,Sem.run_pure,Result.andThen_ok,List.map_toArray,List.map_cons,List.map_nil,hu,hrun]
    exact⟨v',env,rfl,eF.none key.1,key.2⟩
   |max=>
    simp only[quiet]at h
    split at h
    ·rename_i k x r hxs
     split at h
     ·rename_i y hy
      simp only[bn,Option.some.injEq]at h
      subst h
      have he:=oQ g hp hxs
      refine bg (u:= .int k y) ?_ ⟨rfl,rfl⟩
      have hf:=oR (P:=P) (w:=w) (f:=Builtin.max2) (F:=FZ) (fun k x y=>rfl) hy
      unfold execOp
      simp[bU,resolve,invoke,builtin,Builtin.max_,he,hf]
     ·cases h
    ·cases h
   |min=>
    simp only[quiet]at h
    split at h
    ·rename_i k x r hxs
     split at h
     ·rename_i y hy
      simp only[bn,Option.some.injEq]at h
      subst h
      have he:=oQ g hp hxs
      refine bg (u:= .int k y) ?_ ⟨rfl,rfl⟩
      have hf:=oR (P:=P) (w:=w) (f:=Builtin.min2) (F:=F0) (fun k x y=>rfl) hy
      unfold execOp
      simp[bU,resolve,invoke,builtin,Builtin.min_,he,hf]
     ·cases h
    ·cases h
   |len=>
    simp only[quiet]at h
    split at h
    ·rename_i x t hxl htl
     obtain rfl:xs= #[x]:=by cases xs;simp_all
     obtain rfl:ts= #[t]:=by cases ts;simp_all
     split at h
     ·rename_i v hx
      split at h
      ·rename_i n hn'
       simp only[bn,Option.some.injEq]at h
       subst h
       have hr:=hop hp hx
       have hC:=C t
       cases v with
       |sl t' l=>
        simp only[lenOf]at hn'
        split at hn'
        ·rename_i g' e' hk
         simp only[Option.some.injEq]at hn'
         subst hn'
         rw[hk]at hC
         obtain⟨fp,⟨oa,cap,hu,_⟩,_⟩:=hr
         exact oK rfl bU hC.1 hu (Or.inl ⟨_,oa,cap,l.length,rfl,rfl,rfl⟩)
        ·cases hn'
       |own m=>
        simp only[lenOf]at hn'
        split at hn'
        ·rename_i g' e' hk
         rw[hk]at hC
         split at hn'
         ·rename_i t' l hl
          simp only[Option.some.injEq]at hn'
          subst hn'
          obtain⟨_,hu⟩:=hr
          obtain⟨oa,cap,hs,_⟩:=RO.sl (g.obj m _ hl)
          exact oK rfl bU hC.1 (hu.trans hs) (Or.inl ⟨_,oa,cap,l.length,rfl,rfl,rfl⟩)
         ·cases hn'
        ·cases hn'
       |vw m p' t' l=>
        simp only[lenOf]at hn'
        split at hn'
        ·rename_i g' e' hk
         simp only[Option.some.injEq]at hn'
         subst hn'
         rw[hk]at hC
         obtain⟨_,⟨fp,⟨oa,cap,hu,_⟩,_⟩,_⟩:=hr
         exact oK rfl bU hC.1 hu (Or.inl ⟨_,oa,cap,l.length,rfl,rfl,rfl⟩)
        ·cases hn'
       |lit v=>
        have hu:=(show cz w st.hp env (.a (.lit v)) _ from hr).lit
        simp only[lenOf]at hn'
        split at hn'
        ·rename_i heq;cases heq
        ·rename_i heq;cases heq
        ·rename_i heq;cases heq
        ·rename_i heq
         simp only[V.lit.injEq]at heq
         subst heq
         split at hn'
         ·rename_i g' e' hk
          simp only[Option.some.injEq]at hn'
          subst hn'
          rw[hk]at hC
          exact oK rfl bU hC.1 hu (Or.inl ⟨_,none,0,0,rfl,rfl,rfl⟩)
         ·cases hn'
        ·rename_i s heq
         simp only[V.lit.injEq]at heq
         subst heq
         split at hn'
         ·rename_i hk
          simp only[Option.some.injEq]at hn'
          subst hn'
          rw[hk]at hC
          exact oK rfl bU hC hu (Or.inr ⟨_,rfl,rfl,rfl⟩)
         ·cases hn'
        ·cases hn'
       |_=>simp[lenOf]at hn'
      ·cases h
     ·cases h
    ·cases h
   |_=>simp[quiet]at h
  |invoke _ _=>simp[quiet]at h
 |_=>simp[quiet]at h
end
end
section
variable{ty:Tag→Nat}
theorem iM{α:Type}{f:Nat×α→α}: ∀{l:List (Nat×α)} {s:Nat},look (l.map fun e=>(e.1,f e)) s=(look l s).map fun x=>f (s,x)
 | [],_=>rfl
 | (j,x)::r,s=>by
   by_cases h:s=j
   ·subst h;rw[List.map_cons,look_eq,look_eq];rfl
   ·rw[List.map_cons,aC h,aC h];exact iM
theorem qT{tmps:Array Value}{d:Nat}{u:Value}{p:List (Nat×Bool)}(h:(p.any fun e=>Nat.beq e.1 d)=false):holds (tmps.setIfInBounds d u) p↔holds tmps p:=by
 have hne: ∀e,e∈p→d≠e.1:=by
  rintro e he rfl
  rw[List.any_eq_false]at h
  exact h e he (by simp)
 constructor
 ·intro hh e he
  have:=hh e he
  rwa [Array.getElem?_setIfInBounds_ne (hne e he)]at this
 ·intro hh e he
  rw[Array.getElem?_setIfInBounds_ne (hne e he)]
  exact hh e he
theorem jG.put{w:World}{hp:Hp}{env:Env}{tmps:Array Value}{d:Nat}{u y:Value}{x:SV}(hm:x.mentions d=false)(h:jG w hp env tmps x y):jG w hp env (tmps.setIfInBounds d u) x y:=by
 cases x with
 |one x=>exact h
 |l9 l=>exact h
 |cond p x=>exact⟨fun hh=>h.1 ((qT hm).1 hh),fun hh=>h.2 fun k=>hh ((qT hm).2 k)⟩
theorem Good.Gb{zb:aY}{st:St}{tmps:Array Value}{w:World}{env:Env}(g:Good ty zb st tmps w env){d:Nat}(hd:d<tmps.size){v:SV}{u:Value}(hv:jG w st.hp env tmps v u)(hm:v.mentions d=false)(f:SV→SV)(hf: ∀s y,look st.sl s=some y→f y= .one (.a .any)∨(f y=y∧y.mentions d=false)):
  Good ty zb ⟨st.n,(d,v)::st.sl.map fun e=>(e.1,f e.2),st.hp⟩ (tmps.setIfInBounds d u) w env:=by
 refine⟨g.obj,g.eO,fun s x hl=> ?_,g.dom,g.pins⟩
 by_cases hs:s=d
 ·subst hs
  have hl:look ((s,v)::_) s=some x:=hl
  rw[look_eq]at hl
  simp only[Option.some.injEq]at hl
  subst hl
  have:(tmps.setIfInBounds s u).getD s undef=u:=by
   rw[Array.getD_eq_getD_getElem?,Array.getElem?_setIfInBounds_self_of_lt hd];rfl
  rw[this]
  exact hv.put hm
 ·have hl:look ((d,v)::_) s=some x:=hl
  rw[aC hs,iM (α:=SV) (f:=fun e:Nat×SV=>f e.2)]at hl
  cases hq:look st.sl s with
  |none=>rw[hq]at hl;cases hl
  |some y=>
   rw[hq]at hl
   simp only[Option.map_some,Option.some.injEq]at hl
   subst hl
   have hgd:(tmps.setIfInBounds d u).getD s undef=tmps.getD s undef:=by
    rw[Array.getD_eq_getD_getElem?,Array.getD_eq_getD_getElem?,Array.getElem?_setIfInBounds_ne (Ne.symm hs)]
   rw[hgd]
   show jG w st.hp env _ (f y) _
   rcases hf s y hq with h| ⟨h,hm'⟩
   ·rw[h];trivial
   ·rw[h];exact(g.slot s y hq).put hm'
theorem Good.put{zb:aY}{st:St}{tmps:Array Value}{w:World}{env:Env}(g:Good ty zb st tmps w env){d:Nat}(hd:d<tmps.size){v:SV}{u:Value}(hv:jG w st.hp env tmps v u)(hm:v.mentions d=false):
  Good ty zb (st.put (some d) v) (tmps.setIfInBounds d u) w env:=by
 unfold St.put
 dsimp only
 split
 ·rename_i hno
  have:=g.Gb hd hv hm id (fun s y hl=>Or.inr ⟨rfl,by
   rw[List.any_eq_false]at hno
   simpa using hno _ (bt hl)⟩)
  simpa using this
 ·refine g.Gb hd hv hm (SV.zY d) fun s y hl=> ?_
  unfold SV.zY
  split
  ·exact Or.inl rfl
  ·rename_i hm';exact Or.inr ⟨rfl,hm'⟩
theorem k9{zb:aY}{st:St}{a:Act}{w:World}{env:Env}(g:Good ty zb st a.tmps w env){dst:Option Nat}(hd: ∀d,dst=some d→d<a.tmps.size){v:SV}{u:Value}(hv:jG w st.hp env a.tmps v u)(hm: ∀d,dst=some d→v.mentions d=false):
  Good ty zb (st.put dst v) (a.put dst u).tmps w env:=by
 cases dst with
 |none=>exact g
 |some d=>exact g.put (hd d rfl) hv (hm d rfl)
theorem eX(a:Act)(dst:Option Nat)(u:Value):(a.put dst u).tmps.size=a.tmps.size:=by
 cases dst<;>simp[Act.put]
theorem tR(st:St)(d:Option Nat)(v:SV):(st.put d v).n=st.n:=by
 unfold St.put
 split
 ·split<;>rfl
 ·rfl
theorem put_defers(a:Act)(dst:Option Nat)(u:Value):(a.put dst u).defers=a.defers:=by
 cases dst<;>rfl
theorem j8{ops:Array Oper}{o:Oper}{j:Nat}{x:Bool}(hg:o.guard=some (j,x)){q:Oper}(hj:ops[j]? =some q){d:Nat}(hd:q.dst=some d)(tmps:Array Value):
  Region.wanted o (yielded ops tmps)=true↔tmps[d]? =some (.bool x):=by
 simp only[Region.wanted,hg,yielded,hj,Option.bind_some,hd]
 constructor
 ·intro h
  have h:=eq_of_beq h
  split at h
  ·rename_i b hb
   simp at h
   rw[hb,h]
  ·cases h
 ·intro h
  rw[h];simp
theorem mq{zb:aY}{st:St}{tmps:Array Value}{w:World}{env:Env}(g:Good ty zb st tmps w env){d:Nat}{p:List (Nat×Bool)}{b x:Bool}(hl:look st.sl d=some (.cond p (.a (.lit (.bool b)))))(h:tmps[d]? =some (.bool x)):holds tmps p∧b=x:=by
 have hs:=g.slot d _ hl
 rw[Array.getD_eq_getD_getElem?,h]at hs
 by_cases hh:holds tmps p
 ·have:=(hs.1 hh).lit
  simp at this
  exact⟨hh,this.symm⟩
 ·have:=hs.2 hh
  simp[undef]at this
theorem As{zb:aY}{st:St}{tmps:Array Value}{w:World}{env:Env}(g:Good ty zb st tmps w env){d:Nat}{b x:Bool}(hl:look st.sl d=some (.one (.a (.lit (.bool b)))))(h:tmps[d]? =some (.bool x)):b=x:=by
 have hs:=g.slot d _ hl
 rw[Array.getD_eq_getD_getElem?,h]at hs
 have:=(show cz w st.hp env (.a (.lit (.bool b))) (.bool x)from hs).lit
 simp at this
 exact this.symm
theorem nQ{zb:aY}{st:St}{tmps:Array Value}{w:World}{env:Env}(g:Good ty zb st tmps w env): ∀{p:List (Nat×Bool)},holds tmps p→ ∀q,q∈hyps st p→q
 | [],_,q,hq=>by simp[hyps]at hq
 | (d,x)::r,h,q,hq=>by
   have h0:tmps[d]? =some (.bool x):=h (d,x) (by simp)
   have hr:holds tmps r:=fun e he=>h e (by simp[he])
   simp only[hyps]at hq
   split at hq
   ·rename_i b hl
    rcases List.mem_cons.1 hq with rfl|hq
    ·exact As g hl h0
    ·exact nQ g hr q hq
   ·rename_i p' b hl
    rcases List.mem_cons.1 hq with rfl|hq
    ·exact(mq g hl h0).2
    ·exact nQ g hr q hq
   ·exact nQ g hr q hq
theorem xz: ∀{hs:List Prop} {q:Prop},yA hs q→(∀h,h∈hs→h)→q
 | [],_,h,_=>h
 |h'::r,q,h,hh=>xz (hs:=r) (h (hh h' (by simp))) fun x hx=>hh x (by simp[hx])
section
variable{P:Program}{zb:aY}{st st':St}{a:Act}{w:World}{Q:Exit→Act→World→Prop}{o:Oper}
def mu(P:Program)(ops:Array Oper)(o:Oper)(a:Act)(w:World)(K:Act→World→Prop)(Q:Exit→Act→World→Prop):Prop:=
 if Region.wanted o (yielded ops a.tmps)then o.wp P a w K Q∨(o.asks P a w∧LetsOut Q)else K (a.put o.dst undef) w
theorem eY{ops:Array Oper}(hg:o.guard=none){K:Act→World→Prop}(h:o.wp P a w K Q):mu P ops o a w K Q:=by
 unfold mu
 rw[if_pos (by simp[Region.wanted,hg])]
 exact .inl h
theorem vS(iv:Inv ty zb st a w)(h:m6 st o.dst=true): ∀d,o.dst=some d→d<a.tmps.size:=by
 intro d hd
 rw[hd]at h
 rw[iv.size]
 exact Nat.le_of_ble_eq_true h
theorem tS{Γ:Nat→TK}(C: ∀t,aQ P t (Γ t)){bD:List (Nat×Nat)}{cr:List (Nat×CR)}{ops:List Oper}{vc:List Prop}{v2:SV}{os:Hp}(h:eJ Γ (yC P ty) (Sound ty P) bD cr ops st o=some (vc,v2,os))(iv:Inv ty zb st a w)(hv: ∀q,q∈vc→q):
  mu P ops.toArray o a w (fun a' w'=>Inv ty zb (St.put ⟨st.n,st.sl,os++st.hp⟩ o.dst v2) a' w') Q:=by
 obtain⟨env,g⟩:=iv.good
 have Eu:=iv.kept.size
 simp only[eJ]at h
 split at h
 ·rename_i m hd _ ef
  have Cf:=vS iv hd
  have hg:o.guard=none:=by
   cases hg:o.guard with
   |none=>rfl
   |some e=>
    obtain⟨j,x⟩:=e
    exfalso
    simp only[cT,hg]at ef
    repeat' split at ef
    all_goals simp at ef
  split at h
  ·rename_i v1 v os hq
   split at h
   ·rename_i hf hn
    simp only[Option.some.injEq,Prod.mk.injEq]at h
    obtain⟨rfl,rfl,rfl⟩:=h
    refine eY hg (Oper.wp_mono ?_ (tP (Q:=Q) C hq g (fun e he=>by simp at he) (iv.vO.now iv.kept) hv hf hn))
    rintro a' w' ⟨u,env',rfl,hN,hr⟩
    have g':=g.grow Eu hf hN
    have hnm: ∀d,o.dst=some d→v.mentions d=false:=by
     intro d _
     cases v with
     |one x=>rfl
     |l9 l=>rfl
     |cond p x=>
      exfalso
      have: ∀(op:Op) (d m:Nat) (out:Out) (p:List (Nat×Bool)) (x:S1),quiet Γ (yC P ty) (Sound ty P) cr st [] d m op=some out→out.v≠ .cond p x:=by
       intro op d m out p x hh
       unfold quiet zZ at hh
       repeat' split at hh
       all_goals first
        | (cases hh;done)
        | (simp only[bn,Option.some.injEq]at hh;subst hh;intro e;cases e;done)
        | (simp only[Option.some.injEq]at hh;subst hh;unfold outs;(repeat' split)<;>(intro e;cases e))
      exact this _ _ _ _ p x hq rfl
    refine⟨by rw[eX,tR];exact iv.size,by rw[put_defers];exact iv.defers,iv.kept.trans (eV hN.below Eu),iv.vO,env',k9 g' Cf hr hnm⟩
   ·cases h
  ·cases h
 ·rename_i m e p hd _ ef
  have Cf:=vS iv hd
  split at h
  ·rename_i hne
   split at h
   ·rename_i v1 v hq
    simp only[Option.some.injEq,Prod.mk.injEq]at h
    obtain⟨rfl,rfl,rfl⟩:=h
    have hmn: ∀d,o.dst=some d→(SV.cond (e::p) v).mentions d=false:=by
     intro d HK
     show((e::p).any fun e=>Nat.beq e.1 d)=false
     rw[List.any_eq_false]at hne ⊢
     intro x hx hb
     have:=Nat.eq_of_beq_eq_true hb
     exact hne x hx (by rw[HK,this];simp)
    have fin: ∀{u:Value} {w':World},Below w.heap.size w w'→eF (ty:=ty) w w' st.hp [] env env→jG w' st.hp env a.tmps (.cond (e::p) v) u→Inv ty zb (st.put o.dst (.cond (e::p) v)) (a.put o.dst u) w':=by
     intro u w' hb hN hr
     have g':=g.grow (os:= []) Eu rfl hN
     exact⟨by rw[eX,tR];exact iv.size,by rw[put_defers];exact iv.defers,iv.kept.trans (eV hb Eu),iv.vO,env,k9 g' Cf hr hmn⟩
    have key: ∃j x q d,o.guard=some (j,x)∧ops[j]? =some q∧q.dst=some d∧(d,x)∈e::p∧(a.tmps[d]? =some (.bool x)→holds a.tmps (e::p)):=by
     unfold cT at ef
     split at ef
     ·simp at ef
     ·rename_i j x hg
      split at ef
      ·rename_i q hj
       split at ef
       ·rename_i d Cg
        split at ef
        ·rename_i b hl
         simp only[Option.some.injEq]at ef
         refine⟨j,x,q,d,hg,hj,Cg,by rw[←ef];simp,fun hh=> ?_⟩
         rw[←ef]
         intro y hy
         simp at hy
         subst hy
         exact hh
        ·rename_i p' b hl
         simp only[Option.some.injEq]at ef
         refine⟨j,x,q,d,hg,hj,Cg,by rw[←ef];simp,fun hh=> ?_⟩
         rw[←ef]
         intro y hy
         rcases List.mem_cons.1 hy with rfl|hy
         ·exact hh
         ·exact(mq g hl hh).1 y hy
        ·cases ef
       ·cases ef
      ·cases ef
    obtain⟨j,x,q,d,hg,hj,Cg,hmem,Gc⟩:=key
    have hw:=j8 (ops:=ops.toArray) hg (by simpa using hj) Cg a.tmps
    unfold mu
    by_cases hb:a.tmps[d]? =some (.bool x)
    ·rw[if_pos (hw.2 hb)]
     have hp:=Gc hb
     left
     refine Oper.wp_mono ?_ (tP (Q:=Q) C hq g hp (iv.vO.now iv.kept) (fun z hz=> ?_) rfl rfl)
     ·rintro a' w' ⟨u,env',rfl,hN,hr⟩
      have he:env'=env:=funext fun n=>hN.old n rfl
      subst he
      exact fin hN.below hN ⟨fun _=>hr,fun hh=>absurd (fun y hy=>hp y hy) hh⟩
     ·exact xz (hv _ (List.mem_map.2 ⟨z,hz,rfl⟩)) (nQ g hp)
    ·rw[if_neg (fun hh=>hb (hw.1 hh))]
     exact fin (Below.refl _ _) (eF.none (Below.refl _ _)) ⟨fun hh=>absurd (hh (d,x) hmem) hb,fun _=>rfl⟩
   ·cases h
  ·cases h
 ·cases h
theorem At{Γ:Nat→TK}(C: ∀t,aQ P t (Γ t)){bD:List (Nat×Nat)}{cr:List (Nat×CR)}{ops:List Oper}{vc:List Prop}(h:Aa Γ (yC P ty) (Sound ty P) bD cr ops st o=some (vc,st'))(iv:Inv ty zb st a w)(hv: ∀q,q∈vc→q):
  mu P ops.toArray o a w (fun a' w'=>Inv ty zb st' a' w') Q:=by
 unfold Aa at h
 split at h
 ·rename_i j7 v os hq
  simp only[Option.some.injEq,Prod.mk.injEq]at h
  obtain⟨rfl,rfl⟩:=h
  exact tS C hq iv hv
 ·cases h
end
end
section
variable{ty:Tag→Nat}
def V.dead:V→V
 | .vw _ _ _ l=> .jW l.length
 |_=> .any
def V.aI(ks kv:List Nat)(v:V):V:=match v.name with
 |some m=>match ks.any (Nat.beq m)with
  |true=>v.dead
  |false=>match kv with
   | []=>v
   |kv=>match v.view with
    |some _=>match kv.any (Nat.beq m)with|true=>v.dead|false=>v
    |none=>v
 |none=>v
def S1.aI(ks kv:List Nat):S1→S1
 | .a v=> .a (v.aI ks kv)
 | .agg l=> .agg (l.map (V.aI ks kv))
def SV.aI(ks kv:List Nat):SV→SV
 | .one x=> .one (x.aI ks kv)
 | .l9 l=> .l9 (l.map (S1.aI ks kv))
 | .cond p x=> .cond p (x.aI ks kv)
def nx.aI(ks kv:List Nat):nx→nx
 | .of n=>match ks.any (Nat.beq n)||kv.any (Nat.beq n)with|true=> .gone|false=> .of n
 |s=>s
def Obj.aI(ks kv:List Nat):Obj→Obj
 | .box c=> .box (c.map (V.aI ks kv))
 | .arr t l=> .arr t l
 | .dh t l s=> .dh t l (s.aI ks kv)
def bh(ks kv:List Nat)(hp:Hp):Hp:=(hp.filter fun e=> !ks.any (Nat.beq e.1)).map fun e=>(e.1,e.2.aI ks kv)
def pinned(ks:List Nat):Bool:=ks.any soft
theorem V.vT{ks kv:List Nat}{v:V}:(v.aI ks kv).iI (fun n=>n∉ks) (fun n=>n∉ks∧n∉kv):=by
 have hx: ∀{l:List Nat} {m:Nat},(l.any (Nat.beq m))=false→m∉l:=by
  intro l m h hm
  rw[List.any_eq_false]at h
  exact h m hm (by simp)
 have DL: ∀x:V,x.dead.iI (fun n=>n∉ks) (fun n=>n∉ks∧n∉kv):=by
  intro x
  cases x<;>exact⟨fun _ h=>by simp[V.dead,V.name]at h,fun _ h=>by simp[V.dead,V.view]at h⟩
 unfold V.aI
 split
 ·rename_i m hm
  split
  ·exact DL v
  ·rename_i hk
   have hk:=hx hk
   have hn: ∀n,v.name=some n→n∉ks:=by
    intro n h;rw[hm]at h;simp only[Option.some.injEq]at h;subst h;exact hk
   split
   ·exact⟨hn,fun n h=>⟨hn n (V.gd h),by simp⟩⟩
   ·split
    ·split
     ·exact DL v
     ·rename_i hv
      have hv:=hx hv
      refine⟨hn,fun n h=>⟨hn n (V.gd h),?_⟩⟩
      have:=V.gd h
      rw[hm]at this;simp only[Option.some.injEq]at this;subst this;exact hv
    ·rename_i HL
     exact⟨hn,fun n h=>by rw[HL]at h;cases h⟩
 ·rename_i hm
  refine⟨fun n h=> ?_,fun n h=> ?_⟩
  ·rw[hm]at h;cases h
  ·have:=V.gd h;rw[hm]at this;cases this
theorem RA.dead{w:World}{hp:Hp}{env:Env}{v:V}{u:Value}(h:RA w hp env v u):RA w hp env v.dead u:=by
 cases v with
 |vw n p t l=>
  obtain⟨_,⟨fp,⟨oa,cap,rfl,hc,hm,h3⟩,_⟩,_⟩:=h
  refine⟨oa,cap,rfl,hc,hm,fun ho=> ?_⟩
  rcases h3 with⟨_,_,h4⟩| ⟨b,off,az,h4,_⟩
  ·exact h4 ho
  ·rw[ho]at h4;cases h4
 |_=>trivial
theorem RA.aI{w:World}{hp:Hp}{env:Env}{ks kv:List Nat}{v:V}{u:Value}(h:RA w hp env v u):RA w hp env (v.aI ks kv) u:=by
 unfold V.aI
 repeat' split
 all_goals first
  |exact h
  |exact h.dead
  |trivial
abbrev nC(ks kv:List Nat)(w:World)(hp:Hp)(env:Env)(w':World)(eK:Hp)(env':Env):Prop:=Step (fun n=>n∉ks) (fun n=>n∉ks∧n∉kv) w hp env w' eK env'
section
variable{ks kv:List Nat}{w w':World}{hp eK:Hp}{env env':Env}
theorem BE.ew(s:nC ks kv w hp env w' eK env'){r:nx}{t:Tag}{x:T t}{u:Value}(h:BE w hp env r t x u):BE w' eK env' (r.aI ks kv) t x u:=by
 cases r with
 |gone=>trivial
 |mp=>trivial
 |fM=>exact BE.step s (r:= .fM) (fun n hn=>by cases hn) h
 |of n=>
  unfold nx.aI
  dsimp only
  split
  ·trivial
  ·rename_i hk
   rw[Bool.or_eq_false_iff,List.any_eq_false,List.any_eq_false]at hk
   refine BE.step s (r:= .of n) (fun m hm=> ?_) h
   simp only[nx.name,Option.some.injEq]at hm
   subst hm
   exact⟨fun hm=>hk.1 n hm (by simp),fun hm=>hk.2 n hm (by simp)⟩
theorem RA.ew(s:nC ks kv w hp env w' eK env'){v:V}{u:Value}(h:RA w hp env v u):RA w' eK env' (v.aI ks kv) u:=
 RA.step s V.vT h.aI
theorem aD.map{α β γ:Type}{R:α→β→Prop}{R':γ→β→Prop}{f:α→γ}: ∀{as:List α} {bs:List β},(∀a b,R a b→R' (f a) b)→aD R as bs→aD R' (as.map f) bs
 | [],[],_,_=>trivial
 |a::as,b::bs,h,⟨h1,h2⟩=>⟨h a b h1,aD.map h h2⟩
 | [],_::_,_,h=>h.elim
 |_::_,[],_,h=>h.elim
theorem cz.ew(s:nC ks kv w hp env w' eK env'){x:S1}{u:Value}(h:cz w hp env x u):cz w' eK env' (x.aI ks kv) u:=by
 cases x with
 |a v=>exact RA.ew s h
 |agg l=>obtain⟨cs,hu,hl⟩:=h;exact⟨cs,hu,hl.map fun a b hr=>RA.ew s hr⟩
theorem jG.ew(s:nC ks kv w hp env w' eK env'){tmps:Array Value}{x:SV}{u:Value}(h:jG w hp env tmps x u):jG w' eK env' tmps (x.aI ks kv) u:=by
 cases x with
 |one x=>exact cz.ew s h
 |l9 l=>obtain⟨us,hu,hl⟩:=h;exact⟨us,hu,hl.map fun a b hr=>cz.ew s hr⟩
 |cond p x=>exact⟨fun hh=>cz.ew s (h.1 hh),h.2⟩
theorem Good.ew{zb:aY}{st:St}{tmps:Array Value}(g:Good ty zb st tmps w env)(s:nC ks kv w st.hp env w' eK env')
  (ho: ∀n o,look eK n=some o→RO ty w' eK env' n o (env' n))(hd: ∀n m o o',n≠m→look eK n=some o→look eK m=some o'→ ∀b,b∈(env' n).fp→b∉(env' m).fp)
  (hm: ∀n o,look eK n=some o→ ∀b,b∈(env' n).fp→b∈zb.L∨zb.w.heap.size≤b)(hp: ∀n,ec n=true→(env' n).v=(zb.pv n).v∧ ∀b,b∈(env' n).fp→b∈(zb.pv n).fp):
  Good ty zb ⟨st.n,st.sl.map fun e=>(e.1,e.2.aI ks kv),eK⟩ tmps w' env':=by
 refine⟨ho,hd,fun t v hl=> ?_,hm,hp⟩
 have hl:look (st.sl.map fun e=>(e.1,e.2.aI ks kv)) t=some v:=hl
 rw[iM (α:=SV) (f:=fun e:Nat×SV=>e.2.aI ks kv)]at hl
 cases hq:look st.sl t with
 |none=>rw[hq]at hl;cases hl
 |some y=>
  rw[hq]at hl
  simp only[Option.map_some,Option.some.injEq]at hl
  subst hl
  exact jG.ew s (g.slot t y hq)
end
theorem aZ{ks kv:List Nat}{hp:Hp}{n:Nat}:look (bh ks kv hp) n=if n∈ks then none else(look hp n).map (Obj.aI ks kv):=by
 unfold bh
 rw[iM (α:=Obj) (f:=fun e:Nat×Obj=>e.2.aI ks kv)]
 have:look (hp.filter fun e=> !ks.any (Nat.beq e.1)) n=if n∈ks then none else look hp n:=by
  induction hp with
  |nil=>simp[look]
  |cons e r ih=>
   obtain⟨j,x⟩:=e
   by_cases hj:j∈ks
   ·have:(ks.any (Nat.beq j))=true:=List.any_eq_true.2 ⟨j,hj,by simp⟩
    rw[List.filter_cons_of_neg (by simp[this]),ih]
    by_cases hn:n∈ks
    ·simp[hn]
    ·have:n≠j:=by rintro rfl;exact hn hj
     rw[aC this]
   ·have:(ks.any (Nat.beq j))=false:=List.any_eq_false.2 fun y hy hb=>hj (by have:=Nat.eq_of_beq_eq_true hb;rw[this];exact hy)
    rw[List.filter_cons_of_pos (by simp[this])]
    by_cases hn:n=j
    ·subst hn;rw[look_eq,look_eq,if_neg hj]
    ·rw[aC hn,aC hn,ih]
 rw[this]
 split<;>rfl
theorem gf: ∀{l:List V},iH l=true→ ∀v,v∈l→v≠ .any
 |x::r,h,v,hv=>by
  cases x with
  |any=>simp[iH]at h
  |_=>
   rcases List.mem_cons.1 hv with rfl|hv
   ·exact fun e=>by cases e
   ·exact gf (l:=r) (by simpa[iH]using h) v hv
def oS(Γ:Nat→TK)(st:St):Op→Option St
 | .store t x y=>match cC st [] x,vo st [] y with
   |some (.a (.ptr n off)),some v=>match look st.hp n with
    |some (.box c)=>match Γ t,v with
     | .st z _ _, .agg l=>match Nat.beq l.length z.length&&iH l,vp c off l with
       |true,some c'=>some ⟨st.n,st.sl,(n, .box c')::st.hp⟩
       |_,_=>none
     | .st _ _ _, .a _=>none
     | .other,_=>none
     |_, .a .any=>none
     |_, .a v=>match vp c off [v]with
      |some c'=>some ⟨st.n,st.sl,(n, .box c')::st.hp⟩
      |none=>none
     |_,_=>none
    |_=>none
   |_,_=>none
 | .mapUpdate t m x y=>match Γ t with
   | .mp=>match cC st [] m,cC st [] x,cC st [] y with
     |some (.a (.l6 n)),some (.a (.lit (.int .i64 k))),some (.a (.lit (.int .i64 v)))=>match look st.hp n with
      |some (.dh tg l .mp)=>match cB .int tg l with
       |some l=>some ⟨st.n,st.sl,(n, .dh .int (oE l k v) .mp)::st.hp⟩
       |none=>none
      |_=>none
     |_,_,_=>none
   |_=>none
 |_=>none
section
variable{P:Program}{zb:aY}{st st':St}{a:Act}{w:World}{env:Env}{Q:Exit→Act→World→Prop}{o:Oper}
theorem RA.one(g:Good ty zb st a.tmps w env){v:V}{u:Value}(h:RA w st.hp env v u)(hv:v≠ .any):u.oneCell'=true:=by
 cases v with
 |any=>exact absurd rfl hv
 |lit x=>obtain⟨rfl,h1⟩:=h;exact h1
 |sl t l=>obtain⟨fp,⟨oa,cap,rfl,_⟩,_⟩:=h;rfl
 |own n=>
  obtain⟨⟨t,l,hl⟩,rfl⟩:=h
  obtain⟨oa,cap,h,_⟩:=RO.sl (g.obj n _ hl)
  rw[h];rfl
 |ptr n off=>obtain⟨_,b,_,rfl⟩:=h;rfl
 |ou f n=>obtain⟨_,b,_,rfl⟩:=h;rfl
 |jW k=>obtain⟨oa,cap,rfl,_⟩:=h;rfl
 |fZ v t l=>obtain⟨_,fp,⟨oa,cap,rfl,_⟩,_⟩:=h;rfl
 |fA n i off=>obtain⟨t,l,_,b,o,len,cap,_,rfl⟩:=h;rfl
 |ip t x off=>obtain⟨b,o,cs,fp,rfl,_⟩:=h;rfl
 |vw n p t l=>obtain⟨_,⟨fp,⟨oa,cap,rfl,_⟩,_⟩,_⟩:=h;rfl
 |qn n t l=>obtain⟨_,b,fp,⟨oa,cap,rfl,_⟩,_⟩:=h;rfl
 |mix n c t l=>obtain⟨_,⟨fp,⟨oa,cap,rfl,_⟩,_⟩,_⟩:=h;rfl
 |l6 n=>
  obtain⟨⟨t,l,s,hl⟩,rfl⟩:=h
  rcases RO.tF (g.obj n _ hl)with⟨_,r,lx,_,h,_⟩| ⟨_,_,us,hB,_⟩
  ·rw[h];rfl
  ·obtain⟨oa,cap,h,_⟩:=hB.sl
   rw[h];rfl
 |qm n p t x off=>obtain⟨_,b,o,cs,fp,rfl,_⟩:=h;rfl
theorem ju(g:Good ty zb st a.tmps w env): ∀{l:List V} {us:List Value},aD (RA w st.hp env) l us→(∀v,v∈l→v≠ .any)→ ∀u,u∈us→u.oneCell'=true
 |v::l,u::us,⟨h1,h2⟩,hn,x,hx=>by
  rcases List.mem_cons.1 hx with rfl|hx
  ·exact RA.one g h1 (hn v (by simp))
  ·exact ju g h2 (fun y hy=>hn y (by simp[hy])) x hx
 | [],_::_,h,_,_,_=>h.elim
theorem Au(g:Good ty zb st a.tmps w env){n:Nat}{c c':List V}(hl:look st.hp n=some (.box c)){b:Nat}{cs us:List Value}{e:TypeId}{off:Nat}(tQ:env n=⟨.pointer (some ⟨b,0,none⟩),[b]⟩)(hh:w.heap[b]? =some (.cells (Array.mk cs) e (0,0)))
  (hlen:off+us.length≤cs.length)(hc:aD (RA w st.hp env) c' (cs.take off++(us++cs.drop (off+us.length)))):
  Good ty zb ⟨st.n,st.sl,(n, .box c')::st.hp⟩ a.tmps (w.setCells b off us) env:=by
 have hk: ∀x,x≠b→(w.setCells b off us).heap[x]? =w.heap[x]? :=fun x hx=>aR b us off w x hx
 have hlk: ∀m o,look ((n,Obj.box c')::st.hp) m=some o→(m=n∧o= .box c')∨(m≠n∧look st.hp m=some o):=by
  intro m o hm
  by_cases hmn:m=n
  ·subst hmn;rw[look_eq]at hm;simp only[Option.some.injEq]at hm;exact Or.inl ⟨rfl,hm.symm⟩
  ·rw[aC hmn]at hm;exact Or.inr ⟨hmn,hm⟩
 have how:Ow st.hp env b:=⟨n,_,hl,by rw[tQ];simp⟩
 have s:Step (fun _=>True) (fun _=>True) w st.hp env (w.setCells b off us) ((n, .box c')::st.hp) env:=by
  refine⟨fun x _ hx=>hk x (fun e=>hx (e▸how)),?_,?_,?_⟩
  ·rintro x _ ⟨m,o,h1,h2⟩
   rcases hlk m o h1 with⟨rfl,rfl⟩| ⟨_,h1⟩
   ·exact⟨m,_,hl,h2⟩
   ·exact⟨m,o,h1,h2⟩
  ·intro m o _ h1
   by_cases hmn:m=n
   ·subst hmn
    rw[hl]at h1
    simp only[Option.some.injEq]at h1
    subst h1
    exact⟨_,look_eq,trivial,rfl⟩
   ·exact⟨o,by rw[aC hmn];exact h1,by cases o<;>simp[Obj.like],rfl⟩
  ·intro m t l _ h1
   have hmn:m≠n:=by rintro rfl;rw[hl]at h1;cases h1
   refine⟨by rw[aC hmn];exact h1,rfl,fun x hx=>hk x ?_⟩
   rintro rfl
   exact g.eO m n _ _ hmn h1 hl x hx (by rw[tQ];simp)
 refine⟨fun m o hm=> ?_,fun m m' o o' hne h1 h2=> ?_,fun t v hv=>jG.step s (fun v _=>v.bQ) (g.slot t v hv),fun m o hm b hb=> ?_,g.pins⟩
 ·rcases hlk m o hm with⟨rfl,rfl⟩| ⟨hmn,hm⟩
  ·refine⟨b,_,e,tQ,?_,hc.mono fun v u _ h=>RA.step s v.bQ h⟩
   rw[oq hh,fG us cs off hlen]
  ·have hro:=g.obj m o hm
   refine hro.step s (Obj.bQ _) fun x hx=>hk x ?_
   rintro rfl
   exact g.eO m n o _ hmn hm hl x hx (by rw[tQ];simp)
 ·rcases hlk m o h1 with⟨e1,e2⟩| ⟨_,k1⟩<;>rcases hlk m' o' h2 with⟨e3,e4⟩| ⟨_,k2⟩
  ·exact absurd (e1.trans e3.symm) hne
  ·exact g.eO m m' _ _ hne (e1▸hl) k2
  ·exact g.eO m m' _ _ hne k1 (e3▸hl)
  ·exact g.eO m m' _ _ hne k1 k2
 ·rcases hlk m o hm with⟨e1,_⟩| ⟨_,k1⟩
  ·subst e1;exact g.dom m _ hl b hb
  ·exact g.dom m o k1 b hb
theorem oT{b:Nat}(hb:b∈zb.L∨zb.w.heap.size≤b){c:Array Value}{e:TypeId}(hh:w.heap[b]? =some (.cells c e (0,0)))(off:Nat)(us:List Value):Kept zb w (w.setCells b off us):=by
 have h0:=nX (B:=0) (w:=w) (Below.refl 0 w) (Nat.zero_le b) off us
 refine⟨h0.os,h0.tape,h0.output,h0.size,fun x hx hn=>aR b us off w x ?_,fun x c' e' hx=> ?_⟩
 ·rintro rfl
  rcases hb with h|h
  ·exact hn h
  ·omega
 ·by_cases IV:x=b
  ·subst IV
   rw[hh]at hx
   simp only[Option.some.injEq,Go.Obj.cells.injEq,and_true]at hx
   obtain⟨rfl,rfl⟩:=hx
   obtain⟨c2,h1,h2⟩:=bC x e us off w c hh
   exact⟨c2,h1,h2⟩
  ·exact⟨c',by rw[aR b us off w x IV];exact hx,rfl⟩
theorem gM{t b off:Nat}{v:Value}{us:List Value}(hv:v.cells=us.toArray)(ht:w.there b off us.length)(hi:(P.info? t).map (·.size)=some us.length)(h1: ∀u,u∈us→u.oneCell'=true):
  (storeVar t ⟨b,off,none⟩ v).run P w= .ok () (w.setCells b off us):=by
 have:=run_storeVar_mid (P:=P) w b off t us.toArray (by simpa using ht) (by simpa using hi) (all_oneCell_toArray h1)
 unfold storeVar at this ⊢
 rw[hv]
 exact this
theorem Av(g:Good ty zb st a.tmps w env){n:Nat}{l0 l':List Int}(hl:look st.hp n=some (.dh .int l0 .mp)){r:Nat}(tQ:env n=⟨.map (some r),[r]⟩){o0:Go.Obj}(hh:w.heap[r]? =some o0){es:Array MapEntry}{clock:Nat}(he:rP es.toList l'):
  Good ty zb ⟨st.n,st.sl,(n, .dh .int l' .mp)::st.hp⟩ a.tmps {w with heap:=w.heap.setIfInBounds r (.map es clock)} env:=by
 have hk: ∀x,x≠r→(w.heap.setIfInBounds r (.map es clock))[x]? =w.heap[x]? :=fun x hx=>(Go.MapKept.heap_set hh).2 x hx
 have hlk: ∀m o,look ((n,Obj.dh .int l' .mp)::st.hp) m=some o→(m=n∧o= .dh .int l' .mp)∨(m≠n∧look st.hp m=some o):=by
  intro m o hm
  by_cases hmn:m=n
  ·subst hmn;rw[look_eq]at hm;simp only[Option.some.injEq]at hm;exact Or.inl ⟨rfl,hm.symm⟩
  ·rw[aC hmn]at hm;exact Or.inr ⟨hmn,hm⟩
 have how:Ow st.hp env r:=⟨n,_,hl,by rw[tQ];simp⟩
 have s:Step (fun _=>True) (fun _=>True) w st.hp env {w with heap:=w.heap.setIfInBounds r (.map es clock)} ((n, .dh .int l' .mp)::st.hp) env:=by
  refine⟨fun x _ hx=>hk x (fun e=>hx (e▸how)),?_,?_,?_⟩
  ·rintro x _ ⟨m,o,h1,h2⟩
   rcases hlk m o h1 with⟨rfl,rfl⟩| ⟨_,h1⟩
   ·exact⟨m,_,hl,h2⟩
   ·exact⟨m,o,h1,h2⟩
  ·intro m o _ h1
   by_cases hmn:m=n
   ·subst hmn
    rw[hl]at h1
    simp only[Option.some.injEq]at h1
    subst h1
    exact⟨_,look_eq,rfl,rfl⟩
   ·exact⟨o,by rw[aC hmn];exact h1,by cases o<;>simp[Obj.like],rfl⟩
  ·intro m t l _ h1
   have hmn:m≠n:=by rintro rfl;rw[hl]at h1;cases h1
   refine⟨by rw[aC hmn];exact h1,rfl,fun x hx=>hk x ?_⟩
   rintro rfl
   exact g.eO m n _ _ hmn h1 hl x hx (by rw[tQ];simp)
 refine⟨fun m o hm=> ?_,fun m m' o o' hne h1 h2=> ?_,fun t v hv=>jG.step s (fun v _=>v.bQ) (g.slot t v hv),fun m o hm b hb=> ?_,g.pins⟩
 ·rcases hlk m o hm with⟨rfl,rfl⟩| ⟨hmn,hm⟩
  ·exact⟨r,l',rfl,tQ,es,clock,(Go.MapKept.heap_set hh).1,he⟩
  ·have hro:=g.obj m o hm
   refine hro.step s (Obj.bQ _) fun x hx=>hk x ?_
   rintro rfl
   exact g.eO m n o _ hmn hm hl x hx (by rw[tQ];simp)
 ·rcases hlk m o h1 with⟨e1,e2⟩| ⟨_,k1⟩<;>rcases hlk m' o' h2 with⟨e3,e4⟩| ⟨_,k2⟩
  ·exact absurd (e1.trans e3.symm) hne
  ·exact g.eO m m' _ _ hne (e1▸hl) k2
  ·exact g.eO m m' _ _ hne k1 (e3▸hl)
  ·exact g.eO m m' _ _ hne k1 k2
 ·rcases hlk m o hm with⟨e1,_⟩| ⟨_,k1⟩
  ·subst e1;exact g.dom m _ hl b hb
  ·exact g.dom m o k1 b hb
theorem Aw{r:Nat}(hb:r∈zb.L∨zb.w.heap.size≤r){G9 es:Array MapEntry}{c0 clock:Nat}(hh:w.heap[r]? =some (.map G9 c0)):Kept zb w {w with heap:=w.heap.setIfInBounds r (.map es clock)}:=by
 refine⟨rfl,rfl,rfl,by simp,fun x hx hn=>(Go.MapKept.heap_set hh).2 x ?_,fun x c' e' hx=>⟨c',?_,rfl⟩⟩
 ·rintro rfl
  rcases hb with h|h
  ·exact hn h
  ·omega
 ·rw[(Go.MapKept.heap_set hh).2 x (by rintro rfl;rw[hh]at hx;cases hx)];exact hx
theorem yI{Γ:Nat→TK}(C: ∀t,aQ P t (Γ t))(Z: ∀t,(∀z tg fo,Γ t≠ .st z tg fo)→Γ t≠ .other→(P.info? t).map (·.size)=some 1)(h:oS Γ st o.op=some st')(g:Good ty zb st a.tmps w env):
  o.wp P a w (fun a' w'=>a'=a.put o.dst undef∧Kept zb w w'∧Good ty zb st' a.tmps w' env∧st'.n=st.n∧st'.sl=st.sl) Q:=by
 have hop: ∀{x v},cC st [] x=some v→cz w st.hp env v (a.eval x):=fun hx=>bX g (fun e he=>by simp at he) hx
 have JA: ∀{x v},vo st [] x=some v→cz w st.hp env v (a.eval x):=fun hx=>j0 g (fun e he=>by simp at he) hx
 generalize bU:o.op=op at h
 cases op with
 |mapUpdate t m x y=>
  simp only[oS]at h
  split at h
  case h_2=>cases h
  rename_i hk
  have hC:=C t
  rw[hk]at hC
  obtain⟨kt,et,ht,HH,_,_⟩:=hC
  split at h
  case h_2=>cases h
  rename_i n k v hm hx hy
  split at h
  case h_2=>cases h
  rename_i tg l0 hl
  split at h
  case h_2=>cases h
  rename_i l hc
  simp only[Option.some.injEq]at h
  obtain⟨e1,e2⟩:=bk hc
  subst e1
  subst e2
  obtain⟨_,hu⟩:=hop hm
  have hx:=(hop hx).lit
  have hy:=(hop hy).lit
  obtain⟨r,lx,h1,h2,h3⟩:=g.obj n _ hl
  rw[hc]at h1
  simp only[Option.some.injEq]at h1
  subst h1
  obtain⟨es,clock,q1,q2,G9,c0,q3⟩:=kS (x:=k) (y:=v) ht HH h3
  have Ce:a.eval m= .map (some r):=by rw[hu,h2]
  have hM:=g.dom n _ hl r (by rw[h2];simp)
  subst h
  unfold Oper.wp execOp
  simp only[bU,Ce,hx,hy,q1,Sem.run_bind,Sem.run_pure,Result.andThen_ok]
  exact⟨by trivial,Aw hM q3,Av g hl h2 q3 q2,by trivial,by trivial⟩
 |store t x y=>
  simp only[oS]at h
  split at h
  ·rename_i n off v hx hy
   have hx:=hop hx
   have hy:=JA hy
   split at h
   ·rename_i c hl
    obtain⟨_,b,hb,hu⟩:=hx
    obtain⟨b',cs,e,tQ,hh,hc⟩:=g.obj n _ hl
    have hM:=g.dom n _ hl b' (by rw[tQ];simp)
    have F5:b=b':=by rw[tQ]at hb;simpa using hb.symm
    subst F5
    have fin: ∀{us:List Value} {c':List V},(a.eval y).cells=us.toArray→(P.info? t).map (·.size)=some us.length→(∀u,u∈us→u.oneCell'=true)→off+us.length≤cs.length→aD (RA w st.hp env) c' (cs.take off++(us++cs.drop (off+us.length)))→st'=⟨st.n,st.sl,(n, .box c')::st.hp⟩→
      o.wp P a w (fun a' w'=>a'=a.put o.dst undef∧Kept zb w w'∧Good ty zb st' a.tmps w' env∧st'.n=st.n∧st'.sl=st.sl) Q:=by
     intro us c' h1 h2 h3 h4 h5 h6
     subst h6
     unfold Oper.wp execOp
     simp only[bU,hu,Instr.storeAt,Instr.sureAddr,Sem.run_bind,Sem.run_pure,Result.andThen_ok,gM h1 (vI hh off us.length h4) h2 h3]
     exact⟨by trivial,oT hM hh off us,Au g hl tQ hh h4 h5,by trivial,by trivial⟩
    split at h
    ·rename_i z tg fo l hk _
     split at h
     ·rename_i c' hlen hs
      simp only[Option.some.injEq]at h
      obtain⟨us,CF,vR⟩:=hy
      obtain⟨k1,k2⟩:=rT hc vR hs
      have hC:=C t
      rw[hk]at hC
      obtain⟨fs,_,hi,_⟩:=hC
      simp only[Bool.and_eq_true]at hlen
      have nR:=Nat.eq_of_beq_eq_true hlen.1
      refine fin (us:=us) (by rw[CF];rfl) ?_ ?_ k1 k2 h.symm
      ·rw[vR.len,nR]
       cases hq:P.info? t with
       |none=>simp[hq]at hi
       |some i=>simp[hq]at hi;simp[hi.1]
      ·exact ju g vR (gf hlen.2)
     ·cases h
    ·cases h
    ·cases h
    ·cases h
    ·rename_i v k1 k2 k3 _
     split at h
     ·rename_i c' hs
      simp only[Option.some.injEq]at h
      obtain⟨q1,q2⟩:=rT (vs:= [v]) (us:= [a.eval y]) hc ⟨hy,trivial⟩ hs
      have hne:v≠ .any:=fun e=>k1 e
      refine fin (us:= [a.eval y]) (dw g hy hne) (Z t (fun z tg fo hz=>k2 z tg fo hz) k3) ?_ q1 q2 h.symm
      intro u HI
      rw[List.mem_singleton.1 HI]
      exact RA.one g hy hne
     ·cases h
    ·cases h
   ·cases h
  ·cases h
 |_=>simp[oS]at h
end
end
section
variable{ty:Tag→Nat}
theorem ld{α:Type}{k:Nat}{E:ER α}(G:bW k E)(hk:0<k){w:World}{u:Value}{l:List α}{fp:List Nat}(h:Sl k E w u l fp):
  ∃(news:List Value) (fx:List (List Nat)),Src w u l.length news∧fx.length=l.length∧news.length=l.length*k∧(∀i x f,l[i]? =some x→fx[i]? =some f→E w ((news.drop (i*k)).take k) x f)∧fx.flatten.Sublist fp:=by
 obtain⟨news,fx,h1,h2,h3,h4,h5,_⟩:=kZ G hk h
 exact⟨news,fx,h1,h2,h3,h4,h5⟩
theorem nx.Ax{ks kv:List Nat}{r:nx}(h:r≠ .mp):r.aI ks kv≠ .mp:=by
 cases r with
 |mp=>exact absurd rfl h
 |gone=>intro e;cases e
 |fM=>intro e;cases e
 |of n=>unfold nx.aI;dsimp only;split<;>(intro e;cases e)
theorem RO.ew{ks kv:List Nat}{w w':World}{hp eK:Hp}{env env':Env}(s:nC ks kv w hp env w' eK env'){n:Nat}{o:Obj}{co:CO}
  (hk: ∀b,b∈co.fp→w'.heap[b]? =w.heap[b]?)(h:RO ty w hp env n o co):RO ty w' eK env' n (o.aI ks kv) co:=by
 cases o with
 |box c=>
  obtain⟨b,cs,e,rfl,hh,hc⟩:=h
  exact⟨b,cs,e,rfl,by rw[hk b (by simp)];exact hh,hc.map fun a u hr=>RA.ew s hr⟩
 |arr t l=>exact RO.aB h hk
 |dh t l r=>
  rcases RO.tF h with⟨rfl,h⟩| ⟨hr,h1,us,hB,h2,h3⟩
  ·exact vN.aB h hk
  ·exact RO.Ek (nx.Ax hr) ⟨h1,us,dy.aB oH hB hk,h2,fun i x u hx hu=>BE.ew s (h3 i x u hx hu)⟩
def St.gone(st:St)(ks:List Nat)(d:Nat)(t:Tag)(l:List (T t)):St:=
 match ks with
 | []=>⟨st.n,st.sl,(d, .arr t l)::st.hp⟩
 |ks=>⟨st.n,st.sl.map fun e=>(e.1,e.2.aI ks []),(d, .arr t l)::bh ks [] st.hp⟩
theorem V.cO(v:V):v.aI [] []=v:=by
 unfold V.aI;split<;>simp
theorem S1.cO(x:S1):x.aI [] []=x:=by
 cases x with
 |a v=>simp[S1.aI,V.cO]
 |agg l=>simp only[S1.aI,S1.agg.injEq];rw[List.map_congr_left (g:=id) fun v _=>V.cO v,List.map_id]
theorem SV.cO(x:SV):x.aI [] []=x:=by
 cases x with
 |one x=>simp[SV.aI,S1.cO]
 |l9 l=>simp only[SV.aI,SV.l9.injEq];rw[List.map_congr_left (g:=id) fun v _=>S1.cO v,List.map_id]
 |cond p x=>simp[SV.aI,S1.cO]
theorem vU(hp:Hp):bh [] [] hp=hp:=by
 unfold bh
 rw[List.filter_eq_self.2 (by simp),List.map_congr_left (g:=id),List.map_id]
 rintro⟨n,o⟩ _
 cases o with
 |box c=>simp only[Obj.aI,id];rw[List.map_congr_left (g:=id) fun v _=>V.cO v,List.map_id]
 |arr t l=>rfl
 |dh t l s=>cases s<;>rfl
theorem St.gone_eq(st:St)(ks:List Nat)(d:Nat)(t:Tag)(l:List (T t)):st.gone ks d t l=⟨st.n,st.sl.map fun e=>(e.1,e.2.aI ks []),(d, .arr t l)::bh ks [] st.hp⟩:=by
 unfold St.gone
 split
 ·rw[vU,List.map_congr_left (g:=id),List.map_id]
  rintro⟨n,x⟩ _
  simp[SV.cO]
 ·rfl
section
variable{P:Program}{zb:aY}{st st':St}{a:Act}{w:World}{env:Env}{Q:Exit→Act→World→Prop}{o:Oper}
theorem vV{ks:List Nat}(h:pinned ks=false){n:Nat}(hn:n∈ks):soft n=false:=by
 unfold pinned at h
 rw[List.any_eq_false]at h
 simpa using h n hn
theorem qU(g:Good ty zb st a.tmps w env)(hB:zb.w.heap.size≤w.heap.size){ks:List Nat}(hpk:pinned ks=false){d:Nat}(Gd:ec d=false)(hd:look (bh ks [] st.hp) d=none){v v':Value}{w':World}{ob:Obj}{fp fx cL:List Nat}
  (dN: ∀b,b∈fp++fx→ ∃i o,i∈ks∧look st.hp i=some o∧b∈(env i).fp)(CH: ∀b,v.ownBlock=some b→b∈fp)
  (JB: ∀env':Env,env' d=⟨v',cL⟩→nC ks [] w st.hp env w' ((d,ob)::bh ks [] st.hp) env'→RO ty w' ((d,ob)::bh ks [] st.hp) env' d ob ⟨v',cL⟩)(hg:w.grownBy w' v.ownBlock)(hsub: ∀b,b∈cL→b∈fp∨b∈fx∨b=w.heap.size):
  ∃env',Good ty zb ⟨st.n,st.sl.map fun e=>(e.1,e.2.aI ks []),(d,ob)::bh ks [] st.hp⟩ a.tmps w' env'∧(env' d).v=v'∧(∀n,n≠d→env' n=env n)∧(env' d).fp=cL:=by
 refine⟨fun n=>if n=d then⟨v',cL⟩else env n,?_,by simp,fun n hn=>by simp[hn],by simp⟩
 have hlk: ∀m o,look ((d,ob)::bh ks [] st.hp) m=some o→(m=d∧o=ob)∨(m≠d∧m∉ks∧ ∃o',look st.hp m=some o'∧o=o'.aI ks []):=by
  intro m o hm
  by_cases jH:m=d
  ·subst jH;rw[look_eq]at hm;simp only[Option.some.injEq]at hm;exact Or.inl ⟨rfl,hm.symm⟩
  ·rw[aC jH,aZ]at hm
   split at hm
   ·cases hm
   ·rename_i hks
    cases hq:look st.hp m with
    |none=>rw[hq]at hm;cases hm
    |some o'=>rw[hq]at hm;simp only[Option.map_some,Option.some.injEq]at hm;exact Or.inr ⟨jH,hks,o',rfl,hm.symm⟩
 have how: ∀b,b∈cL→b<w.heap.size→ ∃i o,i∈ks∧look st.hp i=some o∧b∈(env i).fp:=by
  intro b hb hlt
  rcases hsub b hb with h|h|h
  ·exact dN b (List.mem_append_left _ h)
  ·exact dN b (List.mem_append_right _ h)
  ·omega
 have hnd: ∀m o,m∉ks→look st.hp m=some o→m≠d:=by
  rintro m o hks h1 rfl
  rw[aZ,if_neg hks,h1]at hd
  cases hd
 have hst: ∀m o,m∉ks→look st.hp m=some o→ ∀b,b∈(env m).fp→w'.heap[b]? =w.heap[b]? :=by
  intro m o hks h3 b hb
  refine hg.block b ((g.obj m o h3).l5 b hb) fun e=> ?_
  obtain⟨i,oi,hi,h5,h6⟩:=dN b (List.mem_append_left _ (CH b e.symm))
  exact g.eO m i _ _ (fun e=>hks (e▸hi)) h3 h5 b hb h6
 have s:nC ks [] w st.hp env w' ((d,ob)::bh ks [] st.hp) (fun n=>if n=d then⟨v',cL⟩else env n):=by
  refine⟨fun b hb hno=>hg.block b hb fun e=> ?_,?_,?_,?_⟩
  ·obtain⟨i,o',_,h1,h2⟩:=dN b (List.mem_append_left _ (CH b e.symm))
   exact hno ⟨i,o',h1,h2⟩
  ·rintro b hb ⟨m,o',h1,h2⟩
   rcases hlk m o' h1 with⟨rfl,_⟩| ⟨jH,hks,qV,h3,rfl⟩
   ·simp at h2
    obtain⟨i,o',_,h3,h4⟩:=how b h2 hb
    exact⟨i,o',h3,h4⟩
   ·simp[jH]at h2
    exact⟨m,qV,h3,h2⟩
  ·intro m o' hks h1
   have jH:=hnd m o' hks h1
   refine⟨o'.aI ks [],by rw[aC jH,aZ,if_neg hks,h1];rfl,by cases o'<;>simp[Obj.like,Obj.aI],by simp[jH]⟩
  ·rintro m t' l' ⟨hks,_⟩ h1
   have jH:=hnd m _ hks h1
   exact⟨by rw[aC jH,aZ,if_neg hks,h1];rfl,by simp[jH],hst m _ hks h1⟩
 refine g.ew s (fun m o' hm=> ?_) (fun m m' o1 o2 hne h1 h2 b hb hb'=> ?_) (fun m o' hm b hb=> ?_) (fun m hm=> ?_)
 ·rcases hlk m o' hm with⟨e1,e2⟩| ⟨jH,hks,qV,h3,rfl⟩
  ·rw[e1,e2]
   simp only[if_true]
   exact JB _ (by simp) s
  ·simp only[if_neg jH]
   have hro:=g.obj m qV h3
   exact hro.ew s (hst m qV hks h3)
 ·rcases hlk m o1 h1 with⟨e1,_⟩| ⟨jH,hks,q1,h3,_⟩<;>rcases hlk m' o2 h2 with⟨e2,_⟩| ⟨yJ,Ew,q2,h4,_⟩
  ·exact hne (e1.trans e2.symm)
  ·simp only[if_pos e1]at hb
   simp only[if_neg yJ]at hb'
   have hlt:=(g.obj m' q2 h4).l5 b hb'
   obtain⟨i,oi,hi,h5,h6⟩:=how b hb hlt
   exact g.eO m' i _ _ (fun e=>Ew (e▸hi)) h4 h5 b hb' h6
  ·simp only[if_pos e2]at hb'
   simp only[if_neg jH]at hb
   have hlt:=(g.obj m q1 h3).l5 b hb
   obtain⟨i,oi,hi,h5,h6⟩:=how b hb' hlt
   exact g.eO m i _ _ (fun e=>hks (e▸hi)) h3 h5 b hb h6
  ·simp only[if_neg jH]at hb
   simp only[if_neg yJ]at hb'
   exact g.eO m m' _ _ hne h3 h4 b hb hb'
 ·rcases hlk m o' hm with⟨e1,_⟩| ⟨jH,hks,q1,h3,_⟩
  ·simp only[if_pos e1]at hb
   by_cases hlt:b<w.heap.size
   ·obtain⟨i,oi,hi,h5,h6⟩:=how b hb hlt
    exact g.dom i oi h5 b h6
   ·exact Or.inr (by omega)
  ·simp only[if_neg jH]at hb
   exact g.dom m q1 h3 b hb
 ·have:m≠d:=by rintro rfl;rw[Gd]at hm;cases hm
  simp only[if_neg this]
  exact g.pins m hm
theorem yK(g:Good ty zb st a.tmps w env)(hB:zb.w.heap.size≤w.heap.size){ks:List Nat}(hpk:pinned ks=false){d:Nat}(Gd:ec d=false)(hd:look (bh ks [] st.hp) d=none){v v':Value}{w':World}{t:Tag}{l:List (T t)}{fp fx cL:List Nat}
  (dN: ∀b,b∈fp++fx→ ∃i o,i∈ks∧look st.hp i=some o∧b∈(env i).fp)(CH: ∀b,v.ownBlock=some b→b∈fp)
  (HM:dy (kk t) (rd t) 0 (ty t) w' v' l cL)(hg:w.grownBy w' v.ownBlock)(hsub: ∀b,b∈cL→b∈fp∨b∈fx∨b=w.heap.size):
  ∃env',Good ty zb ⟨st.n,st.sl.map fun e=>(e.1,e.2.aI ks []),(d, .arr t l)::bh ks [] st.hp⟩ a.tmps w' env'∧(env' d).v=v'∧(∀n,n≠d→env' n=env n)∧(env' d).fp=cL:=
 qU g hB hpk Gd hd dN CH (fun _ _ _=>RO.xk HM) hg hsub
theorem tT(g:Good ty zb st a.tmps w env)(hB:zb.w.heap.size≤w.heap.size){ks:List Nat}(hpk:pinned ks=false){d:Nat}(Gd:ec d=false)(hd:look (bh ks [] st.hp) d=none){v v':Value}{w':World}{t:Tag}{l:List (T t)}{fp fx cL:List Nat}
  (dN: ∀b,b∈fp++fx→ ∃i o,i∈ks∧look st.hp i=some o∧b∈(env i).fp)(CH: ∀b,v.ownBlock=some b→b∈fp)
  (HM:dy (kk t) (rd t) 0 (ty t) w' v' l cL)(hg:w.grownBy w' v.ownBlock)(hsub: ∀b,b∈cL→b∈fp∨b∈fx∨b=w.heap.size):
  ∃env',Good ty zb ⟨st.n,st.sl.map fun e=>(e.1,e.2.aI ks []),(d, .arr t l)::bh ks [] st.hp⟩ a.tmps w' env'∧(env' d).v=v':=by
 obtain⟨env',h1,h2,_⟩:=yK g hB hpk Gd hd dN CH HM hg hsub
 exact⟨env',h1,h2⟩
end
def vW(st:St)(t:Tag):S1→Option (List (T t)×List Nat)
 | .a (.own n)=>match look st.hp n with
   |some (.arr t' l)=>match cB t t' l with|some l=>some (l,[n])|none=>none
   |_=>none
 | .a (.lit (.slice none 0 0))=>some ([],[])
 |_=>none
def vX(st:St)(t:Tag):S1→Option (List (T t)×List Nat)
 | .a (.own n)=>match look st.hp n with
   |some (.arr t' l)=>match cB t t' l with|some l=>some (l,match flat t with|true=> []|false=> [n])|none=>none
   |_=>none
 | .a (.sl t' l)=>match flat t,cB t t' l with
   |true,some l=>some (l,[])
   |false,some l=>match l with| []=>some ([],[])|_=>none
   |_,_=>none
 | .a (.vw n _ t' l)=>match cB t t' l with
   |some l=>some (l,match flat t with|true=> []|false=> [n])
   |none=>none
 | .a (.qn n t' l)=>match cB t t' l with
   |some l=>some (l,[n])
   |none=>none
 | .a (.lit (.slice none 0 0))=>some ([],[])
 |_=>none
def fQ{α:Type}:List α→List α→List α
 | [],l=>l
 | [x],l=>x::l
 |k,l=>k++l
theorem bN{α:Type}(k l:List α):fQ k l=k++l:=by
 unfold fQ;split<;>rfl
def DM(k m:List Nat):Bool:=k.all fun x=> !m.any fun y=>Nat.beq x y
def vY(P:Program)(ty:Tag→Nat)(Γ:Nat→TK)(st:St)(m0:Nat):Op→Option (List Prop×St×SV)
 | .call ⟨.builtin .append,xs,ts⟩=>match xs.toList,ts.toList with
   | [s,x],[t1,t2]=>match Γ t1,Nat.beq t1 t2 with
     | .sl t e,true=>match Nat.beq e (ty t),cC st [] s,cC st [] x with
       |true,some vs,some vx=>match vW st t vs,vX st t vx with
        |some (l,k),some (lx,m)=>match DM k m&& !pinned (fQ k m)&& !ec m0,look (bh (fQ k m) [] st.hp) m0 with
         |true,none=>some ([El P ty t,(l.length+lx.length)*iA t≤140737488355328∧l.length+lx.length≤maxLen],
           st.gone (fQ k m) m0 t (l++lx), .one (.a (.own m0)))
         |_,_=>none
        |_,_=>none
       |_,_,_=>none
     |_,_=>none
   |_,_=>none
 |_=>none
section
variable{P:Program}{zb:aY}{st:St}{a:Act}{w:World}{env:Env}{Q:Exit→Act→World→Prop}{o:Oper}
theorem yL(g:Good ty zb st a.tmps w env){t:Tag}{x:S1}{u:Value}{l:List (T t)}{k:List Nat}(hr:cz w st.hp env x u)(h:vW st t x=some (l,k)):
  pinned k=false→ ∃fp,dy (kk t) (rd t) 0 (ty t) w u l fp∧(∀b,b∈fp→ ∃i o,i∈k∧look st.hp i=some o∧b∈(env i).fp)
  :=by
 intro hpk
 unfold vW at h
 split at h
 ·rename_i n
  split at h
  ·rename_i t' l' hl
   split at h
   ·rename_i l2 hc
    simp only[Option.some.injEq,Prod.mk.injEq]at h
    obtain⟨rfl,rfl⟩:=h
    obtain⟨e,rfl⟩:=bk hc
    subst e
    obtain⟨_,rfl⟩:=hr
    exact⟨(env n).fp,RO.Ab (vV hpk (by simp)) (g.obj n _ hl),fun b hb=>⟨n,_,by simp,hl,hb⟩⟩
   ·cases h
  ·cases h
 ·simp only[Option.some.injEq,Prod.mk.injEq]at h
  obtain⟨rfl,rfl⟩:=h
  have hu:=(show cz w st.hp env (.a (.lit tB)) u from hr).lit
  subst hu
  exact⟨[],dy.nil _ _ _ _ _,by simp⟩
 ·cases h
theorem oU{t:Tag}(hf:flat t=true){u:Value}{l:List (T t)}{fp:List Nat}(hs:Sl (kk t) (rd t) w u l fp):
  ∃(news:List Value) (fx:List (List Nat)),Src w u l.length news∧fx.length=l.length∧news.length=l.length*kk t∧(∀i x f,l[i]? =some x→fx[i]? =some f→rd t w ((news.drop (i*kk t)).take (kk t)) x f)∧fx.flatten= []:=by
 obtain⟨news,fx,h1,h2,h3,h4,h5⟩:=ld (bI t) (cF t) hs
 refine⟨news,fx,h1,h2,h3,h4,?_⟩
 rw[List.flatten_eq_nil_iff]
 intro f hf'
 obtain⟨i,hi⟩:=List.getElem?_of_mem hf'
 have hil:i<l.length:=by have:=(List.getElem?_eq_some_iff.1 hi).1;omega
 exact Cp t hf (h4 i _ f (List.getElem?_eq_getElem hil) hi)
theorem yM(g:Good ty zb st a.tmps w env){t:Tag}{x:S1}{u:Value}{l:List (T t)}{k:List Nat}(hr:cz w st.hp env x u)(h:vX st t x=some (l,k)):
  ∃(news:List Value) (fx:List (List Nat)),Src w u l.length news∧fx.length=l.length∧news.length=l.length*kk t∧(∀i x f,l[i]? =some x→fx[i]? =some f→rd t w ((news.drop (i*kk t)).take (kk t)) x f)∧
   (∀b,b∈fx.flatten→ ∃i o,i∈k∧look st.hp i=some o∧b∈(env i).fp)∧Own 0 w fx.flatten:=by
 unfold vX at h
 split at h
 ·rename_i n
  split at h
  ·rename_i t' l' hl
   split at h
   ·rename_i l2 hc
    simp only[Option.some.injEq,Prod.mk.injEq]at h
    obtain⟨rfl,hk⟩:=h
    obtain⟨e,rfl⟩:=bk hc
    subst e
    obtain⟨_,rfl⟩:=hr
    have hb:=RO.sl (g.obj n _ hl)
    split at hk
    ·rename_i hf
     subst hk
     obtain⟨news,fx,h1,h2,h3,h4,h5⟩:=oU hf hb
     exact⟨news,fx,h1,h2,h3,h4,by simp[h5],by rw[h5];exact Own.nil _ _⟩
    ·subst hk
     obtain⟨news,fx,h1,h2,h3,h4,h5⟩:=ld (bI t') (cF t') hb
     have ho:=RO.own (g.obj n _ hl)
     exact⟨news,fx,h1,h2,h3,h4,fun b hb=>⟨n,_,by simp,hl,h5.subset hb⟩,⟨h5.nodup ho.nodup,fun b hb=>ho.ge b (h5.subset hb),fun b hb=>ho.kind b (h5.subset hb)⟩⟩
   ·cases h
  ·cases h
 ·rename_i t' l'
  split at h
  ·rename_i l2 hf hc
   simp only[Option.some.injEq,Prod.mk.injEq]at h
   obtain⟨rfl,rfl⟩:=h
   obtain⟨e,rfl⟩:=bk hc
   subst e
   obtain⟨fp,hs,_⟩:=hr
   obtain⟨news,fx,h1,h2,h3,h4,h5⟩:=oU hf hs
   exact⟨news,fx,h1,h2,h3,h4,by simp[h5],by rw[h5];exact Own.nil _ _⟩
  ·rename_i l2 hf hc
   split at h
   ·simp only[Option.some.injEq,Prod.mk.injEq]at h
    obtain⟨rfl,rfl⟩:=h
    obtain⟨e,he⟩:=bk hc
    subst e
    obtain rfl:l'= []:=he.symm
    obtain⟨fp,hs,_⟩:=hr
    obtain⟨news,fx,h1,h2,h3,h4,h5⟩:=ld (bI t') (cF t') hs
    have vm:fx= []:=List.eq_nil_of_length_eq_zero h2
    subst vm
    exact⟨news,[],h1,rfl,h3,by simp,by simp,Own.nil _ _⟩
   ·cases h
  ·cases h
 ·rename_i n _ t' l'
  split at h
  ·rename_i l2 hc
   simp only[Option.some.injEq,Prod.mk.injEq]at h
   obtain⟨rfl,hk⟩:=h
   obtain⟨e,rfl⟩:=bk hc
   subst e
   obtain⟨⟨tA,lA,hl⟩,⟨fp,hs,hnd,hsub⟩,_⟩:=hr
   split at hk
   ·rename_i hf
    subst hk
    obtain⟨news,fx,h1,h2,h3,h4,h5⟩:=oU hf hs
    exact⟨news,fx,h1,h2,h3,h4,by simp[h5],by rw[h5];exact Own.nil _ _⟩
   ·subst hk
    obtain⟨news,fx,h1,h2,h3,h4,h5⟩:=ld (bI t') (cF t') hs
    have ho:=RO.own (g.obj n _ hl)
    exact⟨news,fx,h1,h2,h3,h4,fun b hb=>⟨n,_,by simp,hl,hsub b (h5.subset hb)⟩,⟨h5.nodup hnd,fun b _=>Nat.zero_le _,fun b hb=>ho.kind b (hsub b (h5.subset hb))⟩⟩
  ·cases h
 ·rename_i n t' l'
  split at h
  ·rename_i l2 hc
   simp only[Option.some.injEq,Prod.mk.injEq]at h
   obtain⟨rfl,rfl⟩:=h
   obtain⟨e,rfl⟩:=bk hc
   subst e
   obtain⟨⟨tA,lA,hl⟩,b,fp,hs,hb,hnd,hsub⟩:=hr
   obtain⟨news,fx,h1,h2,h3,h4,_,h5⟩:=kZ (bI t') (cF t') hs
   have h5:=h5 b fp rfl
   have ho:=RO.own (g.obj n _ hl)
   exact⟨news,fx,h1,h2,h3,h4,fun c hc=>⟨n,_,by simp,hl,hsub c (by rw[←h5];exact hc)⟩,⟨by rw[h5];exact hnd,fun c _=>Nat.zero_le _,fun c hc=>ho.kind c (hsub c (by rw[←h5];exact hc))⟩⟩
  ·cases h
 ·simp only[Option.some.injEq,Prod.mk.injEq]at h
  obtain⟨rfl,rfl⟩:=h
  have hu:=(show cz w st.hp env (.a (.lit tB)) u from hr).lit
  subst hu
  exact⟨[],[],Or.inl ⟨rfl,rfl,rfl⟩,rfl,by simp,by simp,by simp,Own.nil _ _⟩
 ·cases h
theorem CI{Γ:Nat→TK}(C: ∀t,aQ P t (Γ t)){m0:Nat}{vc:List Prop}{st':St}{v:SV}(h:vY P ty Γ st m0 o.op=some (vc,st',v))(g:Good ty zb st a.tmps w env)(hB:zb.w.heap.size≤w.heap.size)(hv: ∀q,q∈vc→q):
  o.wp P a w (fun a' w'=> ∃u env',a'=a.put o.dst u∧Kept zb w w'∧Good ty zb st' a.tmps w' env'∧st'.n=st.n∧jG w' st'.hp env' a.tmps v u) Q:=by
 have hop: ∀{x v},cC st [] x=some v→cz w st.hp env v (a.eval x):=fun hx=>bX g (fun e he=>by simp at he) hx
 generalize bU:o.op=op at h
 cases op with
 |call c=>
  obtain⟨callee,xs,ts⟩:=c
  cases callee with
  |builtin b=>
   cases b with
   |append=>
    simp only[vY]at h
    split at h
    ·rename_i s x t1 t2 hxl htl
     obtain rfl:xs= #[s,x]:=by cases xs;simp_all
     obtain rfl:ts= #[t1,t2]:=by cases ts;simp_all
     split at h
     ·rename_i t e hk vZ
      have vZ:=Nat.eq_of_beq_eq_true vZ
      subst vZ
      split at h
      ·rename_i vs vx he hs hx
       have he:=Nat.eq_of_beq_eq_true he
       split at h
       ·rename_i l k lx m hds JC
        split at h
        ·rename_i hno hlk
         simp only[Bool.and_eq_true,Bool.not_eq_true']at hno
         obtain⟨⟨hno,hpk⟩,Et⟩:=hno
         rw[bN]at hpk
         have HN:pinned k=false:=by
          unfold pinned at hpk ⊢
          rw[List.any_append,Bool.or_eq_false_iff]at hpk
          exact hpk.1
         simp only[Option.some.injEq,Prod.mk.injEq,bN]at h
         rw[bN]at hlk
         obtain⟨rfl,h2,rfl⟩:=h
         rw[St.gone_eq]at h2
         subst h2
         have j6:El P ty t:=hv _ (by simp)
         obtain⟨aL,aU⟩:(l.length+lx.length)*iA t≤140737488355328∧l.length+lx.length≤maxLen:=hv _ (by simp)
         obtain⟨fp,hD,oV⟩:=yL g (hop hs) hds HN
         obtain⟨news,fx,n1,n2,n3,n4,n5,n6⟩:=yM g (hop hx) JC
         have hC:=C t1
         rw[hk]at hC
         have FU:Own 0 w (fp++fx.flatten):=by
          have ho:=hD.own
          refine⟨List.nodup_append.2 ⟨ho.nodup,n6.nodup,?_⟩,fun b hb=> ?_,fun b hb=> ?_⟩
          ·rintro b hb c hc rfl
           obtain⟨i,oi,hi,h1,h2⟩:=oV b hb
           obtain⟨j,oj,hj,h3,h4⟩:=n5 b hc
           have hij:i≠j:=by
            rintro rfl
            simp only[DM,List.all_eq_true,Bool.not_eq_true',List.any_eq_false]at hno
            exact hno i hi i hj (by simp)
           exact g.eO i j _ _ hij h1 h3 b h2 h4
          ·rcases List.mem_append.1 hb with hb|hb
           ·exact ho.ge b hb
           ·exact n6.ge b hb
          ·rcases List.mem_append.1 hb with hb|hb
           ·exact ho.kind b hb
           ·exact n6.kind b hb
         refine wX s x t1 bU (bI t) (cF t) 0 (ty t) (bP t) (iA t) (by rw[←he];exact hC.1) j6 (gH t) _ l fp rfl hD _ rfl lx news fx n1 n2 n3 n4 FU aU aL (Nat.zero_le _) ?_
         intro v' w' cL k1 k2 k3 k4 k5 _
         obtain⟨env',hg',DN⟩:=tT (ty:=ty) g hB (ks:=k++m) hpk Et hlk (v:=a.eval s) (fp:=fp) (fx:=fx.flatten)
          (by
           intro b hb
           rcases List.mem_append.1 hb with hb|hb
           ·obtain⟨i,oi,hi,h1⟩:=oV b hb;exact⟨i,oi,List.mem_append_left _ hi,h1⟩
           ·obtain⟨i,oi,hi,h1⟩:=n5 b hb;exact⟨i,oi,List.mem_append_right _ hi,h1⟩)
          (by
           intro b hb
           obtain⟨xs,az,_,_,_,dN,_⟩:=hD
           rw[dN,hb];simp)
          k1 k2 k4
         refine⟨v',env',rfl,⟨k2.os,k2.tape,k2.output,k2.size,fun b hb hn=>k2.block b (by omega) fun e=> ?_,k5⟩,hg',rfl,⟨t,_,look_eq⟩,DN.symm⟩
         have Ch:b∈fp:=by
          obtain⟨xs,az,_,_,_,dN,_⟩:=hD
          rw[dN, ←e];simp
         obtain⟨i,oi,hi,h1,h2⟩:=oV b Ch
         rcases g.dom i oi h1 b h2 with h|h
         ·exact hn h
         ·omega
        ·cases h
       ·cases h
      ·cases h
     ·cases h
    ·cases h
   |_=>simp[vY]at h
  |_=>simp[vY]at h
 |_=>simp[vY]at h
end
end
section
variable{ty:Tag→Nat}
def takes(st:St):List V→Option (List V×List Nat)
 | []=>some ([],[])
 | .lit v::r=>match takes st r with|some (c,k)=>some (.lit v::c,k)|none=>none
 | .own n::r=>match look st.hp n,takes st r with
   |some (.arr t l),some (c,k)=>some (.sl t l::c,n::k)
   |_,_=>none
 |_=>none
def dj(st:St):List V→Option (List V×List Nat)
 | []=>some ([],[])
 | .lit v::r=>match dj st r with|some (c,k)=>some (.lit v::c,k)|none=>none
 | .own n::r=>match look st.hp n,dj st r with
   |some (.arr t l),some (c,k)=>some (.sl t l::c,n::k)
   |_,_=>none
 | .vw n _ t l::r=>match look st.hp n,dj st r with
   |some (.arr _ _),some (c,k)=>some (.sl t l::c,n::k)
   |_,_=>none
 |_=>none
def lf(st:St)(g:Tag):Nat→List (Nat×Operand)→Option (List Prop×List (T g)×List Nat)
 |_,[]=>some ([],[],[])
 |i,(j,x)::r=>match Nat.beq i j,cC st [] x with
  |true,some s=>match dj st (cellsOf s)with
   |some (c,k)=>match enc g c,lf st g (i+1) r with
    |some (vc,y),some (vcs,ys,ks)=>some (vc++vcs,y::ys,k++ks)
    |_,_=>none
   |none=>none
  |_,_=>none
def gN:List Nat→Bool
 | []=>true
 |n::r=> !(r.any fun m=>Nat.beq n m)&&gN r
def oW(P:Program)(ty:Tag→Nat)(Γ:Nat→TK)(st:St)(m0:Nat):Op→Option (List Prop×St×SV)
 | .buildSlice t len parts=>match Γ t with
   | .sl g e=>match Nat.beq e (ty g),Nat.beq parts.toList.length len,Nat.ble (len*kk g) 16777216,lf st g 0 parts.toList with
     |true,true,true,some (vc,xs,ks)=>match gN ks&& !pinned ks&& !ec m0,look (bh ks [] st.hp) m0 with
      |true,none=>some (El P ty g::vc,st.gone ks m0 g xs, .one (.a (.own m0)))
      |_,_=>none
     |_,_,_,_=>none
   |_=>none
 |_=>none
theorem dQ: ∀{l:List Nat},gN l=true→l.Nodup
 | [],_=>List.nodup_nil
 |n::r,h=>by
  simp only[gN,Bool.and_eq_true,Bool.not_eq_true',List.any_eq_false]at h
  exact List.nodup_cons.2 ⟨fun hm=>h.1 n hm (by simp),dQ h.2⟩
section
variable{P:Program}{zb:aY}{st:St}{a:Act}{w:World}{env:Env}{Q:Exit→Act→World→Prop}{o:Oper}
theorem lg(g:Good ty zb st a.tmps w env): ∀{l c:List V} {k:List Nat} {us:List Value},aD (RA w st.hp env) l us→takes st l=some (c,k)→k.Nodup→
  ∃fp,aN w c us fp∧Own 0 w fp∧ ∀b,b∈fp→ ∃i o,i∈k∧look st.hp i=some o∧b∈(env i).fp
 | [],c,k,us,hr,h,_=>by
   simp only[takes,Option.some.injEq,Prod.mk.injEq]at h
   obtain⟨rfl,rfl⟩:=h
   cases us with
   |nil=>exact⟨[],rfl,Own.nil _ _,by simp⟩
   |cons _ _=>exact hr.elim
 |v::r,c,k,us,hr,h,hnd=>by
  cases us with
  |nil=>exact hr.elim
  |cons u us=>
   cases v with
   |lit x=>
    simp only[takes]at h
    split at h
    ·rename_i c' k' h'
     simp only[Option.some.injEq,Prod.mk.injEq]at h
     obtain⟨rfl,rfl⟩:=h
     obtain⟨fp,h1,h2,h3⟩:=lg g hr.2 h' hnd
     obtain⟨e1,e2⟩:=hr.1
     exact⟨fp,⟨[],fp,⟨e1,e2,rfl⟩,h1,rfl⟩,h2,h3⟩
    ·cases h
   |own n=>
    simp only[takes]at h
    split at h
    ·rename_i t l c' k' hl h'
     simp only[Option.some.injEq,Prod.mk.injEq]at h
     obtain⟨rfl,rfl⟩:=h
     obtain⟨hn1,hn2⟩:=List.nodup_cons.1 hnd
     obtain⟨fp,h1,h2,h3⟩:=lg g hr.2 h' hn2
     obtain⟨_,rfl⟩:=hr.1
     have hb:=RO.sl (g.obj n _ hl)
     have ho:=RO.own (g.obj n _ hl)
     refine⟨(env n).fp++fp,⟨_,_,hb,h1,rfl⟩,⟨List.nodup_append.2 ⟨ho.nodup,h2.nodup,?_⟩,fun b hb=> ?_,fun b hb=> ?_⟩,fun b hb=> ?_⟩
     ·rintro b hb x hx rfl
      obtain⟨i,o,hi,h4,h5⟩:=h3 b hx
      exact g.eO n i _ _ (fun e=>hn1 (e▸hi)) hl h4 b hb h5
     ·rcases List.mem_append.1 hb with hb|hb
      ·exact ho.ge b hb
      ·exact h2.ge b hb
     ·rcases List.mem_append.1 hb with hb|hb
      ·exact ho.kind b hb
      ·exact h2.kind b hb
     ·rcases List.mem_append.1 hb with hb|hb
      ·exact⟨n,_,by simp,hl,hb⟩
      ·obtain⟨i,o,hi,h4,h5⟩:=h3 b hb
       exact⟨i,o,List.mem_cons_of_mem _ hi,h4,h5⟩
    ·cases h
   |_=>simp[takes]at h
theorem dR(g:Good ty zb st a.tmps w env){s:S1}{u:Value}(hr:cz w st.hp env s u)(hn:iH (cellsOf s)=true):aD (RA w st.hp env) (cellsOf s) u.cells.toList:=by
 cases s with
 |a v=>
  have:=dw g (show RA w st.hp env v u from hr) (gf hn v (by simp[cellsOf]))
  rw[this]
  exact⟨hr,trivial⟩
 |agg l=>
  obtain⟨cs,rfl,hl⟩:=hr
  exact hl
theorem ck{st:St}: ∀{l c:List V} {k:List Nat},takes st l=some (c,k)→iH l=true
 | [],_,_,_=>rfl
 |v::r,c,k,h=>by
  cases v with
  |lit x=>
   simp only[takes]at h
   split at h
   ·rename_i h';exact ck (l:=r) h'
   ·cases h
  |own n=>
   simp only[takes]at h
   split at h
   ·rename_i h';exact ck (l:=r) h'
   ·cases h
  |_=>simp[takes]at h
theorem jv(g:Good ty zb st a.tmps w env): ∀{l c:List V} {k:List Nat} {us:List Value},aD (RA w st.hp env) l us→dj st l=some (c,k)→k.Nodup→
  ∃fp,aN w c us fp∧Own 0 w fp∧ ∀b,b∈fp→ ∃i o,i∈k∧look st.hp i=some o∧b∈(env i).fp
 | [],c,k,us,hr,h,_=>by
   simp only[dj,Option.some.injEq,Prod.mk.injEq]at h
   obtain⟨rfl,rfl⟩:=h
   cases us with
   |nil=>exact⟨[],rfl,Own.nil _ _,by simp⟩
   |cons _ _=>exact hr.elim
 |v::r,c,k,us,hr,h,hnd=>by
  cases us with
  |nil=>exact hr.elim
  |cons u us=>
   cases v with
   |lit x=>
    simp only[dj]at h
    split at h
    ·rename_i c' k' h'
     simp only[Option.some.injEq,Prod.mk.injEq]at h
     obtain⟨rfl,rfl⟩:=h
     obtain⟨fp,h1,h2,h3⟩:=jv g hr.2 h' hnd
     obtain⟨e1,e2⟩:=hr.1
     exact⟨fp,⟨[],fp,⟨e1,e2,rfl⟩,h1,rfl⟩,h2,h3⟩
    ·cases h
   |own n=>
    simp only[dj]at h
    split at h
    ·rename_i t l c' k' hl h'
     simp only[Option.some.injEq,Prod.mk.injEq]at h
     obtain⟨rfl,rfl⟩:=h
     obtain⟨hn1,hn2⟩:=List.nodup_cons.1 hnd
     obtain⟨fp,h1,h2,h3⟩:=jv g hr.2 h' hn2
     obtain⟨_,rfl⟩:=hr.1
     have hb:=RO.sl (g.obj n _ hl)
     have ho:=RO.own (g.obj n _ hl)
     refine⟨(env n).fp++fp,⟨_,_,hb,h1,rfl⟩,⟨List.nodup_append.2 ⟨ho.nodup,h2.nodup,?_⟩,fun b hb=> ?_,fun b hb=> ?_⟩,fun b hb=> ?_⟩
     ·rintro b hb x hx rfl
      obtain⟨i,o,hi,h4,h5⟩:=h3 b hx
      exact g.eO n i _ _ (fun e=>hn1 (e▸hi)) hl h4 b hb h5
     ·rcases List.mem_append.1 hb with hb|hb
      ·exact ho.ge b hb
      ·exact h2.ge b hb
     ·rcases List.mem_append.1 hb with hb|hb
      ·exact ho.kind b hb
      ·exact h2.kind b hb
     ·rcases List.mem_append.1 hb with hb|hb
      ·exact⟨n,_,by simp,hl,hb⟩
      ·obtain⟨i,o,hi,h4,h5⟩:=h3 b hb
       exact⟨i,o,List.mem_cons_of_mem _ hi,h4,h5⟩
    ·cases h
   |vw n p t l=>
    simp only[dj]at h
    split at h
    ·rename_i t0 l0 c' k' hl h'
     simp only[Option.some.injEq,Prod.mk.injEq]at h
     obtain⟨rfl,rfl⟩:=h
     obtain⟨hn1,hn2⟩:=List.nodup_cons.1 hnd
     obtain⟨fp,h1,h2,h3⟩:=jv g hr.2 h' hn2
     obtain⟨_,⟨fv,hs,HL,hsub⟩,_⟩:=hr.1
     have ho:=RO.own (g.obj n _ hl)
     refine⟨fv++fp,⟨_,_,hs,h1,rfl⟩,⟨List.nodup_append.2 ⟨HL,h2.nodup,?_⟩,fun b hb=> ?_,fun b hb=> ?_⟩,fun b hb=> ?_⟩
     ·rintro b hb x hx rfl
      obtain⟨i,o,hi,h4,h5⟩:=h3 b hx
      exact g.eO n i _ _ (fun e=>hn1 (e▸hi)) hl h4 b (hsub b hb) h5
     ·rcases List.mem_append.1 hb with hb|hb
      ·exact ho.ge b (hsub b hb)
      ·exact h2.ge b hb
     ·rcases List.mem_append.1 hb with hb|hb
      ·exact ho.kind b (hsub b hb)
      ·exact h2.kind b hb
     ·rcases List.mem_append.1 hb with hb|hb
      ·exact⟨n,_,by simp,hl,hsub b hb⟩
      ·obtain⟨i,o,hi,h4,h5⟩:=h3 b hb
       exact⟨i,o,List.mem_cons_of_mem _ hi,h4,h5⟩
    ·cases h
   |_=>simp[dj]at h
theorem eR{st:St}: ∀{l c:List V} {k:List Nat},dj st l=some (c,k)→iH l=true
 | [],_,_,_=>rfl
 |v::r,c,k,h=>by
  cases v with
  |lit x=>
   simp only[dj]at h
   split at h
   ·rename_i h';exact eR (l:=r) h'
   ·cases h
  |own n=>
   simp only[dj]at h
   split at h
   ·rename_i h';exact eR (l:=r) h'
   ·cases h
  |vw n p t l=>
   simp only[dj]at h
   split at h
   ·rename_i h';exact eR (l:=r) h'
   ·cases h
  |_=>simp[dj]at h
theorem oX(g:Good ty zb st a.tmps w env){t:Tag}: ∀{ps:List (Nat×Operand)} {i:Nat} {vc:List Prop} {xs:List (T t)} {ks:List Nat},lf st t i ps=some (vc,xs,ks)→ks.Nodup→(∀q,q∈vc→q)→
  (ps.map fun p=>(p.1,a.eval p.2))=kY i (ps.map fun p=>a.eval p.2)∧xs.length=ps.length∧ ∃az:List (List Nat),az.length=xs.length∧
   (∀(i:Nat) (x:T t) (f:List Nat),xs[i]? =some x→az[i]? =some f→ ∃p:Nat×Operand,ps[i]? =some p∧rd t w (a.eval p.2).cells.toList x f)∧Own 0 w az.flatten∧ ∀b,b∈az.flatten→ ∃i o,i∈ks∧look st.hp i=some o∧b∈(env i).fp
 | [],i,vc,xs,ks,h,_,_=>by
   simp only[lf,Option.some.injEq,Prod.mk.injEq]at h
   obtain⟨rfl,rfl,rfl⟩:=h
   exact⟨rfl,rfl,[],rfl,by simp,Own.nil _ _,by simp⟩
 | (j,x)::r,i,vc,xs,ks,h,hnd,hv=>by
   simp only[lf]at h
   split at h
   ·rename_i s hij hx
    have hij:=Nat.eq_of_beq_eq_true hij
    subst hij
    split at h
    ·rename_i c k hc
     split at h
     ·rename_i j7 y vcs ys JD he hb
      simp only[Option.some.injEq,Prod.mk.injEq]at h
      obtain⟨rfl,rfl,rfl⟩:=h
      obtain⟨hn1,hn2,F3⟩:=List.nodup_append.1 hnd
      obtain⟨q1,q2,az,q3,q4,q5,q6⟩:=oX g hb hn2 (fun q hq=>hv q (List.mem_append_right _ hq))
      obtain⟨fp,r1,r2,r3⟩:=jv g (dR g (bX g (fun e he=>by simp at he) hx) (eR hc)) hc hn1
      have hE:=jY t he (fun q hq=>hv q (List.mem_append_left _ hq)) r1
      refine⟨by simp[kY,q1],by simp[q2],fp::az,by simp[q3],?_,⟨?_,?_,?_⟩,?_⟩
      ·intro i' x' f hx' hf
       cases i' with
       |zero=>simp at hx' hf;subst hx';subst hf;exact⟨(i,x),rfl,hE⟩
       |succ n=>simp at hx' hf;obtain⟨p,h1,h2⟩:=q4 n x' f hx' hf;exact⟨p,by simpa using h1,h2⟩
      ·rw[List.flatten_cons]
       refine List.nodup_append.2 ⟨r2.nodup,q5.nodup,?_⟩
       rintro b hb z hz rfl
       obtain⟨n,o1,h1,h2,h3⟩:=r3 b hb
       obtain⟨m,o2,h4,h5,h6⟩:=q6 b hz
       exact g.eO n m _ _ (fun e=>F3 n h1 m h4 e) h2 h5 b h3 h6
      ·intro b hb
       rw[List.flatten_cons]at hb
       rcases List.mem_append.1 hb with hb|hb
       ·exact r2.ge b hb
       ·exact q5.ge b hb
      ·intro b hb
       rw[List.flatten_cons]at hb
       rcases List.mem_append.1 hb with hb|hb
       ·exact r2.kind b hb
       ·exact q5.kind b hb
      ·intro b hb
       rw[List.flatten_cons]at hb
       rcases List.mem_append.1 hb with hb|hb
       ·obtain⟨n,o1,h1,h2,h3⟩:=r3 b hb;exact⟨n,o1,List.mem_append_left _ h1,h2,h3⟩
       ·obtain⟨n,o1,h1,h2,h3⟩:=q6 b hb;exact⟨n,o1,List.mem_append_right _ h1,h2,h3⟩
     ·cases h
    ·cases h
   ·cases h
theorem yN{Γ:Nat→TK}(C: ∀t,aQ P t (Γ t)){m0:Nat}{vc:List Prop}{st':St}{v:SV}(h:oW P ty Γ st m0 o.op=some (vc,st',v))(g:Good ty zb st a.tmps w env)(hB:zb.w.heap.size≤w.heap.size)(hv: ∀q,q∈vc→q):
  o.wp P a w (fun a' w'=> ∃u env',a'=a.put o.dst u∧Kept zb w w'∧Good ty zb st' a.tmps w' env'∧st'.n=st.n∧jG w' st'.hp env' a.tmps v u) Q:=by
 generalize bU:o.op=op at h
 cases op with
 |buildSlice t len parts=>
  simp only[oW]at h
  split at h
  ·rename_i gt e hk
   split at h
   ·rename_i j7 xs ks he hlen rU hb
    have he:=Nat.eq_of_beq_eq_true he
    split at h
    ·rename_i hnd hlk
     simp only[Bool.and_eq_true,Bool.not_eq_true']at hnd
     obtain⟨⟨hnd,hpk⟩,Et⟩:=hnd
     simp only[Option.some.injEq,Prod.mk.injEq]at h
     obtain⟨rfl,h2,rfl⟩:=h
     rw[St.gone_eq]at h2
     subst h2
     have j6:El P ty gt:=hv _ (by simp)
     obtain⟨q1,q2,az,q3,q4,q5,q6⟩:=oX g hb (dQ hnd) (fun q hq=>hv q (by simp[hq]))
     have hC:=C t
     rw[hk,he]at hC
     obtain⟨w',r1,r2,r3⟩:=mm (P:=P) (w:=w) (a:=a) bU hC.1 j6 (Nat.le_of_ble_eq_true rU) (Nat.eq_of_beq_eq_true hlen) (Nat.zero_le _) q1 q2 q3 q4 q5
     obtain⟨env',hg',DN⟩:=tT (ty:=ty) g hB (ks:=ks) hpk Et hlk (v:=tB) (fp:= []) (fx:=az.flatten) (by simpa using q6) (by intro b hb;cases hb) r3
      ⟨r2.os,r2.tape,r2.output,r2.size,fun b hb _=>r2.block b hb⟩ (by
       intro b hb
       rcases List.mem_cons.1 hb with h|h
       ·exact Or.inr (Or.inr h)
       ·exact Or.inr (Or.inl h))
     unfold Oper.wp
     rw[r1]
     exact⟨_,env',rfl,eV r2 hB,hg',rfl,⟨gt,_,look_eq⟩,DN.symm⟩
    ·cases h
   ·cases h
  ·cases h
 |_=>simp[oW]at h
end
end
section
variable{ty:Tag→Nat}
theorem m8{w:World}{b o:Nat}{x y:List Value}(hx:w.rangeAt b o x)(hy:w.rangeAt b (o+x.length) y):w.rangeAt b o (x++y):=by
 intro j v hv
 by_cases hj:j<x.length
 ·rw[List.getElem?_append_left hj]at hv;exact hx j v hv
 ·rw[List.getElem?_append_right (by omega)]at hv
  have:=hy _ v hv
  rwa [show o+x.length+(j-x.length)=o+j by omega]at this
theorem rZ{w:World}{b o n:Nat}{cs:List Value}(h:w.rangeAt b o cs):w.rangeAt b o (cs.take n):=by
 intro j v hv
 rw[List.getElem?_take]at hv
 split at hv
 ·exact h j v hv
 ·cases hv
theorem sj{w:World}{b o n:Nat}{cs:List Value}(h:w.rangeAt b o cs):w.rangeAt b (o+n) (cs.drop n):=by
 intro j v hv
 rw[List.getElem?_drop]at hv
 have:=h _ v hv
 rwa [show o+n+j=o+(n+j)by omega]
theorem iN{w:World}{b o off:Nat}{cs us:List Value}(h:w.rangeAt b o cs)(hl:off+us.length≤cs.length)(ht:w.there b (o+off) us.length):
  (w.setCells b (o+off) us).rangeAt b o (cs.take off++(us++cs.drop (off+us.length))):=by
 have l1:(cs.take off).length=off:=by rw[List.length_take];omega
 refine m8 (World.rangeAt_setCells_apart (rZ h) _ _ _ (Or.inr (Or.inl (by rw[l1];exact Nat.le_refl _)))) ?_
 rw[l1]
 refine m8 (World.rangeAt_setCells_same w b _ us ht) ?_
 rw[Nat.add_assoc]
 exact World.rangeAt_setCells_apart (sj h) _ _ _ (Or.inr (Or.inr (by omega)))
theorem aN.Ge{w:World}{x y z:List V}{us vs ts:List Value}{f g h:List Nat}(a:aN w x us f)(b:aN w y vs g)(c:aN w z ts h):aN w (x++(y++z)) (us++(vs++ts)) (f++(g++h)):=aN.app a (aN.app b c)
theorem aN.split{w:World}: ∀(n:Nat) {c:List V} {cs:List Value} {f:List Nat},aN w c cs f→ ∃f1 f2,f=f1++f2∧aN w (c.take n) (cs.take n) f1∧aN w (c.drop n) (cs.drop n) f2
 |0,c,cs,f,h=>⟨[],f,rfl,by simp[aN],by simpa using h⟩
 |n+1,[],[],f,h=>⟨[],f,rfl,by simp[aN],by simpa using h⟩
 |n+1,v::r,u::us,f,⟨f1,f2,h1,h2,e⟩=>by
  obtain⟨g1,g2,k1,k2,k3⟩:=aN.split n h2
  exact⟨f1++g1,g2,by rw[e,k1,List.append_assoc],⟨f1,g1,h1,k2,rfl⟩,by simpa using k3⟩
 |_+1,[],_::_,_,h=>h.elim
 |_+1,_::_,[],_,h=>h.elim
theorem aN.vp{w:World}{c d vs:List V}{cs us:List Value}{f g:List Nat}{off:Nat}(h:aN w c cs f)(hv:aN w vs us g)(hs:G.vp c off vs=some d):
  ∃f1 f2 f3,f=f1++(f2++f3)∧aN w d (cs.take off++(us++cs.drop (off+us.length))) (f1++(g++f3))∧off+us.length≤cs.length:=by
 unfold G.vp at hs
 split at hs
 ·rename_i hb
  have hb:=Nat.le_of_ble_eq_true hb
  simp only[Option.some.injEq]at hs
  subst hs
  obtain⟨f1,f',e1,k1,k2⟩:=aN.split off h
  obtain⟨f2,f3,e2,_,k4⟩:=aN.split us.length k2
  have h1:=h.len
  have h2:=hv.len
  refine⟨f1,f2,f3,by rw[e1,e2],?_,by omega⟩
  have:=aN.Ge k1 hv k4
  rw[List.drop_drop,List.drop_drop]at this
  rw[←h2]
  exact this
 ·cases hs
theorem iO{az:List (List Nat)}{i:Nat}{f':List Nat}{b:Nat}(h:b∈(az.set i f').flatten):b∈f'∨ ∃j f,j≠i∧az[j]? =some f∧b∈f:=by
 obtain⟨f,hf,hb⟩:=List.mem_flatten.1 h
 obtain⟨j,hj⟩:=List.getElem?_of_mem hf
 by_cases hji:j=i
 ·subst hji
  have hlt:=(List.getElem?_eq_some_iff.1 hj).1
  rw[List.length_set]at hlt
  rw[List.getElem?_set_self hlt]at hj
  simp only[Option.some.injEq]at hj
  subst hj
  exact Or.inl hb
 ·rw[List.getElem?_set_ne (Ne.symm hji)]at hj
  exact Or.inr ⟨j,f,hji,hj,hb⟩
theorem fR{az:List (List Nat)}{i:Nat}{f':List Nat}(h:az.flatten.Nodup)(hf:f'.Nodup)(hd: ∀j f,j≠i→az[j]? =some f→ ∀b,b∈f→b∉f'):(az.set i f').flatten.Nodup:=by
 have h1:=List.pairwise_flatten.1 h
 refine List.pairwise_flatten.2 ⟨fun l hl=> ?_,?_⟩
 ·obtain⟨j,hj⟩:=List.getElem?_of_mem hl
  by_cases hji:j=i
  ·subst hji
   have hlt:=(List.getElem?_eq_some_iff.1 hj).1
   rw[List.length_set]at hlt
   rw[List.getElem?_set_self hlt]at hj
   simp only[Option.some.injEq]at hj
   subst hj
   exact hf
  ·rw[List.getElem?_set_ne (Ne.symm hji)]at hj
   exact h1.1 _ (List.mem_of_getElem? hj)
 ·have h2:=List.pairwise_iff_getElem.1 h1.2
  rw[List.pairwise_iff_getElem]
  intro p q hp hq hpq x hx y hy e
  subst e
  rw[List.length_set]at hp hq
  rw[List.getElem_set]at hx hy
  split at hx<;>split at hy
  ·omega
  ·rename_i e1 e2
   subst e1
   exact hd q _ (by omega) (List.getElem?_eq_getElem hq) x hy hx
  ·rename_i e1 e2
   subst e2
   exact hd p _ (by omega) (List.getElem?_eq_getElem hp) x hx hy
  ·exact h2 p q hp hq hpq x hx x hy rfl
theorem mw{α:Type}{k:Nat}{E:ER α}(G:bW k E){w w':World}{b off:Nat}{l:List α}{az:List (List Nat)}(h:jQ k E w b off l az){i:Nat}{x':α}{f':List Nat}{cs':List Value}
  (hr:w'.rangeAt b (off+i*k) cs')(hE:E w' cs' x' f')(ho: ∀j cs,j≠i→cs.length=k→w.rangeAt b (off+j*k) cs→w'.rangeAt b (off+j*k) cs)(ha: ∀j f,j≠i→az[j]? =some f→bF w w' f):
  jQ k E w' b off (l.set i x') (az.set i f'):=by
 refine⟨by rw[List.length_set,List.length_set];exact h.1,fun j y fy hy jl=> ?_⟩
 by_cases hj:i=j
 ·subst hj
  have hi:=(List.getElem?_eq_some_iff.1 hy).1
  rw[List.length_set]at hi
  have hi2:=(List.getElem?_eq_some_iff.1 jl).1
  rw[List.length_set]at hi2
  rw[List.getElem?_set_self hi]at hy
  rw[List.getElem?_set_self hi2]at jl
  simp only[Option.some.injEq]at hy jl
  subst hy;subst jl
  exact⟨cs',hr,hE⟩
 ·rw[List.getElem?_set_ne hj]at hy jl
  obtain⟨cy,JF,zD⟩:=h.2 j y fy hy jl
  exact⟨cy,ho j cy (Ne.symm hj) (G.len zD) JF,G.aB zD (ha j fy (Ne.symm hj) jl)⟩
theorem Ex{α:Type}{k:Nat}{E:ER α}(G:bW k E){e:Nat}{w w':World}{v:Value}{l l':List α}{fp cL:List Nat}(h:dy k E 0 e w v l fp)(hs:Shape w w')(h':Sl k E w' v l' cL)(ho:Own 0 w' cL)(hsub: ∀b,b∈cL→b∈fp):
  ∃yH,dy k E 0 e w' v l' yH∧ ∀b,b∈yH→b∈fp:=by
 rcases h.part with⟨rfl,rfl,rfl⟩| ⟨g,n,az,rfl,hn,rfl,hp⟩
 ·obtain⟨oa,cap,hv,_,_,h3⟩:=h'
  simp only[Value.slice.injEq]at hv
  obtain⟨rfl,hl,rfl⟩:=hv
  have:l'= []:=List.eq_nil_of_length_eq_zero hl.symm
  subst this
  exact⟨[],dy.nil _ _ _ _ _,by simp⟩
 ·obtain⟨oa,cap,hv,hc,hm,h3⟩:=h'
  simp only[Value.slice.injEq]at hv
  obtain⟨rfl,hl,rfl⟩:=hv
  obtain⟨c,Ci,Az⟩:=hp.l5
  obtain⟨c',hs1,B8⟩:=hs g c e Ci
  rcases h3 with⟨rfl,rfl,_⟩| ⟨b,off,dF,hb,JG,rfl,hE⟩
  ·rw[hl]
   refine⟨[g],Part.Ab G (l:= []) (az:= []) ⟨⟨c',hs1,by rw[B8,Az]⟩,⟨rfl,by simp⟩,⟨by simp,by simp,fun b hb=> ?_⟩,hm⟩ (Nat.zero_le _),by simp⟩
   simp only[List.flatten_nil,List.mem_singleton]at hb
   exact⟨_,_,by rw[hb];exact hs1⟩
  ·simp only[Option.some.injEq,Addr.mk.injEq,and_true]at hb
   obtain⟨rfl,rfl⟩:=hb
   rw[hl]
   exact⟨_,Part.Ab G ⟨⟨c',hs1,by rw[B8,Az]⟩,hE,ho,hm⟩ hc,hsub⟩
def fits:TK→S1→Bool
 | .st z _ _, .agg c=>Nat.beq c.length z.length
 | .st _ _ _,_=>false
 | .other,_=>false
 |_, .a _=>true
 |_,_=>false
theorem tU{k:TK}{c:List V}(h:fits k (.agg c)=true): ∃z tg fo,k= .st z tg fo∧Nat.beq c.length z.length=true:=by
 cases k with
 |st z tg fo=>exact⟨z,tg,fo,rfl,h⟩
 |_=>cases h
theorem tV{k:TK}{v:V}(h:fits k (.a v)=true):(∀z tg fo,k≠ .st z tg fo)∧k≠ .other:=by
 cases k with
 |st z tg fo=>cases h
 |other=>cases h
 |_=>exact⟨fun _ _ _ e=>(by cases e),fun e=>(by cases e)⟩
def St.AA(st:St)(ms:List Nat)(n:Nat)(t:Tag)(l:List (T t)):St:=⟨st.n,st.sl.map fun e=>(e.1,e.2.aI ms [n]),(n, .arr t l)::bh ms [n] st.hp⟩
def xA(n:Nat)(ms:List Nat):Bool:=gN (n::ms)&& !pinned ms&&(match ms with| []=>true|_=> !ec n)
def CK(Γ:Nat→TK)(st:St):Op→Option (List Prop×St)
 | .store t x y=>match cC st [] x,cC st [] y with
   |some (.a (.fA n i off)),some v=>match look st.hp n with
    |some (.arr g l)=>match fits (Γ t) v,takes st (cellsOf v)with
     |true,some (c,ms)=>match vp (dec g (l.getD i (aK g))) off c with
      |some d=>match enc g d,xA n ms with
       |some (vc,y'),true=>some ((i<l.length)::vc,st.AA ms n g (l.set i y'))
       |_,_=>none
      |none=>none
     |_,_=>none
    |_=>none
   |_,_=>none
 |_=>none
section
variable{P:Program}{zb:aY}{st st':St}{a:Act}{w:World}{env:Env}{Q:Exit→Act→World→Prop}{o:Oper}
theorem tW(g:Good ty zb st a.tmps w env){n:Nat}{t:Tag}{l l':List (T t)}(hl:look st.hp n=some (.arr t l)){ms:List Nat}(hok:xA n ms=true){w':World}{cL fx:List Nat}
  (vm: ∀b,b∈fx→ ∃i o,i∈ms∧look st.hp i=some o∧b∈(env i).fp)(hsub: ∀b,b∈cL→b∈(env n).fp∨b∈fx)(tX:ec n=true→ ∀b,b∈cL→b∈(env n).fp)
  (hk: ∀b,b∉(env n).fp→b∉fx→b<w.heap.size→w'.heap[b]? =w.heap[b]?)(HO:eN ty w' n t l' ⟨(env n).v,cL⟩):
  ∃env',Good ty zb (st.AA ms n t l') a.tmps w' env'∧(env' n).v=(env n).v:=by
 simp only[xA,Bool.and_eq_true,Bool.not_eq_true']at hok
 obtain⟨⟨hnd,hpk⟩,Gf⟩:=hok
 have hnd:=dQ hnd
 have hnm:n∉ms:=(List.nodup_cons.1 hnd).1
 refine⟨fun m=>if m=n then⟨(env n).v,cL⟩else env m,?_,by simp⟩
 have hlk: ∀m o,look ((n,Obj.arr t l')::bh ms [n] st.hp) m=some o→(m=n∧o= .arr t l')∨(m≠n∧m∉ms∧ ∃o',look st.hp m=some o'∧o=o'.aI ms [n]):=by
  intro m o hm
  by_cases jH:m=n
  ·subst jH;rw[look_eq]at hm;simp only[Option.some.injEq]at hm;exact Or.inl ⟨rfl,hm.symm⟩
  ·rw[aC jH,aZ]at hm
   split at hm
   ·cases hm
   ·rename_i hks
    cases hq:look st.hp m with
    |none=>rw[hq]at hm;cases hm
    |some o'=>rw[hq]at hm;simp only[Option.map_some,Option.some.injEq]at hm;exact Or.inr ⟨jH,hks,o',rfl,hm.symm⟩
 have how: ∀b,b∈cL→ ∃i o,(i=n∨i∈ms)∧look st.hp i=some o∧b∈(env i).fp:=by
  intro b hb
  rcases hsub b hb with h|h
  ·exact⟨n,_,Or.inl rfl,hl,h⟩
  ·obtain⟨i,o,h1,h2,h3⟩:=vm b h;exact⟨i,o,Or.inr h1,h2,h3⟩
 have hst: ∀m o,m≠n→m∉ms→look st.hp m=some o→ ∀b,b∈(env m).fp→w'.heap[b]? =w.heap[b]? :=by
  intro m o hmn hks h3 b hb
  refine hk b (fun h=>g.eO m n _ _ hmn h3 hl b hb h) (fun h=> ?_) ((g.obj m o h3).l5 b hb)
  obtain⟨i,oi,hi,h5,h6⟩:=vm b h
  exact g.eO m i _ _ (fun e=>hks (e▸hi)) h3 h5 b hb h6
 have s:nC ms [n] w st.hp env w' ((n, .arr t l')::bh ms [n] st.hp) (fun m=>if m=n then⟨(env n).v,cL⟩else env m):=by
  refine⟨fun b hb hno=>hk b (fun h=>hno ⟨n,_,hl,h⟩) (fun h=> ?_) hb,?_,?_,?_⟩
  ·obtain⟨i,oi,hi,h5,h6⟩:=vm b h
   exact hno ⟨i,oi,h5,h6⟩
  ·rintro b hb ⟨m,o',h1,h2⟩
   rcases hlk m o' h1 with⟨rfl,rfl⟩| ⟨jH,hks,qV,h3,rfl⟩
   ·simp at h2
    obtain⟨i,o',_,h3,h4⟩:=how b h2
    exact⟨i,o',h3,h4⟩
   ·simp[jH]at h2
    exact⟨m,qV,h3,h2⟩
  ·intro m o' hks h1
   by_cases hmn:m=n
   ·subst hmn
    rw[hl]at h1
    simp only[Option.some.injEq]at h1
    subst h1
    exact⟨_,look_eq,rfl,by simp⟩
   ·exact⟨o'.aI ms [n],by rw[aC hmn,aZ,if_neg hks,h1];rfl,by cases o'<;>simp[Obj.like,Obj.aI],by simp[hmn]⟩
  ·rintro m t' l2 ⟨hks,hmn⟩ h1
   have hmn:m≠n:=by simpa using hmn
   exact⟨by rw[aC hmn,aZ,if_neg hks,h1];rfl,by simp[hmn],hst m _ hmn hks h1⟩
 refine g.ew s (fun m o' hm=> ?_) (fun m m' o1 o2 hne h1 h2 b hb hb'=> ?_) (fun m o' hm b hb=> ?_) (fun m hm=> ?_)
 ·rcases hlk m o' hm with⟨rfl,rfl⟩| ⟨jH,hks,qV,h3,rfl⟩
  ·simp only[if_true];exact HO
  ·simp only[if_neg jH]
   exact(g.obj m qV h3).ew s (hst m qV jH hks h3)
 ·rcases hlk m o1 h1 with⟨e1,_⟩| ⟨jH,hks,q1,h3,_⟩<;>rcases hlk m' o2 h2 with⟨e2,_⟩| ⟨yJ,Ew,q2,h4,_⟩
  ·exact hne (e1.trans e2.symm)
  ·simp only[if_pos e1]at hb
   simp only[if_neg yJ]at hb'
   obtain⟨i,oi,hi,h5,h6⟩:=how b hb
   refine g.eO m' i _ _ (fun e=> ?_) h4 h5 b hb' h6
   rcases hi with hi|hi
   ·exact yJ (e.trans hi)
   ·exact Ew (e▸hi)
  ·simp only[if_pos e2]at hb'
   simp only[if_neg jH]at hb
   obtain⟨i,oi,hi,h5,h6⟩:=how b hb'
   refine g.eO m i _ _ (fun e=> ?_) h3 h5 b hb h6
   rcases hi with hi|hi
   ·exact jH (e.trans hi)
   ·exact hks (e▸hi)
  ·simp only[if_neg jH]at hb
   simp only[if_neg yJ]at hb'
   exact g.eO m m' _ _ hne h3 h4 b hb hb'
 ·rcases hlk m o' hm with⟨e1,_⟩| ⟨jH,hks,q1,h3,_⟩
  ·simp only[if_pos e1]at hb
   obtain⟨i,oi,_,h5,h6⟩:=how b hb
   exact g.dom i oi h5 b h6
  ·simp only[if_neg jH]at hb
   exact g.dom m q1 h3 b hb
 ·by_cases hmn:m=n
  ·subst hmn
   simp only[if_true]
   exact⟨(g.pins m hm).1,fun b hb=>(g.pins m hm).2 b (tX hm b hb)⟩
  ·simp only[if_neg hmn]
   exact g.pins m hm
theorem CL{Γ:Nat→TK}(C: ∀t,aQ P t (Γ t))(Z: ∀t,(∀z tg fo,Γ t≠ .st z tg fo)→Γ t≠ .other→(P.info? t).map (·.size)=some 1){vc:List Prop}(h:CK Γ st o.op=some (vc,st'))(g:Good ty zb st a.tmps w env)(hv: ∀q,q∈vc→q):
  o.wp P a w (fun a' w'=> ∃env',a'=a.put o.dst undef∧Kept zb w w'∧Good ty zb st' a.tmps w' env'∧st'.n=st.n) Q:=by
 have hop: ∀{x v},cC st [] x=some v→cz w st.hp env v (a.eval x):=fun hx=>bX g (fun e he=>by simp at he) hx
 generalize bU:o.op=op at h
 cases op with
 |store t x y=>
  simp only[CK]at h
  split at h
  ·rename_i n i off v hx hy
   have hx:=hop hx
   have hy:=hop hy
   split at h
   ·rename_i gt l hl
    split at h
    ·rename_i c ms hfit yO
     split at h
     ·rename_i d hs
      split at h
      ·rename_i j7 y' he hok
       simp only[Option.some.injEq,Prod.mk.injEq]at h
       obtain⟨rfl,rfl⟩:=h
       have hi:i<l.length:=hv _ (by simp)
       have Gg:=hok
       simp only[xA,Bool.and_eq_true,Bool.not_eq_true']at Gg
       obtain⟨⟨hnd,hpk⟩,Gf⟩:=Gg
       have hnd:=dQ hnd
       have hnm:n∉ms:=(List.nodup_cons.1 hnd).1
       obtain⟨t1,l1,ng,b2,o2,HP,Gh,rY,hu⟩:=hx
       rw[hl]at ng
       simp only[Option.some.injEq,Obj.arr.injEq]at ng
       obtain⟨rfl,_⟩:=ng
       have hro:=g.obj n _ hl
       obtain⟨oa,cap,AB,Ci,Az,h3⟩:=RO.sl hro
       have hown:=RO.own hro
       rcases h3 with⟨rfl,_⟩| ⟨b,o1,az,vr,aU,dN,hE⟩
       ·simp at hi
       rw[AB,vr]at rY
       simp only[Value.slice.injEq,Option.some.injEq,Addr.mk.injEq,and_true]at rY
       obtain⟨⟨rfl,rfl⟩,rfl,rfl⟩:=rY
       have DO:l[i]? =some (l.getD i (aK gt)):=by rw[List.getD_eq_getElem?_getD,List.getElem?_eq_getElem hi];rfl
       obtain⟨f,hf⟩:=cW hE.1 DO
       obtain⟨cs,nB,Ey⟩:=hE.2 _ _ f DO hf
       have hlen:=(bI gt).len Ey
       rw[dN]at hown
       have gO:=List.nodup_cons.1 hown.nodup
       obtain⟨fx,xy,Gi,vm⟩:=lg g (dR g hy (ck yO)) yO (List.nodup_cons.1 hnd).2
       obtain⟨f1,f2,f3,Cc,hrd,hlo⟩:=aN.vp (reads gt Ey) xy hs
       have Gj:=jY gt he (fun q hq=>hv q (by simp[hq])) hrd
       have hsz:(P.info? t).map (·.size)=some (a.eval y).cells.toList.length∧ ∀u,u∈(a.eval y).cells.toList→u.oneCell'=true:=by
        refine⟨?_,ju g (dR g hy (ck yO)) (gf (ck yO))⟩
        cases v with
        |agg c'=>
         have hk: ∃z tg fo,Γ t= .st z tg fo∧Nat.beq c'.length z.length=true:=by
          exact tU hfit
         obtain⟨z,tg,fo,hk,hfit⟩:=hk
         have hC:=C t
         rw[hk]at hC
         obtain⟨fs,_,hi2,_⟩:=hC
         obtain⟨us,CF,vR⟩:=hy
         have:=Nat.eq_of_beq_eq_true hfit
         have Ez:=vR.len
         rw[CF]
         cases hq:P.info? t with
         |none=>simp[hq]at hi2
         |some inf=>simp[hq]at hi2;simp[hi2.1,Value.cells,Ez,this]
        |a v'=>
         have hk:(∀z tg fo,Γ t≠ .st z tg fo)∧Γ t≠ .other:=by
          exact tV hfit
         have hne:v'≠ .any:=by rintro rfl;simp[cellsOf,takes]at yO
         have:=dw g (show RA w st.hp env v' (a.eval y)from hy) hne
         rw[this]
         exact Z t hk.1 hk.2
       obtain⟨cb,eb,oY⟩:=hown.kind b (by simp)
       have Cl:w.there b (o1+i*kk gt+off) (a.eval y).cells.toList.length:=by
        refine vI oY _ _ ?_
        have tL:o1+i*kk gt+cs.length≤cb.size:=by
         have IP:=cF gt
         have:=nB (cs.length-1) _ (List.getElem?_eq_getElem (by omega))
         rw[tj oY]at this
         have:=(Array.getElem?_eq_some_iff.1 this).1
         omega
        omega
       have hkeep: ∀x,x≠b→(w.setCells b (o1+i*kk gt+off) (a.eval y).cells.toList).heap[x]? =w.heap[x]? :=fun x hx=>aR b _ _ w x hx
       have xB: ∀x,x∈fx→x≠b:=by
        rintro x hx rfl
        obtain⟨m,om,hm,h5,h6⟩:=vm x hx
        exact g.eO n m _ _ (fun e=>hnm (e▸hm)) hl h5 x (by rw[dN];simp) h6
       have Ch: ∀x,x∈az.flatten→x≠b:=fun x hx e=>gO.1 (e▸hx)
       have jT: ∀x,x∈f1++(fx++f3)→x∈f∨x∈fx:=by
        intro x hx
        rw[Cc]
        rcases List.mem_append.1 hx with hx|hx
        ·exact Or.inl (List.mem_append_left _ hx)
        ·rcases List.mem_append.1 hx with hx|hx
         ·exact Or.inr hx
         ·exact Or.inl (List.mem_append_right _ (List.mem_append_right _ hx))
       have Em: ∀x,x∈f1++(fx++f3)→x≠b:=by
        intro x hx
        rcases jT x hx with h|h
        ·exact Ch x (aP hf h)
        ·exact xB x h
       have yl:bF w (w.setCells b (o1+i*kk gt+off) (a.eval y).cells.toList) (f1++(fx++f3)):=fun x hx=>hkeep x (Em x hx)
       have yP:=mw (bI gt) (w':=w.setCells b (o1+i*kk gt+off) (a.eval y).cells.toList) hE (i:=i) (x':=y') (f':=f1++(fx++f3))
        (iN nB hlo Cl) ((bI gt).aB Gj yl)
        (fun j cs' hj tL hr=>World.rangeAt_setCells_apart hr _ _ _ (Or.inr (by
         rw[tL]
         rcases Nat.lt_or_ge j i with h1|h1
         ·left
          have:=Nat.mul_le_mul_right (kk gt) (show j+1≤i by omega)
          rw[Nat.add_mul]at this;omega
         ·right
          have:=Nat.mul_le_mul_right (kk gt) (show i+1≤j by omega)
          rw[Nat.add_mul]at this;omega)))
        (fun j f' _ hf' x hx=>hkeep x (Ch x (aP hf' hx)))
       have EA:(f1++(fx++f3)).Nodup:=by
        have h1:=(List.pairwise_flatten.1 gO.2).1 f (List.mem_of_getElem? hf)
        rw[Cc]at h1
        obtain⟨h2,h3,h4⟩:=List.nodup_append.1 h1
        obtain⟨_,h6,_⟩:=List.nodup_append.1 h3
        have hap: ∀x,x∈fx→x∉f:=by
         intro x hx JH
         obtain⟨m,om,hm,h5,h7⟩:=vm x hx
         exact g.eO n m _ _ (fun e=>hnm (e▸hm)) hl h5 x (by rw[dN];exact List.mem_cons_of_mem _ (aP hf JH)) h7
        rw[Cc]at hap
        refine List.nodup_append.2 ⟨h2,List.nodup_append.2 ⟨Gi.nodup,h6,?_⟩,?_⟩
        ·rintro x hx z hz rfl
         exact hap x hx (by simp[hz])
        ·rintro x hx z hz rfl
         rcases List.mem_append.1 hz with hz|hz
         ·exact hap x hz (by simp[hx])
         ·exact h4 x hx x (by simp[hz]) rfl
       have hmem: ∀x,x∈(az.set i (f1++(fx++f3))).flatten→x∈az.flatten∨x∈fx:=by
        intro x hx
        rcases iO hx with h| ⟨j,f',_,hj,h⟩
        ·rcases jT x h with h|h
         ·exact Or.inl (aP hf h)
         ·exact Or.inr h
        ·exact Or.inl (aP hj h)
       have FK:Own 0 (w.setCells b (o1+i*kk gt+off) (a.eval y).cells.toList) (b::(az.set i (f1++(fx++f3))).flatten):=by
        refine⟨List.nodup_cons.2 ⟨fun hm=> ?_,fR gO.2 EA fun j f' hj hf' x hx hx'=> ?_⟩,fun _ _=>Nat.zero_le _,fun x hx=> ?_⟩
        ·rcases hmem b hm with h|h
         ·exact gO.1 h
         ·exact xB b h rfl
        ·rcases jT x hx' with h|h
         ·exact jw gO.2 hf' hf hj x hx h
         ·obtain⟨m,om,hm,h5,h7⟩:=vm x h
          exact g.eO n m _ _ (fun e=>hnm (e▸hm)) hl h5 x (by rw[dN];exact List.mem_cons_of_mem _ (aP hf' hx)) h7
        ·rcases List.mem_cons.1 hx with rfl|hx
         ·obtain⟨c',q1,_⟩:=bC x eb (a.eval y).cells.toList (o1+i*kk gt+off) w cb oY
          exact⟨_,_,q1⟩
         ·rcases hmem x hx with h|h
          ·rw[hkeep x (Ch x h)];exact hown.kind x (List.mem_cons_of_mem _ h)
          ·rw[hkeep x (xB x h)];exact Gi.kind x h
       have EB:Sl (kk gt) (rd gt) (w.setCells b (o1+i*kk gt+off) (a.eval y).cells.toList) (env n).v (l.set i y') (b::(az.set i (f1++(fx++f3))).flatten):=by
        refine⟨some ⟨b,o1,none⟩,cap,by rw[AB,vr,List.length_set],by rw[List.length_set];exact Ci,Az,Or.inr ⟨b,o1,_,rfl,?_,rfl,yP⟩⟩
        rw[dZ];exact aU
       have hM:=g.dom n _ hl b (by rw[dN];simp)
       have AD:=oT hM oY (o1+i*kk gt+off) (a.eval y).cells.toList
       have hrun:(storeVar t ⟨b,o1+i*kk gt+off,none⟩ (a.eval y)).run P w= .ok () (w.setCells b (o1+i*kk gt+off) (a.eval y).cells.toList):=gM (by simp) Cl hsz.1 hsz.2
       have HQ: ∃cL,(∀x,x∈cL→x∈(env n).fp∨x∈fx)∧(ec n=true→ ∀x,x∈cL→x∈(env n).fp)∧eN ty (w.setCells b (o1+i*kk gt+off) (a.eval y).cells.toList) n gt (l.set i y') ⟨(env n).v,cL⟩:=by
        have hall: ∀x,x∈b::(az.set i (f1++(fx++f3))).flatten→x∈(env n).fp∨x∈fx:=by
         intro x hx
         rw[dN]
         rcases List.mem_cons.1 hx with rfl|hx
         ·exact Or.inl (by simp)
         ·rcases hmem x hx with h|h
          ·exact Or.inl (List.mem_cons_of_mem _ h)
          ·exact Or.inr h
        cases hp:soft n with
        |true=>
         refine⟨_,hall,fun JI x hx=> ?_,by unfold eN;rw[hp];exact⟨EB,FK⟩⟩
         rcases hall x hx with h|h
         ·exact h
         ·obtain⟨m,om,hm,_⟩:=vm x h
          cases ms with
          |nil=>simp at hm
          |cons _ _=>rw[JI]at Gf;simp at Gf
        |false=>
         obtain⟨c',e',Ca⟩: ∃xs EC,w.ownsRow 0 (ty gt) (kk gt) (env n).v l.length xs∧EC=az:=by
          obtain⟨xs,EC,h1,_⟩:=RO.Ab hp hro
          exact⟨xs,az,h1,rfl⟩
         have hB:=RO.Ab hp hro
         have JJ:dy (kk gt) (rd gt) 0 (ty gt) (w.setCells b (o1+i*kk gt+off) (a.eval y).cells.toList) (env n).v (l.set i y') (b::(az.set i (f1++(fx++f3))).flatten):=by
          rcases hB.part with⟨h1,rfl,_⟩| ⟨g0,n0,EC,h1,hn0,h2,cR⟩
          ·simp at hi
          ·rw[AB,vr]at h1
           simp only[Value.slice.injEq,Option.some.injEq,Addr.mk.injEq,and_true,true_and]at h1
           obtain⟨⟨rfl,rfl⟩,rfl⟩:=h1
           obtain⟨cc,q1,q2⟩:=cR.l5
           obtain⟨JK,q3,q4⟩:=bC b (ty gt) (a.eval y).cells.toList (0+i*kk gt+off) w cc q1
           rw[AB,vr, ←List.length_set (as:=l) (i:=i) (a:=y')]
           exact Part.Ab (bI gt) ⟨⟨JK,q3,by rw[q4,q2]⟩,yP,FK,Az⟩ (by rw[List.length_set];exact Ci)
         refine⟨_,hall,?_,?_⟩
         ·intro h;rw[Ae hp]at h;cases h
         ·unfold eN;rw[hp];exact JJ
       obtain⟨cL,k1,k2,k3⟩:=HQ
       obtain⟨env',hg',DN⟩:=tW g hl hok (w':=w.setCells b (o1+i*kk gt+off) (a.eval y).cells.toList) vm k1 k2 (fun x hx _ _=>hkeep x (fun e=>hx (by rw[e,dN];simp))) k3
       unfold Oper.wp execOp
       simp only[bU,hu,Instr.storeAt,Instr.sureAddr,Sem.run_bind,Sem.run_pure,Result.andThen_ok,hrun]
       exact⟨env',rfl,AD,hg',rfl⟩
      ·cases h
     ·cases h
    ·cases h
   ·cases h
  ·cases h
 |_=>simp[CK]at h
end
end
section
variable{ty:Tag→Nat}
def RF(w:World):List V→List Value→List (List Nat)→Prop
 | [],[],az=>az= []
 |v::vs,u::us,az=> ∃f g,RI w v u f∧RF w vs us g∧az=f::g
 |_,_,_=>False
def gh(w:World):List S1→List Value→List (List Nat)→Prop
 | [],[],az=>az= []
 | .a v::as,u::us,az=> ∃f g,RI w v u f∧gh w as us g∧az=f::g
 | .agg l::as,u::us,az=> ∃cs f g,u= .agg cs.toArray∧RF w l cs f∧gh w as us g∧az=f++g
 |_,_,_=>False
def jI:List (List Nat)→List (List Nat)→Prop
 | [],[]=>True
 |f::r,g::s=>(∀b,b∈f→b∈g)∧jI r s
 |_,_=>False
def mz(P:Program)(f:FuncId)(as as':List S1)(v:Value):Prop:=
 (∀(args:Array Value) (w:World),(callFunc f args).run P w= .ok (.enter f args) w)∧
 ∀w us az,qJ w→(∀b,tv b→b∉az.flatten)→gh w as us az→Own 0 w az.flatten→Calls P f us.toArray w fun e w'=> ∃dF,e= .returned v∧Kept ⟨w,az.flatten,fun _=>⟨v,[]⟩⟩ w w'∧gh w' as' us dF∧Own 0 w' dF.flatten∧jI dF az
def St.upd(st:St)(os:Hp):St:=⟨st.n,st.sl.map fun e=>(e.1,e.2.aI [] (os.map Prod.fst)),os++bh [] (os.map Prod.fst) st.hp⟩
theorem yQ{os:Hp}{n:Nat}:n∈os.map Prod.fst↔look os n≠none:=by
 induction os with
 |nil=>simp[look]
 |cons e r ih=>
  obtain⟨j,x⟩:=e
  by_cases h:n=j
  ·subst h;simp[look_eq]
  ·rw[aC h, ←ih];simp[h]
section
variable{P:Program}{zb:aY}{st st':St}{a:Act}{w:World}{env:Env}{Q:Exit→Act→World→Prop}{o:Oper}
theorem tY(g:Good ty zb st a.tmps w env){os:Hp}(hos: ∀n o,look os n=some o→ ∃t l l',look st.hp n=some (.arr t l)∧o= .arr t l'){w':World}{ED:Nat→List Nat}
  (hsub: ∀n o,look os n=some o→ ∀b,b∈ED n→b∈(env n).fp)(hk: ∀b,b<w.heap.size→(∀n o,look os n=some o→b∉(env n).fp)→w'.heap[b]? =w.heap[b]?)
  (hro: ∀n t l',look os n=some (.arr t l')→eN ty w' n t l' ⟨(env n).v,ED n⟩):
  ∃env',Good ty zb (st.upd os) a.tmps w' env'∧ ∀n,(env' n).v=(env n).v:=by
 refine⟨fun m=>match look os m with|some _=>⟨(env m).v,ED m⟩|none=>env m,?_,fun n=>by dsimp only;split<;>rfl⟩
 have hlk: ∀m o,look (os++bh [] (os.map Prod.fst) st.hp) m=some o→(look os m=some o)∨(look os m=none∧ ∃o',look st.hp m=some o'∧o=o'.aI [] (os.map Prod.fst)):=by
  intro m o hm
  cases hq:look os m with
  |some x=>rw[aJ hq]at hm;exact Or.inl hm
  |none=>
   rw[av hq,aZ,if_neg (by simp)]at hm
   cases zA:look st.hp m with
   |none=>rw[zA]at hm;cases hm
   |some o'=>rw[zA]at hm;simp only[Option.map_some,Option.some.injEq]at hm;exact Or.inr ⟨rfl,o',rfl,hm.symm⟩
 have hst: ∀m o,look os m=none→look st.hp m=some o→ ∀b,b∈(env m).fp→w'.heap[b]? =w.heap[b]? :=by
  intro m o hm h3 b hb
  refine hk b ((g.obj m o h3).l5 b hb) fun n o' hn h=> ?_
  obtain⟨t,l,l',h4,_⟩:=hos n o' hn
  exact g.eO m n _ _ (fun e=>by rw[e,hn]at hm;cases hm) h3 h4 b hb h
 have dN: ∀m o,look (os++bh [] (os.map Prod.fst) st.hp) m=some o→ ∀b,b∈(match look os m with|some _=>(⟨(env m).v,ED m⟩:CO)|none=>env m).fp→b∈(env m).fp∧ ∃o',look st.hp m=some o':=by
  intro m o hm b hb
  rcases hlk m o hm with h| ⟨h,o',h2,_⟩
  ·rw[h]at hb
   obtain⟨t,l,l',h4,_⟩:=hos m o h
   exact⟨hsub m o h b hb,_,h4⟩
  ·rw[h]at hb
   exact⟨hb,o',h2⟩
 have s:nC [] (os.map Prod.fst) w st.hp env w' (os++bh [] (os.map Prod.fst) st.hp) (fun m=>match look os m with|some _=>⟨(env m).v,ED m⟩|none=>env m):=by
  refine⟨fun b hb hno=>hk b hb fun n o hn h=> ?_,?_,?_,?_⟩
  ·obtain⟨t,l,l',h4,_⟩:=hos n o hn
   exact hno ⟨n,_,h4,h⟩
  ·rintro b hb ⟨m,o',h1,h2⟩
   obtain⟨h3,o2,h4⟩:=dN m o' h1 b h2
   exact⟨m,o2,h4,h3⟩
  ·intro m o' _ h1
   cases hq:look os m with
   |some x=>
    obtain⟨t,l,l',h4,rfl⟩:=hos m x hq
    rw[h4]at h1
    simp only[Option.some.injEq]at h1
    subst h1
    exact⟨_,aJ hq,rfl,rfl⟩
   |none=>
    exact⟨o'.aI [] (os.map Prod.fst),by rw[av hq,aZ,if_neg (by simp),h1];rfl,by cases o'<;>simp[Obj.like,Obj.aI],rfl⟩
  ·rintro m t' l2 ⟨_,hmn⟩ h1
   have hq:look os m=none:=by
    cases hq:look os m with
    |none=>rfl
    |some x=>exact absurd (yQ.2 (by rw[hq];simp)) hmn
   exact⟨by rw[av hq,aZ,if_neg (by simp),h1];rfl,by simp[hq],hst m _ hq h1⟩
 refine g.ew s (fun m o' hm=> ?_) (fun m m' o1 o2 hne h1 h2 b hb hb'=> ?_) (fun m o' hm b hb=> ?_) (fun m hm=> ?_)
 ·rcases hlk m o' hm with h| ⟨h,qV,h3,rfl⟩
  ·obtain⟨t,l,l',h4,rfl⟩:=hos m o' h
   simp only[h]
   exact hro m t l' h
  ·simp only[h]
   exact(g.obj m qV h3).ew s (hst m qV h h3)
 ·obtain⟨h3,q1,h4⟩:=dN m o1 h1 b hb
  obtain⟨h5,q2,h6⟩:=dN m' o2 h2 b hb'
  exact g.eO m m' _ _ hne h4 h6 b h3 h5
 ·obtain⟨h3,q1,h4⟩:=dN m o' hm b hb
  exact g.dom m q1 h4 b h3
 ·refine⟨?_,fun b hb=> ?_⟩
  ·have:=(g.pins m hm).1
   split<;>exact this
  ·cases hq:look os m with
   |none=>simp only[hq]at hb;exact(g.pins m hm).2 b hb
   |some x=>simp only[hq]at hb;exact(g.pins m hm).2 b (hsub m x hq b hb)
theorem oZ{n:Nat}{t:Tag}{l l':List (T t)}{co:CO}{cL:List Nat}{w':World}{hp:Hp}(h:RO ty w hp env n (.arr t l) co)(hs:Shape w w')(h':Sl (kk t) (rd t) w' co.v l' cL)(ho:Own 0 w' cL)(hsub: ∀b,b∈cL→b∈co.fp):
  ∃yH,eN ty w' n t l' ⟨co.v,yH⟩∧ ∀b,b∈yH→b∈co.fp:=by
 unfold eN
 cases hp:soft n with
 |true=>exact⟨cL,⟨h',ho⟩,hsub⟩
 |false=>exact Ex (bI t) (RO.Ab hp h) hs h' ho hsub
end
def yR(st:St)(tg:Option Tag):V→Option V
 | .own n=>match look st.hp n with|some (.arr t l)=>some (.sl t l)|_=>none
 | .lit (.slice none 0 0)=>match tg with|some t=>some (.sl t [])|none=>none
 | .lit (.slice _ _ _)=>none
 | .lit v=>some (.lit v)
 |_=>none
def tZ(st:St):List (Option Tag)→List V→Option (List V)
 |_,[]=>some []
 |tg,v::r=>match yR st (match tg with|t::_=>t| []=>none) v,tZ st (match tg with|_::ts=>ts| []=> []) r with
  |some x,some y=>some (x::y)
  |_,_=>none
def AE(st:St)(k:TK):S1→Option S1
 | .a v=>match yR st (match k with| .sl t _=>some t|_=>none) v with|some x=>some (.a x)|none=>none
 | .agg l=>match tZ st (match k with| .st _ tg _=>tg|_=> []) l with|some x=>some (.agg x)|none=>none
def iP(Γ:Nat→TK)(st:St):List Operand→List Nat→Option (List S1×List S1)
 | [],_=>some ([],[])
 |x::r,t=>match cC st [] x with
  |some v=>match AE st (match t with|t::_=>Γ t| []=> .other) v,iP Γ st r (match t with|_::ts=>ts| []=> [])with
   |some y,some (vs,ys)=>some (v::vs,y::ys)
   |_,_=>none
  |none=>none
def back(st:St):List V→List V→Option Hp
 | [],[]=>some []
 | .own n::r, .sl t' l'::s=>match look st.hp n,back st r s with
   |some (.arr t _),some os=>match cB t t' l' with|some l'=>some ((n, .arr t l')::os)|none=>none
   |_,_=>none
 | .lit _::r,_::s=>back st r s
 |_,_=>none
def Hh(P:Program)(ty:Tag→Nat)(Γ:Nat→TK)(cr:List (Nat×CR))(st:St)(d:Option Nat):Op→Option (List Prop×St×SV)
 | .call ⟨.value (.func f),xs,ts⟩=>match iP Γ st xs.toList ts.toList,look cr (d.getD 0+100000)with
   |some (vs,as),some ⟨_, .a (.lit v)::as'⟩=>match back st (vs.flatMap cellsOf) (as'.flatMap cellsOf),v.oneCell' with
    |some os,true=>match cx os with
     |true=>some ([mz P f as as' v],st.upd os, .one (.a (.lit v)))
     |false=>none
    |_,_=>none
   |_,_=>none
 |_=>none
def lp(st:St):List Operand→Option (List S1)
 | []=>some []
 |x::r=>match cC st [] x,lp st r with
  |some (.a (.lit (.slice _ _ _))),_=>none
  |some (.a (.lit v)),some ys=>some (.a (.lit v)::ys)
  |_,_=>none
def Hi(P:Program)(ty:Tag→Nat)(cr:List (Nat×CR))(st:St)(d:Option Nat):Op→Option (List Prop×St×SV)
 | .call ⟨.value (.func f),xs,_⟩=>match xs.toList with
   |x::r=>match cC st [] x,lp st r,look cr (d.getD 0+200000)with
    |some (.a (.vw n (some (i,off)) t l)),some ls,some ⟨_, .a (.lit v):: .a (.sl t' l')::ls'⟩=>match look st.hp n,cB t t' l',v.oneCell' with
     |some (.arr g l0),some l',true=>match vp (dec g (l0.getD i (aK g))) off [.sl t l']with
      |some c=>match enc g c with
       |some (vc,x')=>some (mz P f (.a (.sl t l)::ls) (.a (.sl t l')::ls') v::vc,st.upd [(n, .arr g (l0.set i x'))], .one (.a (.lit v)))
       |none=>none
      |none=>none
     |_,_,_=>none
    |_,_,_=>none
   | []=>none
 |_=>none
section
variable{P:Program}{zb:aY}{st st':St}{a:Act}{w:World}{env:Env}{Q:Exit→Act→World→Prop}{o:Oper}
theorem RI.cells{v:V}{u:Value}{f:List Nat}(h:RI w v u f):u.cells= #[u]:=by
 cases v with
 |lit x=>obtain⟨rfl,h1,_⟩:=h;cases u<;>simp_all [Value.cells,Value.oneCell']
 |sl t l=>obtain⟨oa,cap,rfl,_⟩:=h;rfl
 |_=>exact h.elim
theorem RF.app{w:World}: ∀{x y:List V} {us vs:List Value} {f g:List (List Nat)},RF w x us f→RF w y vs g→RF w (x++y) (us++vs) (f++g)
 | [],_,[],_,_,_,h,k=>by rw[show _=_ from h];exact k
 |_::_,_,_::_,_,_,_,⟨f1,f2,h1,h2,e⟩,k=>⟨f1,f2++_,h1,RF.app h2 k,by rw[e,List.cons_append]⟩
 | [],_,_::_,_,_,_,h,_=>h.elim
 |_::_,_,[],_,_,_,h,_=>h.elim
theorem j9{w:World}: ∀{as:List S1} {us:List Value} {az:List (List Nat)},gh w as us az→RF w (as.flatMap cellsOf) (us.flatMap fun u=>u.cells.toList) az
 | [],[],_,h=>h
 | .a v::as,u::us,_,⟨f,g,h1,h2,e⟩=>by
   have:=RF.app (x:= [v]) (us:= [u]) (f:= [f]) ⟨f,[],h1,rfl,rfl⟩ (j9 h2)
   rw[List.flatMap_cons,List.flatMap_cons,RI.cells h1,e]
   exact this
 | .agg l::as,u::us,_,⟨cs,f,g,hu,h1,h2,e⟩=>by
   rw[List.flatMap_cons,List.flatMap_cons,hu,e]
   exact RF.app h1 (j9 h2)
 | [],_::_,_,h=>h.elim
 | .a _::_,[],_,h=>h.elim
 | .agg _::_,[],_,h=>h.elim
def sk(env:Env):V→List Nat
 | .own n=>(env n).fp
 |_=> []
theorem xC(g:Good ty zb st a.tmps w env){tg:Option Tag}{v x:V}{u:Value}(hr:RA w st.hp env v u)(h:yR st tg v=some x):RI w x u (sk env v):=by
 cases v with
 |own n=>
  simp only[yR]at h
  split at h
  ·rename_i t l hl
   simp only[Option.some.injEq]at h
   subst h
   obtain⟨_,rfl⟩:=hr
   exact RO.sl (g.obj n _ hl)
  ·cases h
 |lit v=>
  obtain⟨rfl,h1⟩:=hr
  simp only[yR]at h
  split at h
  ·rename_i heq;cases heq
  ·rename_i heq
   simp only[V.lit.injEq]at heq
   subst heq
   split at h
   ·simp only[Option.some.injEq]at h
    subst h
    exact⟨none,0,rfl,Nat.le_refl _,Nat.zero_le _,Or.inl ⟨rfl,rfl,fun _=>rfl⟩⟩
   ·cases h
  ·cases h
  ·rename_i heq
   simp only[V.lit.injEq]at heq
   subst heq
   simp only[Option.some.injEq]at h
   subst h
   exact⟨rfl,h1,rfl⟩
  ·cases h
 |_=>simp[yR]at h
theorem uc(g:Good ty zb st a.tmps w env): ∀{vs:List V} {tg:List (Option Tag)} {xs:List V} {us:List Value},aD (RA w st.hp env) vs us→tZ st tg vs=some xs→RF w xs us (vs.map (sk env))
 | [],tg,xs,us,hr,h=>by
   simp only[tZ,Option.some.injEq]at h
   subst h
   cases us with
   |nil=>rfl
   |cons _ _=>exact hr.elim
 |v::r,tg,xs,us,hr,h=>by
  cases us with
  |nil=>exact hr.elim
  |cons u us=>
   simp only[tZ]at h
   split at h
   ·rename_i x y h1 h2
    simp only[Option.some.injEq]at h
    subst h
    exact⟨_,_,xC g hr.1 h1,uc g hr.2 h2,rfl⟩
   ·cases h
theorem nh{Γ:Nat→TK}(g:Good ty zb st a.tmps w env): ∀{xs:List Operand} {ts:List Nat} {vs as:List S1},iP Γ st xs ts=some (vs,as)→
  gh w as (xs.map a.eval) ((vs.flatMap cellsOf).map (sk env))∧aD (RA w st.hp env) (vs.flatMap cellsOf) ((xs.map a.eval).flatMap fun u=>u.cells.toList)
 | [],ts,vs,as,h=>by
   simp only[iP,Option.some.injEq,Prod.mk.injEq]at h
   obtain⟨rfl,rfl⟩:=h
   exact⟨rfl,trivial⟩
 |x::r,ts,vs,as,h=>by
  simp only[iP]at h
  split at h
  ·rename_i v hx
   split at h
   ·rename_i y vs' ys h1 h2
    simp only[Option.some.injEq,Prod.mk.injEq]at h
    obtain⟨rfl,rfl⟩:=h
    have qS:=bX g (fun e he=>by simp at he) hx
    obtain⟨k1,k2⟩:=nh g h2
    cases v with
    |a v=>
     simp only[AE]at h1
     split at h1
     ·rename_i x' hl
      simp only[Option.some.injEq]at h1
      subst h1
      have xy:=xC g qS hl
      refine⟨⟨_,_,xy,k1,rfl⟩,?_⟩
      rw[List.map_cons,List.flatMap_cons,List.flatMap_cons,RI.cells xy]
      exact⟨qS,k2⟩
     ·cases h1
    |agg l=>
     simp only[AE]at h1
     split at h1
     ·rename_i x' hl
      simp only[Option.some.injEq]at h1
      subst h1
      obtain⟨cs,hu,fP⟩:=qS
      refine⟨⟨cs,_,_,hu,uc g fP hl,k1,by rw[List.flatMap_cons,List.map_append];rfl⟩,?_⟩
      rw[List.map_cons,List.flatMap_cons,List.flatMap_cons,hu]
      exact aD.app fP k2
     ·cases h1
   ·cases h
  ·cases h
theorem sn(g:Good ty zb st a.tmps w env){w':World}: ∀{vs as:List V} {us:List Value} {az:List (List Nat)} {os:Hp},back st vs as=some os→aD (RA w st.hp env) vs us→RF w' as us az→jI az (vs.map (sk env))→Own 0 w' az.flatten→cx os=true→
  (∀b,b∈(vs.map (sk env)).flatten→ ∃n o,look os n=some o∧b∈(env n).fp)∧
  (∀n o,look os n=some o→(∃t l l' cL,look st.hp n=some (.arr t l)∧o= .arr t l'∧Sl (kk t) (rd t) w' (env n).v l' cL∧Own 0 w' cL∧ ∀b,b∈cL→b∈(env n).fp)∧ ∀b,b∈(env n).fp→b∈(vs.map (sk env)).flatten)∧
  ((vs.map (sk env)).flatten.Nodup)
 | [],[],us,az,os,h,_,_,_,_,_=>by
   simp only[back,Option.some.injEq]at h
   subst h
   exact⟨by simp,by simp[look],by simp⟩
 | .own n::r, .sl t' l'::s,us,az,os,h,hr,hf,hsub,hown,hnd=>by
   cases us with
   |nil=>exact hr.elim
   |cons u us=>
    obtain⟨f,fr,h1,h2,rfl⟩:=hf
    simp only[back]at h
    split at h
    ·rename_i t l os' hl hb
     split at h
     ·rename_i l2 hc
      simp only[Option.some.injEq]at h
      subst h
      obtain⟨e,rfl⟩:=bk hc
      subst e
      simp only[cx,Bool.and_eq_true]at hnd
      rw[List.flatten_cons]at hown
      obtain⟨hn1,hn2,F3⟩:=List.nodup_append.1 hown.nodup
      have o1:Own 0 w' f:=⟨hn1,fun _ _=>Nat.zero_le _,fun b hb=>hown.kind b (List.mem_append_left _ hb)⟩
      have o2:Own 0 w' fr.flatten:=⟨hn2,fun _ _=>Nat.zero_le _,fun b hb=>hown.kind b (List.mem_append_right _ hb)⟩
      obtain⟨q1,q2,q3⟩:=sn g hb hr.2 h2 hsub.2 o2 hnd.2
      have hu:u=(env n).v:=hr.1.2
      have hno:look os' n=none:=by
       cases hq:look os' n with
       |none=>rfl
       |some x=>simp[hq]at hnd
      refine⟨fun b hb=> ?_,fun m o hm=> ?_,?_⟩
      ·rw[List.map_cons,List.flatten_cons]at hb
       rcases List.mem_append.1 hb with hb|hb
       ·exact⟨n,_,look_eq,hb⟩
       ·obtain⟨m,o,h3,h4⟩:=q1 b hb
        have hmn:m≠n:=by rintro rfl;rw[hno]at h3;cases h3
        exact⟨m,o,by rw[aC hmn];exact h3,h4⟩
      ·by_cases hmn:m=n
       ·subst hmn
        rw[look_eq]at hm
        simp only[Option.some.injEq]at hm
        exact⟨⟨t',l,l',f,hl,hm.symm,by rw[←hu];exact h1,o1,hsub.1⟩,fun b hb=>by rw[List.map_cons,List.flatten_cons];exact List.mem_append_left _ hb⟩
       ·rw[aC hmn]at hm
        obtain⟨h3,h4⟩:=q2 m o hm
        exact⟨h3,fun b hb=>by rw[List.map_cons,List.flatten_cons];exact List.mem_append_right _ (h4 b hb)⟩
      ·rw[List.map_cons,List.flatten_cons]
       refine List.nodup_append.2 ⟨(RO.own (g.obj n _ hl)).nodup,q3,?_⟩
       rintro b hb c hc rfl
       obtain⟨m,o,h3,h4⟩:=q1 b hc
       have hmn:n≠m:=by rintro rfl;rw[hno]at h3;cases h3
       obtain⟨⟨t2,l2,_,_,h5,_⟩,_⟩:=q2 m o h3
       exact g.eO n m _ _ hmn hl h5 b hb h4
     ·cases h
    ·cases h
 | .lit x::r,y::s,us,az,os,h,hr,hf,hsub,hown,hnd=>by
   cases us with
   |nil=>exact hr.elim
   |cons u us=>
    obtain⟨f,fr,h1,h2,rfl⟩:=hf
    simp only[back]at h
    rw[List.flatten_cons]at hown
    obtain⟨_,hn2,_⟩:=List.nodup_append.1 hown.nodup
    obtain⟨q1,q2,q3⟩:=sn g h hr.2 h2 hsub.2 ⟨hn2,fun _ _=>Nat.zero_le _,fun b hb=>hown.kind b (List.mem_append_right _ hb)⟩ hnd
    exact⟨q1,q2,q3⟩
 | .own _::_, .lit _::_,_,_,_,h,_,_,_,_,_=>by simp[back]at h
 | .own _::_, .any::_,_,_,_,h,_,_,_,_,_=>by simp[back]at h
 | .own _::_, .own _::_,_,_,_,h,_,_,_,_,_=>by simp[back]at h
 | .own _::_, .ptr _ _::_,_,_,_,h,_,_,_,_,_=>by simp[back]at h
 | .own _::_, .fA _ _ _::_,_,_,_,h,_,_,_,_,_=>by simp[back]at h
 | .own _::_, .ip _ _ _::_,_,_,_,h,_,_,_,_,_=>by simp[back]at h
 | .own _::_, .vw _ _ _ _::_,_,_,_,h,_,_,_,_,_=>by simp[back]at h
 | .own _::_, .qm _ _ _ _ _::_,_,_,_,h,_,_,_,_,_=>by simp[back]at h
 | .own _::_, .qn _ _ _::_,_,_,_,h,_,_,_,_,_=>by simp[back]at h
 | .own _::_, .mix _ _ _ _::_,_,_,_,h,_,_,_,_,_=>by simp[back]at h
 | .own _::_, .l6 _::_,_,_,_,h,_,_,_,_,_=>by simp[back]at h
 | .own _::_, .ou _ _::_,_,_,_,h,_,_,_,_,_=>by simp[back]at h
 | .own _::_, .jW _::_,_,_,_,h,_,_,_,_,_=>by simp[back]at h
 | .own _::_, .fZ _ _ _::_,_,_,_,h,_,_,_,_,_=>by simp[back]at h
 | .own _::_,[],_,_,_,h,_,_,_,_,_=>by simp[back]at h
 | .lit _::_,[],_,_,_,h,_,_,_,_,_=>by simp[back]at h
 | [],_::_,_,_,_,h,_,_,_,_,_=>by simp[back]at h
 | .any::_,_,_,_,_,h,_,_,_,_,_=>by simp[back]at h
 | .sl _ _::_,_,_,_,_,h,_,_,_,_,_=>by simp[back]at h
 | .ptr _ _::_,_,_,_,_,h,_,_,_,_,_=>by simp[back]at h
 | .fA _ _ _::_,_,_,_,_,h,_,_,_,_,_=>by simp[back]at h
 | .ip _ _ _::_,_,_,_,_,h,_,_,_,_,_=>by simp[back]at h
 | .vw _ _ _ _::_,_,_,_,_,h,_,_,_,_,_=>by simp[back]at h
 | .qm _ _ _ _ _::_,_,_,_,_,h,_,_,_,_,_=>by simp[back]at h
 | .qn _ _ _::_,_,_,_,_,h,_,_,_,_,_=>by simp[back]at h
 | .mix _ _ _ _::_,_,_,_,_,h,_,_,_,_,_=>by simp[back]at h
 | .l6 _::_,_,_,_,_,h,_,_,_,_,_=>by simp[back]at h
 | .ou _ _::_,_,_,_,_,h,_,_,_,_,_=>by simp[back]at h
 | .jW _::_,_,_,_,_,h,_,_,_,_,_=>by simp[back]at h
 | .fZ _ _ _::_,_,_,_,_,h,_,_,_,_,_=>by simp[back]at h
theorem o7(g:Good ty zb st a.tmps w env): ∀{vs as:List V} {os:Hp},back st vs as=some os→cx os=true→
  Own 0 w (vs.map (sk env)).flatten∧(∀b,b∈(vs.map (sk env)).flatten→ ∃n o o',look os n=some o∧look st.hp n=some o'∧b∈(env n).fp)
 | [],[],os,h,_=>⟨Own.nil _ _,by simp⟩
 | .own n::r, .sl t' l'::s,os,h,hnd=>by
   simp only[back]at h
   split at h
   ·rename_i t l os' hl hb
    split at h
    ·rename_i l2 hc
     simp only[Option.some.injEq]at h
     subst h
     simp only[cx,Bool.and_eq_true]at hnd
     obtain⟨q1,q2⟩:=o7 g hb hnd.2
     have hno:look os' n=none:=by
      cases hq:look os' n with
      |none=>rfl
      |some x=>simp[hq]at hnd
     have ho:=RO.own (g.obj n _ hl)
     rw[List.map_cons,List.flatten_cons]
     refine⟨⟨List.nodup_append.2 ⟨ho.nodup,q1.nodup,?_⟩,fun _ _=>Nat.zero_le _,fun b hb=> ?_⟩,fun b hb=> ?_⟩
     ·rintro b hb c vn rfl
      obtain⟨m,o,o',h3,h5,h4⟩:=q2 b vn
      have hmn:n≠m:=by rintro rfl;rw[hno]at h3;cases h3
      exact g.eO n m _ _ hmn hl h5 b hb h4
     ·rcases List.mem_append.1 hb with hb|hb
      ·exact ho.kind b hb
      ·exact q1.kind b hb
     ·rcases List.mem_append.1 hb with hb|hb
      ·exact⟨n,_,_,look_eq,hl,hb⟩
      ·obtain⟨m,o,o',h3,h5,h4⟩:=q2 b hb
       have hmn:m≠n:=by rintro rfl;rw[hno]at h3;cases h3
       exact⟨m,o,o',by rw[aC hmn];exact h3,h5,h4⟩
    ·cases h
   ·cases h
 | .lit x::r,y::s,os,h,hnd=>by
   simp only[back]at h
   have q:=o7 g h hnd
   exact q
 | .own _::_, .lit _::_,_,h,_=>by simp[back]at h
 | .own _::_, .any::_,_,h,_=>by simp[back]at h
 | .own _::_, .own _::_,_,h,_=>by simp[back]at h
 | .own _::_, .ptr _ _::_,_,h,_=>by simp[back]at h
 | .own _::_, .fA _ _ _::_,_,h,_=>by simp[back]at h
 | .own _::_, .ip _ _ _::_,_,h,_=>by simp[back]at h
 | .own _::_, .vw _ _ _ _::_,_,h,_=>by simp[back]at h
 | .own _::_, .qm _ _ _ _ _::_,_,h,_=>by simp[back]at h
 | .own _::_, .qn _ _ _::_,_,h,_=>by simp[back]at h
 | .own _::_, .mix _ _ _ _::_,_,h,_=>by simp[back]at h
 | .own _::_, .l6 _::_,_,h,_=>by simp[back]at h
 | .own _::_, .ou _ _::_,_,h,_=>by simp[back]at h
 | .own _::_, .jW _::_,_,h,_=>by simp[back]at h
 | .own _::_, .fZ _ _ _::_,_,h,_=>by simp[back]at h
 | .own _::_,[],_,h,_=>by simp[back]at h
 | .lit _::_,[],_,h,_=>by simp[back]at h
 | [],_::_,_,h,_=>by simp[back]at h
 | .any::_,_,_,h,_=>by simp[back]at h
 | .sl _ _::_,_,_,h,_=>by simp[back]at h
 | .ptr _ _::_,_,_,h,_=>by simp[back]at h
 | .fA _ _ _::_,_,_,h,_=>by simp[back]at h
 | .ip _ _ _::_,_,_,h,_=>by simp[back]at h
 | .vw _ _ _ _::_,_,_,h,_=>by simp[back]at h
 | .qm _ _ _ _ _::_,_,_,h,_=>by simp[back]at h
 | .qn _ _ _::_,_,_,h,_=>by simp[back]at h
 | .mix _ _ _ _::_,_,_,h,_=>by simp[back]at h
 | .l6 _::_,_,_,h,_=>by simp[back]at h
 | .ou _ _::_,_,_,h,_=>by simp[back]at h
 | .jW _::_,_,_,h,_=>by simp[back]at h
 | .fZ _ _ _::_,_,_,h,_=>by simp[back]at h
theorem Kept.EE{L:List Nat}{pv:Nat→CO}{w':World}(h:Kept ⟨w,L,pv⟩ w w')(hB:zb.w.heap.size≤w.heap.size)(hL: ∀b,b∈L→b∈zb.L∨zb.w.heap.size≤b):Kept zb w w':=
 ⟨h.os,h.tape,h.output,h.size,fun b hb hn=>h.block b (Nat.lt_of_lt_of_le hb hB) fun hm=>(hL b hm).elim hn fun h=>by omega,h.shape⟩
theorem qW{f:FuncId}{xs:Array Operand}{ts:Array TypeId}(ho:o.op= .call ⟨.value (.func f),xs,ts⟩)(hS: ∀(args:Array Value) (w:World),(callFunc f args).run P w= .ok (.enter f args) w):
  (execOp a.eval o).run P w= .ok (.enter f (xs.toList.map a.eval).toArray) w:=by
 have hx:xs.map a.eval=(xs.toList.map a.eval).toArray:=by rw[←List.map_toArray]
 rw[←hx]
 have h0:a.eval (.func f)= .func (.func f) #[] #[]:=rfl
 unfold execOp
 simp[ho,resolve,invoke,Deferred.ofValue,h0,hS]
theorem EF{Γ:Nat→TK}{cr:List (Nat×CR)}{vc:List Prop}{v:SV}{d:Option Nat}(h:Hh P ty Γ cr st d o.op=some (vc,st',v))(g:Good ty zb st a.tmps w env)(hB:zb.w.heap.size≤w.heap.size)(hA:rQ zb)(hN:qJ w)(hv: ∀q,q∈vc→q):
  o.wp P a w (fun a' w'=> ∃u env',a'=a.put o.dst u∧Kept zb w w'∧Good ty zb st' a.tmps w' env'∧st'.n=st.n∧jG w' st'.hp env' a.tmps v u) Q:=by
 generalize bU:o.op=op at h
 unfold Hh at h
 split at h
 ·rename_i f xs ts
  split at h
  ·rename_i vs as own v0 as' hl JL
   split at h
   ·rename_i os hb h1
    split at h
    ·rename_i hnd
     simp only[Option.some.injEq,Prod.mk.injEq]at h
     obtain⟨rfl,rfl,rfl⟩:=h
     obtain⟨HR,HS⟩:mz P f as as' v0:=hv _ (by simp)
     obtain⟨q1,q2⟩:=nh g hl
     obtain⟨q3,q4⟩:=o7 g hb hnd
     unfold Oper.wp
     rw[qW bU HR]
     simp only[Oper.upon]
     refine(HS w _ _ hN (fun b h0 hb=>by obtain⟨n,o,o',_,hl',FL⟩:=q4 b hb;exact hA.free (g.dom n o' hl' b FL) h0) q1 q3).mono ?_
     rintro e w' ⟨dF,rfl,hk,ha,hown,hsub⟩
     obtain⟨r1,r2,_⟩:=sn g hb q2 (j9 ha) hsub hown hnd
     have dN: ∀n, ∃yH, ∀t l',look os n=some (.arr t l')→eN ty w' n t l' ⟨(env n).v,yH⟩∧ ∀b,b∈yH→b∈(env n).fp:=by
      intro n
      cases hq:look os n with
      |none=>exact⟨[],fun _ _ h=>by cases h⟩
      |some o'=>
       obtain⟨⟨t,l,l',cL,h3,rfl,h5,h6,h7⟩,_⟩:=r2 n o' hq
       obtain⟨yH,k1,k2⟩:=oZ (hp:=st.hp) (g.obj n _ h3) hk.shape h5 h6 h7
       refine⟨yH,fun t2 l2 h=> ?_⟩
       simp only[Option.some.injEq,Obj.arr.injEq]at h
       obtain⟨rfl,h⟩:=h
       cases h
       exact⟨k1,k2⟩
     obtain⟨env',hg',DN⟩:=tY g (os:=os) (w':=w') (ED:=fun n=>Classical.choose (dN n))
      (fun n o' hn=>by
       obtain⟨⟨t,l,l',cL,h3,h4,_⟩,_⟩:=r2 n o' hn
       exact⟨t,l,l',h3,h4⟩)
      (fun n o' hn b hb'=>by
       obtain⟨⟨t,l,l',cL,h3,rfl,_⟩,_⟩:=r2 n o' hn
       exact(Classical.choose_spec (dN n) t l' hn).2 b hb')
      (fun b hlt hno=>hk.block b hlt fun hm=>by
       obtain⟨n,o',h3,h4⟩:=r1 b hm
       exact hno n o' h3 h4)
      (fun n t l' hn=>(Classical.choose_spec (dN n) t l' hn).1)
     refine⟨v0,env',rfl,hk.EE hB fun b hm=> ?_,hg',rfl,rfl,h1⟩
     obtain⟨n,o1,o2,h3,h4,h5⟩:=q4 b hm
     exact g.dom n o2 h4 b h5
    ·cases h
   ·cases h
  ·cases h
 ·cases h
theorem o8(g:Good ty zb st a.tmps w env): ∀{xs:List Operand} {as:List S1},lp st xs=some as→gh w as (xs.map a.eval) (as.map fun _=> [])
 | [],as,h=>by
   simp only[lp,Option.some.injEq]at h
   subst h;rfl
 |x::r,as,h=>by
  simp only[lp]at h
  split at h
  ·cases h
  ·rename_i v ys hne hx h2
   simp only[Option.some.injEq]at h
   subst h
   obtain⟨h3,h4⟩:=bX g (fun e he=>by simp at he) hx
   exact⟨[],_,⟨h3,h4,rfl⟩,o8 g h2,rfl⟩
  ·cases h
theorem o9{n i off:Nat}{t:Tag}{l l2:List (T t)}{u0:Value}{gt:Tag}{l0:List (T gt)}{c:List V}{x':T gt}{j7:List Prop}{pv:Nat→CO}(g:Good ty zb st a.tmps w env)(hB:zb.w.heap.size≤w.heap.size)
  (FJ:RV w st.hp env n (some (i,off)) t l u0)(hl:look st.hp n=some (.arr gt l0))(hs:vp (dec gt (l0.getD i (aK gt))) off [.sl t l2]=some c)(he:enc gt c=some (j7,x'))(hv: ∀q,q∈j7→q):
  ∃fv,RI w (.sl t l) u0 fv∧(∀y,y∈fv→y∈zb.L∨zb.w.heap.size≤y)∧Own 0 w fv∧ ∀w' xD,Kept ⟨w,fv,pv⟩ w w'→RI w' (.sl t l2) u0 xD→Own 0 w' xD→(∀y,y∈xD→y∈fv)→ ∃env',Kept zb w w'∧Good ty zb (st.upd [(n, .arr gt (l0.set i x'))]) a.tmps w' env':=by
 obtain⟨_,_,Gk⟩:=FJ
 obtain⟨t1,l1,b2,o2,HP,Gh,ng,hi,EG,EH,ud,hcell⟩:=Gk i off rfl
 rw[hl]at ng
 simp only[Option.some.injEq,Obj.arr.injEq]at ng
 obtain⟨rfl,ng⟩:=ng
 cases ng
 have hro:=g.obj n _ hl
 obtain⟨oa,cap,AB,Ci,Az,h3⟩:=RO.sl hro
 have hown:=RO.own hro
 rcases h3 with⟨rfl,_⟩| ⟨b,o1,az,vr,aU,dN,hE⟩
 ·simp at hi
 rw[AB,vr]at EH
 simp only[Value.slice.injEq,Option.some.injEq,Addr.mk.injEq,and_true]at EH
 obtain⟨⟨rfl,rfl⟩,rfl,rfl⟩:=EH
 have DO:l0[i]? =some (l0.getD i (aK gt)):=by rw[List.getD_eq_getElem?_getD,List.getElem?_eq_getElem hi];rfl
 obtain⟨fe,hf⟩:=cW hE.1 DO
 obtain⟨cs,nB,Ey⟩:=hE.2 _ _ fe DO hf
 rw[dN]at hown
 have gO:=List.nodup_cons.1 hown.nodup
 have hR:=reads gt Ey
 obtain⟨f1,f',Gl,k1,k2⟩:=aN.split off hR
 have Cf: ∃r',(dec gt (l0.getD i (aK gt))).drop off= .sl t l::r':=by
  rw[rW]at EG
  have hlt:=(List.getElem?_eq_some_iff.1 EG).1
  rw[List.drop_eq_getElem_cons hlt]
  have:=(List.getElem?_eq_some_iff.1 EG).2
  rw[this]
  exact⟨_,rfl⟩
 obtain⟨r',Cf⟩:=Cf
 rw[Cf]at k2
 have AF: ∃u us,cs.drop off=u::us:=by
  cases hq:cs.drop off with
  |nil=>rw[hq]at k2;exact k2.elim
  |cons u us=>exact⟨u,us,rfl⟩
 obtain⟨u,us,AF⟩:=AF
 rw[AF]at k2
 obtain⟨fv,f3,xy,Gm,hf'⟩:=k2
 have JM:cs[off]? =some u:=by
  have:=congrArg (fun l=>l[0]?) AF
  simpa using this
 have JN:u0=u:=by
  have:=nB off u JM
  rw[hcell]at this
  simpa using this
 rw[JN]at hcell ⊢
 have qX: ∀y,y∈fv→y∈fe:=fun y hy=>by rw[Gl,hf'];simp[hy]
 have Gn:=(List.pairwise_flatten.1 gO.2).1 fe (List.mem_of_getElem? hf)
 rw[Gl,hf']at Gn
 obtain⟨n1,n2,n3⟩:=List.nodup_append.1 Gn
 obtain⟨n4,n5,n6⟩:=List.nodup_append.1 n2
 have AG:Own 0 w fv:=⟨n4,fun _ _=>Nat.zero_le _,fun y hy=>hown.kind y (List.mem_cons_of_mem _ (aP hf (qX y hy)))⟩
 refine⟨fv,xy,fun y hy=>g.dom n _ hl y (by rw[dN];exact List.mem_cons_of_mem _ (aP hf (qX y hy))),AG,?_⟩
 intro w' xD hk EI v5 v8
 have m1:=v5.nodup
 have hkeep: ∀y,y<w.heap.size→y∉fv→w'.heap[y]? =w.heap[y]? :=fun y hy hn=>hk.block y hy hn
 have Ch: ∀y,y∈az.flatten→y≠b:=fun y hy e=>gO.1 (e▸hy)
 have EJ: ∀y,y∈az.flatten→y<w.heap.size:=fun y hy=>hown.lt y (List.mem_cons_of_mem _ hy)
 have hkb:w'.heap[b]? =w.heap[b]? :=hkeep b aU fun hm=>gO.1 (aP hf (qX b hm))
 have IW: ∀{o:Nat} {cs:List Value},w.rangeAt b o cs→w'.rangeAt b o cs:=by
  intro o cs hr j v hv
  rw[World.cell?_of_block (w:=w) (a:=⟨b,_,none⟩) hkb];exact hr j v hv
 have JO:bF w w' f1:=fun y hy=>hkeep y (EJ y (aP hf (by rw[Gl];simp[hy]))) fun hm=>n3 y hy y (by simp[hm]) rfl
 have JP:bF w w' f3:=fun y hy=>hkeep y (EJ y (aP hf (by rw[Gl,hf'];simp[hy]))) fun hm=>n6 y hm y hy rfl
 have AH: ∀{c:List V} {us:List Value} {f:List Nat},aN w c us f→bF w w' f→aN w' c us f:=by
  intro c
  induction c with
  |nil=>intro us f h _;cases us with
   |nil=>exact h
   |cons _ _=>exact h.elim
  |cons v r ih=>
   intro us f h ha
   cases us with
   |nil=>exact h.elim
   |cons u us=>
    obtain⟨f1,f2,h1,h2,rfl⟩:=h
    refine⟨f1,f2,?_,ih h2 (ha.sub fun y hy=>List.mem_append_right _ hy),rfl⟩
    cases v with
    |lit x=>exact h1
    |sl t l=>exact Sl.aB (bI t) h1 (ha.sub fun y hy=>List.mem_append_left _ hy)
    |_=>exact h1.elim
 have vn:c=(dec gt (l0.getD i (aK gt))).take off++([.sl t l2]++r'):=by
  unfold vp at hs
  split at hs
  ·simp only[Option.some.injEq]at hs
   rw[←hs]
   congr 2
   have:(dec gt (l0.getD i (aK gt))).drop (off+ [V.sl t l2].length)=((dec gt (l0.getD i (aK gt))).drop off).drop 1:=by rw[List.drop_drop];rfl
   rw[this,Cf];rfl
  ·cases hs
 have HT:cs=cs.take off++([u]++us):=by
  have:=(List.take_append_drop off cs).symm
  rw[AF]at this
  exact this
 have hrd:aN w' c cs (f1++(xD++f3)):=by
  rw[vn,HT]
  refine aN.Ge (AH k1 JO) (y:= [.sl t l2]) (vs:= [u]) ?_ (AH Gm JP)
  exact⟨xD,[],EI,rfl,by simp⟩
 have Gj:=jY gt he (fun q hq=>hv q hq) hrd
 have jT: ∀y,y∈f1++(xD++f3)→y∈fe:=by
  intro y hy
  rw[Gl,hf']
  simp only[List.mem_append]at hy ⊢
  rcases hy with hy|hy|hy
  ·exact Or.inl hy
  ·exact Or.inr (Or.inl (v8 y hy))
  ·exact Or.inr (Or.inr hy)
 have yP:=mw (bI gt) (w':=w') hE (i:=i) (x':=x') (f':=f1++(xD++f3)) (IW nB) Gj (fun j cs' _ _ hr=>IW hr)
  (fun j f' hj hf' y hy=>hkeep y (EJ y (aP hf' hy)) fun hm=>jw gO.2 hf' hf hj y hy (qX y hm))
 have hmem: ∀y,y∈(az.set i (f1++(xD++f3))).flatten→y∈az.flatten:=by
  intro y hy
  rcases iO hy with h| ⟨j,f',_,hj,h⟩
  ·exact aP hf (jT y h)
  ·exact aP hj h
 have FK:Own 0 w' (b::(az.set i (f1++(xD++f3))).flatten):=by
  refine⟨List.nodup_cons.2 ⟨fun hm=>gO.1 (hmem b hm),fR gO.2 ?_ fun j f' hj hf' y hy hy'=>jw gO.2 hf' hf hj y hy (jT y hy')⟩,fun _ _=>Nat.zero_le _,fun y hy=> ?_⟩
  ·refine List.nodup_append.2 ⟨n1,List.nodup_append.2 ⟨m1,n5,fun y hy z hz e=>n6 y (v8 y hy) z hz e⟩,fun y hy z hz e=> ?_⟩
   rcases List.mem_append.1 hz with hz|hz
   ·exact n3 y hy z (by simp[v8 z hz]) e
   ·exact n3 y hy z (by simp[hz]) e
  ·obtain⟨cb,eb,oY⟩:=hown.kind y (by
    rcases List.mem_cons.1 hy with rfl|hy
    ·simp
    ·exact List.mem_cons_of_mem _ (hmem y hy))
   obtain⟨KE,h5,_⟩:=hk.shape y cb eb oY
   exact⟨_,_,h5⟩
 have EB:Sl (kk gt) (rd gt) w' (env n).v (l0.set i x') (b::(az.set i (f1++(xD++f3))).flatten):=by
  refine⟨some ⟨b,o1,none⟩,cap,by rw[AB,vr,List.length_set],by rw[List.length_set];exact Ci,Az,Or.inr ⟨b,o1,_,rfl,Nat.lt_of_lt_of_le aU hk.size,rfl,yP⟩⟩
 obtain⟨yH,w1,w2⟩:=oZ (hp:=st.hp) hro hk.shape EB FK (fun y hy=>by
  rw[dN]
  rcases List.mem_cons.1 hy with rfl|hy
  ·simp
  ·exact List.mem_cons_of_mem _ (hmem y hy))
 have hlk: ∀m o',look [(n,Obj.arr gt (l0.set i x'))] m=some o'→m=n∧o'= .arr gt (l0.set i x'):=by
  intro m o' hm
  by_cases hmn:m=n
  ·subst hmn;rw[look_eq]at hm;simp only[Option.some.injEq]at hm;exact⟨rfl,hm.symm⟩
  ·rw[aC hmn]at hm;cases hm
 obtain⟨env',hg',DN⟩:=tY g (os:= [(n, .arr gt (l0.set i x'))]) (w':=w') (ED:=fun _=>yH)
  (fun m o' hm=>by obtain⟨rfl,rfl⟩:=hlk m o' hm;exact⟨_,_,_,hl,rfl⟩)
  (fun m o' hm y hy=>by obtain⟨rfl,_⟩:=hlk m o' hm;exact w2 y hy)
  (fun y hlt hno=>hkeep y hlt fun hm=>hno n _ look_eq (by rw[dN];exact List.mem_cons_of_mem _ (aP hf (qX y hm))))
  (fun m t2 l3 hm=>by
   obtain⟨rfl,h5⟩:=hlk m _ hm
   simp only[Obj.arr.injEq]at h5
   obtain⟨rfl,h5⟩:=h5
   cases h5
   exact w1)
 refine⟨env',hk.EE hB fun y hm=> ?_,hg'⟩
 exact g.dom n _ hl y (by rw[dN];exact List.mem_cons_of_mem _ (aP hf (qX y hm)))
theorem EK{Γ:Nat→TK}{cr:List (Nat×CR)}{vc:List Prop}{v:SV}{d:Option Nat}(h:Hi P ty cr st d o.op=some (vc,st',v))(g:Good ty zb st a.tmps w env)(hB:zb.w.heap.size≤w.heap.size)(hA:rQ zb)(hN:qJ w)(hv: ∀q,q∈vc→q):
  o.wp P a w (fun a' w'=> ∃u env',a'=a.put o.dst u∧Kept zb w w'∧Good ty zb st' a.tmps w' env'∧st'.n=st.n∧jG w' st'.hp env' a.tmps v u) Q:=by
 generalize bU:o.op=op at h
 unfold Hi at h
 split at h
 ·rename_i f xs ts
  split at h
  ·rename_i x r hxs
   split at h
   ·rename_i n i off t l ls own v0 t' l' ls' hx hls JL
    split at h
    ·rename_i gt l0 l2 hl hc hv0
     split at h
     ·rename_i c hs
      split at h
      ·rename_i j7 x' he
       simp only[Option.some.injEq,Prod.mk.injEq]at h
       obtain⟨rfl,rfl,rfl⟩:=h
       obtain⟨HR,HS⟩:mz P f (.a (.sl t l)::ls) (.a (.sl t l2)::ls') v0:=hv _ (by simp)
       obtain⟨fv,xy,Gp,AG,AI⟩:=o9 (pv:=fun _=>⟨v0,[]⟩) g hB (bX g (fun e he=>by simp at he) hx) hl hs he (fun q hq=>hv q (by simp[hq]))
       have AJ:((fv::ls.map fun _=>([]:List Nat))).flatten=fv:=by
        rw[List.flatten_cons]
        have:(ls.map fun _=>([]:List Nat)).flatten= []:=by simp
        rw[this,List.append_nil]
       unfold Oper.wp
       rw[qW bU HR]
       simp only[Oper.upon]
       rw[hxs,List.map_cons]
       have hargs:gh w (.a (.sl t l)::ls) (a.eval x::r.map a.eval) (fv::ls.map fun _=> []):=⟨fv,_,xy,o8 g hls,rfl⟩
       refine(HS w _ (fv::ls.map fun _=> []) hN (by rw[AJ];exact fun b h0 hb=>hA.free (Gp b hb) h0) hargs (by rw[AJ];exact AG)).mono ?_
       rintro e w' ⟨dF,rfl,hk,⟨xD,fr,EI,_,rfl⟩,AK,hsub⟩
       rw[AJ]at hk
       rw[List.flatten_cons]at AK
       obtain⟨m1,_,_⟩:=List.nodup_append.1 AK.nodup
       have v5:Own 0 w' xD:=⟨m1,fun _ _=>Nat.zero_le _,fun y hy=>AK.kind y (List.mem_append_left _ hy)⟩
       obtain⟨env',hk2,hg'⟩:=AI w' xD hk EI v5 hsub.1
       exact⟨v0,env',rfl,hk2,hg',rfl,rfl,hv0⟩
      ·cases h
     ·cases h
    ·cases h
   ·cases h
  ·cases h
 ·cases h
def Hj(Γ:Nat→TK)(st:St):Op→Option (List Prop×St)
 | .store t x y=>match cC st [] x,cC st [] y with
   |some (.a (.qm n (some (i,o2,j)) tg _ off)),some v=>match look st.hp n with
    |some (.arr g l0)=>match fits (Γ t) v,takes st (cellsOf v),qK (dec g (l0.getD i (aK g))) o2 with
     |true,some (cv,[]),some (.sl t' l')=>match cB tg t' l' with
      |some l=>match vp (dec tg (l.getD j (aK tg))) off cv with
       |some d=>match enc tg d with
        |some (EL,y')=>match vp (dec g (l0.getD i (aK g))) o2 [.sl tg (l.set j y')]with
         |some c=>match enc g c with
          |some (j7,x')=>some (j7++EL,st.upd [(n, .arr g (l0.set i x'))])
          |none=>none
         |none=>none
        |none=>none
       |none=>none
      |none=>none
     |_,_,_=>none
    |_=>none
   |_,_=>none
 |_=>none
theorem EM{Γ:Nat→TK}(C: ∀t,aQ P t (Γ t))(Z: ∀t,(∀z tg fo,Γ t≠ .st z tg fo)→Γ t≠ .other→(P.info? t).map (·.size)=some 1){vc:List Prop}(h:Hj Γ st o.op=some (vc,st'))(g:Good ty zb st a.tmps w env)(hB:zb.w.heap.size≤w.heap.size)(hv: ∀q,q∈vc→q):
  o.wp P a w (fun a' w'=> ∃env',a'=a.put o.dst undef∧Kept zb w w'∧Good ty zb st' a.tmps w' env'∧st'.n=st.n) Q:=by
 have hop: ∀{x v},cC st [] x=some v→cz w st.hp env v (a.eval x):=fun hx=>bX g (fun e he=>by simp at he) hx
 generalize bU:o.op=op at h
 cases op with
 |store t x y=>
  simp only[Hj]at h
  split at h
  case h_2=>cases h
  rename_i n i o2 j tg xx off v hx hy
  have hx:=hop hx
  have hy:=hop hy
  split at h
  case h_2=>cases h
  rename_i gt l0 hl
  split at h
  case h_2=>cases h
  rename_i cv t' l' hfit yO ue
  split at h
  case h_2=>cases h
  rename_i l hcast
  split at h
  case h_2=>cases h
  rename_i d hs1
  split at h
  case h_2=>cases h
  rename_i EL y' JQ
  split at h
  case h_2=>cases h
  rename_i c B8
  split at h
  case h_2=>cases h
  rename_i j7 x' qu
  simp only[Option.some.injEq,Prod.mk.injEq]at h
  obtain⟨rfl,rfl⟩:=h
  obtain⟨_,_,_,_,_,_,_,_,_,_,_,hpos⟩:=hx
  obtain⟨l3,u0,b0,gJ,len,cap,FJ,hj,_,IX,hu⟩:=hpos i o2 j rfl
  have Ez:l3=l:=by
   obtain⟨_,_,Hl⟩:=FJ
   obtain⟨t1,l1,_,_,_,_,ng,_,hel,_⟩:=Hl i o2 rfl
   rw[hl]at ng
   simp only[Option.some.injEq,Obj.arr.injEq]at ng
   obtain⟨rfl,ng⟩:=ng
   cases ng
   rw[hel]at ue
   simp only[Option.some.injEq,V.sl.injEq]at ue
   obtain⟨rfl,ue⟩:=ue
   cases ue
   obtain⟨e,rfl⟩:=bk hcast
   rfl
  subst Ez
  obtain⟨fv,xy,_,hown,AI⟩:=o9 (pv:=fun _=>⟨u0,[]⟩) g hB FJ hl B8 qu (fun q hq=>hv q (by simp[hq]))
  obtain⟨oa,Gh,AB,Ci,Az,h3⟩:=xy
  rcases h3 with⟨rfl,_⟩| ⟨b,o1,az,vr,aU,dN,hE⟩
  ·simp at hj
  rw[IX,vr]at AB
  simp only[Value.slice.injEq,Option.some.injEq,Addr.mk.injEq,and_true]at AB
  obtain⟨⟨rfl,rfl⟩,rfl,rfl⟩:=AB
  have DO:l3[j]? =some (l3.getD j (aK tg)):=by rw[List.getD_eq_getElem?_getD,List.getElem?_eq_getElem hj];rfl
  obtain⟨f,hf⟩:=cW hE.1 DO
  obtain⟨cs,nB,Ey⟩:=hE.2 _ _ f DO hf
  have hlen:=(bI tg).len Ey
  rw[dN]at hown
  have gO:=List.nodup_cons.1 hown.nodup
  obtain⟨fx,FM,Gi,vm⟩:=lg g (dR g hy (ck yO)) yO List.nodup_nil
  have HU:fx= []:=by
   cases fx with
   |nil=>rfl
   |cons y r=>obtain⟨m,_,hm,_⟩:=vm y (by simp);simp at hm
  subst HU
  obtain⟨f1,f2,f3,Cc,hrd,hlo⟩:=aN.vp (reads tg Ey) FM hs1
  have Gj:=jY tg JQ (fun q hq=>hv q (by simp[hq])) hrd
  have hsz:(P.info? t).map (·.size)=some (a.eval y).cells.toList.length∧ ∀u,u∈(a.eval y).cells.toList→u.oneCell'=true:=by
   refine⟨?_,ju g (dR g hy (ck yO)) (gf (ck yO))⟩
   cases v with
   |agg c'=>
    obtain⟨z,KF,fo,hk,hfit⟩:=tU hfit
    have hC:=C t
    rw[hk]at hC
    obtain⟨fs,_,hi2,_⟩:=hC
    obtain⟨us,CF,vR⟩:=hy
    have:=Nat.eq_of_beq_eq_true hfit
    have Ez:=vR.len
    rw[CF]
    cases hq:P.info? t with
    |none=>simp[hq]at hi2
    |some inf=>simp[hq]at hi2;simp[hi2.1,Value.cells,Ez,this]
   |a v'=>
    have hk:=tV hfit
    have hne:v'≠ .any:=by rintro rfl;simp[cellsOf,takes]at yO
    have:=dw g (show RA w st.hp env v' (a.eval y)from hy) hne
    rw[this]
    exact Z t hk.1 hk.2
  obtain⟨cb,eb,oY⟩:=hown.kind b0 (by simp)
  have Cl:w.there b0 (gJ+j*kk tg+off) (a.eval y).cells.toList.length:=by
   refine vI oY _ _ ?_
   have tL:gJ+j*kk tg+cs.length≤cb.size:=by
    have IP:=cF tg
    have:=nB (cs.length-1) _ (List.getElem?_eq_getElem (by omega))
    rw[tj oY]at this
    have:=(Array.getElem?_eq_some_iff.1 this).1
    omega
   omega
  have hkeep: ∀x,x≠b0→(w.setCells b0 (gJ+j*kk tg+off) (a.eval y).cells.toList).heap[x]? =w.heap[x]? :=fun x hx=>aR b0 _ _ w x hx
  have Ch: ∀x,x∈az.flatten→x≠b0:=fun x hx e=>gO.1 (e▸hx)
  have jT: ∀x,x∈f1++([]++f3)→x∈f:=by
   intro x hx
   rw[Cc]
   rcases List.mem_append.1 hx with hx|hx
   ·exact List.mem_append_left _ hx
   ·rw[List.nil_append]at hx;exact List.mem_append_right _ (List.mem_append_right _ hx)
  have yl:bF w (w.setCells b0 (gJ+j*kk tg+off) (a.eval y).cells.toList) (f1++([]++f3)):=fun x hx=>hkeep x (Ch x (aP hf (jT x hx)))
  have yP:=mw (bI tg) (w':=w.setCells b0 (gJ+j*kk tg+off) (a.eval y).cells.toList) hE (i:=j) (x':=y') (f':=f1++([]++f3))
   (iN nB hlo Cl) ((bI tg).aB Gj yl)
   (fun j1 cs' CJ tL hr=>World.rangeAt_setCells_apart hr _ _ _ (Or.inr (by
    rw[tL]
    rcases Nat.lt_or_ge j1 j with h1|h1
    ·left
     have:=Nat.mul_le_mul_right (kk tg) (show j1+1≤j by omega)
     rw[Nat.add_mul]at this;omega
    ·right
     have:=Nat.mul_le_mul_right (kk tg) (show j+1≤j1 by omega)
     rw[Nat.add_mul]at this;omega)))
   (fun j1 f' _ hf' x hx=>hkeep x (Ch x (aP hf' hx)))
  have EA:(f1++([]++f3)).Nodup:=by
   have h1:=(List.pairwise_flatten.1 gO.2).1 f (List.mem_of_getElem? hf)
   rw[Cc]at h1
   obtain⟨h2,h3,h4⟩:=List.nodup_append.1 h1
   obtain⟨_,h6,_⟩:=List.nodup_append.1 h3
   rw[List.nil_append]
   exact List.nodup_append.2 ⟨h2,h6,fun x hx z hz=>h4 x hx z (List.mem_append_right _ hz)⟩
  have hmem: ∀x,x∈(az.set j (f1++([]++f3))).flatten→x∈az.flatten:=by
   intro x hx
   rcases iO hx with h| ⟨j1,f',_,CJ,h⟩
   ·exact aP hf (jT x h)
   ·exact aP CJ h
  have FK:Own 0 (w.setCells b0 (gJ+j*kk tg+off) (a.eval y).cells.toList) (b0::(az.set j (f1++([]++f3))).flatten):=by
   refine⟨List.nodup_cons.2 ⟨fun hm=>gO.1 (hmem b0 hm),fR gO.2 EA fun j1 f' CJ hf' x hx hx'=>jw gO.2 hf' hf CJ x hx (jT x hx')⟩,fun _ _=>Nat.zero_le _,fun x hx=> ?_⟩
   rcases List.mem_cons.1 hx with rfl|hx
   ·obtain⟨c',q1,_⟩:=bC x eb (a.eval y).cells.toList (gJ+j*kk tg+off) w cb oY
    exact⟨_,_,q1⟩
   ·rw[hkeep x (Ch x (hmem x hx))];exact hown.kind x (List.mem_cons_of_mem _ (hmem x hx))
  have AD:Kept ⟨w,fv,fun _=>⟨u0,[]⟩⟩ w (w.setCells b0 (gJ+j*kk tg+off) (a.eval y).cells.toList):=
   oT (zb:=⟨w,fv,fun _=>⟨u0,[]⟩⟩) (Or.inl (by rw[dN];simp)) oY _ _
  have hrun:(storeVar t ⟨b0,gJ+j*kk tg+off,none⟩ (a.eval y)).run P w= .ok () (w.setCells b0 (gJ+j*kk tg+off) (a.eval y).cells.toList):=gM (by simp) Cl hsz.1 hsz.2
  obtain⟨env',hk2,hg'⟩:=AI _ (b0::(az.set j (f1++([]++f3))).flatten) AD
   ⟨some ⟨b0,gJ,none⟩,cap,by rw[IX,List.length_set],by rw[List.length_set];exact Ci,Az,Or.inr ⟨b0,gJ,_,rfl,by rw[dZ];exact aU,rfl,yP⟩⟩ FK
   (fun y hy=>by
    rw[dN]
    rcases List.mem_cons.1 hy with rfl|hy
    ·simp
    ·exact List.mem_cons_of_mem _ (hmem y hy))
  unfold Oper.wp execOp
  simp only[bU,hu,Instr.storeAt,Instr.sureAddr,Sem.run_bind,Sem.run_pure,Result.andThen_ok,hrun]
  exact⟨env',rfl,hk2,hg',rfl⟩
 |_=>simp[Hj]at h
end
end
section
variable{ty:Tag→Nat}
def CM(st:St):List V→Option (List V×List Nat)
 | []=>some ([],[])
 | .lit (.slice _ _ _)::_=>none
 | .lit v::r=>match CM st r with|some (c,k)=>some (.lit v::c,k)|none=>none
 | .sl t l::r=>match CM st r with|some (c,k)=>some (.sl t l::c,k)|none=>none
 | .own n::r=>match look st.hp n,CM st r with
   |some (.arr t l),some (c,k)=>some (.sl t l::c,n::k)
   |_,_=>none
 |_=>none
def pe(st:St)(g:Tag):Nat→List (Nat×Operand)→Option (List Prop×List (T g)×List Nat)
 |_,[]=>some ([],[],[])
 |i,(j,x)::r=>match Nat.beq i j,cC st [] x with
  |true,some s=>match CM st (cellsOf s)with
   |some (c,k)=>match enc g c,pe st g (i+1) r with
    |some (vc,y),some (vcs,ys,ks)=>some (vc++vcs,y::ys,k++ks)
    |_,_=>none
   |none=>none
  |_,_=>none
def Gq(P:Program)(ty:Tag→Nat)(Γ:Nat→TK)(st:St):Op→Option (List Prop×St×SV)
 | .buildSlice t len parts=>match Γ t with
   | .sl g e=>match Nat.beq e (ty g),Nat.beq parts.toList.length len,Nat.ble (len*kk g) 16777216,pe st g 0 parts.toList with
     |true,true,true,some (vc,xs,ks)=>match gN ks&& !pinned ks with
      |true=>some (El P ty g::vc,⟨st.n,st.sl.map fun e=>(e.1,e.2.aI ks []),bh ks [] st.hp⟩, .one (.a (.sl g xs)))
      |_=>none
     |_,_,_,_=>none
   |_=>none
 |_=>none
section
variable{P:Program}{zb:aY}{st:St}{a:Act}{w:World}{env:Env}{Q:Exit→Act→World→Prop}{o:Oper}
theorem jx{st:St}: ∀{l c:List V} {k:List Nat},CM st l=some (c,k)→iH l=true
 | [],_,_,_=>rfl
 |v::r,c,k,h=>by
  unfold CM at h
  split at h
  ·rename_i he;cases he
  ·cases h
  ·rename_i x r' _ he
   simp only[List.cons.injEq]at he
   obtain⟨rfl,rfl⟩:=he
   split at h
   ·rename_i h';have h2:=jx h';exact h2
   ·cases h
  ·rename_i t l r' he
   simp only[List.cons.injEq]at he
   obtain⟨rfl,rfl⟩:=he
   split at h
   ·rename_i h';have h2:=jx h';exact h2
   ·cases h
  ·rename_i n r' he
   simp only[List.cons.injEq]at he
   obtain⟨rfl,rfl⟩:=he
   split at h
   ·rename_i h';have h2:=jx h';exact h2
   ·cases h
  ·cases h
theorem so(g:Good ty zb st a.tmps w env): ∀{l c:List V} {k:List Nat} {us:List Value},aD (RA w st.hp env) l us→CM st l=some (c,k)→
  ∃fp,aN w c us fp∧ ∀b,b∈fp→b<w.heap.size∧(¬Ow st.hp env b∨ ∃i o,i∈k∧look st.hp i=some o∧b∈(env i).fp)
 | [],c,k,us,hr,h=>by
   simp only[CM,Option.some.injEq,Prod.mk.injEq]at h
   obtain⟨rfl,rfl⟩:=h
   cases us with
   |nil=>exact⟨[],rfl,by simp⟩
   |cons _ _=>exact hr.elim
 |v::r,c,k,us,hr,h=>by
  cases us with
  |nil=>exact hr.elim
  |cons u us=>
   unfold CM at h
   split at h
   ·rename_i he;cases he
   ·cases h
   ·rename_i x r' _ he
    simp only[List.cons.injEq]at he
    obtain⟨rfl,rfl⟩:=he
    split at h
    ·rename_i c' k' h'
     simp only[Option.some.injEq,Prod.mk.injEq]at h
     obtain⟨rfl,rfl⟩:=h
     obtain⟨fp,h1,h3⟩:=so g hr.2 h'
     obtain⟨e1,e2⟩:=hr.1
     exact⟨fp,⟨[],fp,⟨e1,e2,rfl⟩,h1,rfl⟩,h3⟩
    ·cases h
   ·rename_i t l r' he
    simp only[List.cons.injEq]at he
    obtain⟨rfl,rfl⟩:=he
    split at h
    ·rename_i c' k' h'
     simp only[Option.some.injEq,Prod.mk.injEq]at h
     obtain⟨rfl,rfl⟩:=h
     obtain⟨fp,h1,h3⟩:=so g hr.2 h'
     obtain⟨f0,k1,k2⟩:=hr.1
     refine⟨f0++fp,⟨f0,fp,k1,h1,rfl⟩,fun b hb=> ?_⟩
     rcases List.mem_append.1 hb with hb|hb
     ·exact⟨Sl.lt (bI t) k1 b hb,Or.inl (k2 b hb)⟩
     ·exact h3 b hb
    ·cases h
   ·rename_i n r' he
    simp only[List.cons.injEq]at he
    obtain⟨rfl,rfl⟩:=he
    split at h
    ·rename_i t l c' k' hl h'
     simp only[Option.some.injEq,Prod.mk.injEq]at h
     obtain⟨rfl,rfl⟩:=h
     obtain⟨fp,h1,h3⟩:=so g hr.2 h'
     obtain⟨_,rfl⟩:=hr.1
     have hb:=RO.sl (g.obj n _ hl)
     refine⟨(env n).fp++fp,⟨_,_,hb,h1,rfl⟩,fun b hb=> ?_⟩
     rcases List.mem_append.1 hb with hb|hb
     ·exact⟨(g.obj n _ hl).l5 b hb,Or.inr ⟨n,_,by simp,hl,hb⟩⟩
     ·obtain⟨q1,q2⟩:=h3 b hb
      refine⟨q1,q2.imp id ?_⟩
      rintro⟨i,o,hi,h4,h5⟩
      exact⟨i,o,List.mem_cons_of_mem _ hi,h4,h5⟩
    ·cases h
   ·cases h
theorem qY(g:Good ty zb st a.tmps w env){t:Tag}: ∀{ps:List (Nat×Operand)} {i:Nat} {vc:List Prop} {xs:List (T t)} {ks:List Nat},pe st t i ps=some (vc,xs,ks)→(∀q,q∈vc→q)→
  (ps.map fun p=>(p.1,a.eval p.2))=kY i (ps.map fun p=>a.eval p.2)∧xs.length=ps.length∧ ∃az:List (List Nat),az.length=xs.length∧
   (∀(i:Nat) (x:T t) (f:List Nat),xs[i]? =some x→az[i]? =some f→ ∃p:Nat×Operand,ps[i]? =some p∧rd t w (a.eval p.2).cells.toList x f)∧ ∀b,b∈az.flatten→b<w.heap.size∧(¬Ow st.hp env b∨ ∃i o,i∈ks∧look st.hp i=some o∧b∈(env i).fp)
 | [],i,vc,xs,ks,h,_=>by
   simp only[pe,Option.some.injEq,Prod.mk.injEq]at h
   obtain⟨rfl,rfl,rfl⟩:=h
   exact⟨rfl,rfl,[],rfl,by simp,by simp⟩
 | (j,x)::r,i,vc,xs,ks,h,hv=>by
   simp only[pe]at h
   split at h
   ·rename_i s hij hx
    have hij:=Nat.eq_of_beq_eq_true hij
    subst hij
    split at h
    ·rename_i c k hc
     split at h
     ·rename_i j7 y vcs ys JD he hb
      simp only[Option.some.injEq,Prod.mk.injEq]at h
      obtain⟨rfl,rfl,rfl⟩:=h
      obtain⟨q1,q2,az,q3,q4,q6⟩:=qY g hb (fun q hq=>hv q (List.mem_append_right _ hq))
      obtain⟨fp,r1,r3⟩:=so g (dR g (bX g (fun e he=>by simp at he) hx) (jx hc)) hc
      have hE:=jY t he (fun q hq=>hv q (List.mem_append_left _ hq)) r1
      refine⟨by simp[kY,q1],by simp[q2],fp::az,by simp[q3],?_,?_⟩
      ·intro i' x' f hx' hf
       cases i' with
       |zero=>simp at hx' hf;subst hx';subst hf;exact⟨(i,x),rfl,hE⟩
       |succ n=>simp at hx' hf;obtain⟨p,h1,h2⟩:=q4 n x' f hx' hf;exact⟨p,by simpa using h1,h2⟩
      ·intro b hb
       rw[List.flatten_cons]at hb
       rcases List.mem_append.1 hb with hb|hb
       ·obtain⟨z1,z2⟩:=r3 b hb
        exact⟨z1,z2.imp id fun⟨n,o1,h1,h2,h3⟩=>⟨n,o1,List.mem_append_left _ h1,h2,h3⟩⟩
       ·obtain⟨z1,z2⟩:=q6 b hb
        exact⟨z1,z2.imp id fun⟨n,o1,h1,h2,h3⟩=>⟨n,o1,List.mem_append_right _ h1,h2,h3⟩⟩
     ·cases h
    ·cases h
   ·cases h
theorem run_frozen{t len:Nat}{parts:Array (Nat×Operand)}(ho:o.op= .buildSlice t len parts){g:Tag}(hu:P.underlying t=some (.slice (ty g)))(j6:El P ty g)(rU:len*kk g≤16777216)(hlen:parts.toList.length=len)
  {xs:List (T g)}{az:List (List Nat)}(q1:(parts.toList.map fun p=>(p.1,a.eval p.2))=kY 0 (parts.toList.map fun p=>a.eval p.2))(q2:xs.length=parts.toList.length)(q3:az.length=xs.length)
  (q4: ∀(i:Nat) (x:T g) (f:List Nat),xs[i]? =some x→az[i]? =some f→ ∃p:Nat×Operand,parts.toList[i]? =some p∧rd g w (a.eval p.2).cells.toList x f):
  ∃w',(execOp a.eval o).run P w= .ok (.value (.slice (some ⟨w.heap.size,0,none⟩) len len)) w'∧Below w.heap.size w w'∧Sl (kk g) (rd g) w' (.slice (some ⟨w.heap.size,0,none⟩) len len) xs (w.heap.size::az.flatten):=by
 have hkp:=cF g
 have tL: ∀v,v∈(parts.toList.map fun p=>a.eval p.2)→v.cells.size=kk g:=by
  intro v hv
  obtain⟨i,hi⟩:=List.getElem?_of_mem hv
  have hil:i<xs.length:=by have:=(List.getElem?_eq_some_iff.1 hi).1;simp at this;rw[q2];simpa using this
  have hfl:i<az.length:=by omega
  obtain⟨p,h1,h2⟩:=q4 i xs[i] az[i] (List.getElem?_eq_getElem hil) (List.getElem?_eq_getElem hfl)
  rw[List.getElem?_map,h1]at hi
  simp at hi
  subst hi
  simpa using(bI g).len h2
 cases hq:P.info? (ty g)with
 |none=>simp[El,hq]at j6
 |some inf=>
  simp[El,hq]at j6
  obtain⟨z1,z2,z3⟩:=j6
  let zs:List Value:=(List.range (len*kk g)).map fun j=>(if len*kk g=0 then #[]else(bP g).cells)[j % (if len*kk g=0 then #[]else(bP g).cells).size]!
  have hzl:zs.length=len*kk g:=by simp[zs]
  have hf:=oN (k:=kk g) (parts.toList.map fun p=>a.eval p.2) 0 zs tL (by rw[hzl,List.length_map,hlen,Nat.zero_add])
  rw[Nat.zero_mul,List.take_zero,List.nil_append]at hf
  have hrun:(execOp a.eval o).run P w= .ok (.value (.slice (some ⟨w.heap.size,0,none⟩) len len)) (w.alloc (.cells (Array.mk ((parts.toList.map fun p=>a.eval p.2).flatMap fun v=>v.cells.toList)) (ty g) (0,0))):=by
   unfold execOp
   have iq:(parts.map fun(p:Nat×Operand)=>(p.1,a.eval p.2)).toList=kY 0 (parts.toList.map fun p=>a.eval p.2):=by
    rw[Array.toList_map];exact q1
   have hzs:((Array.range (len*kk g)).map fun j=>(if len*kk g=0 then #[]else(bP g).cells)[j % (if len*kk g=0 then #[]else(bP g).cells).size]!)=Array.mk zs:=by
    simp only[zs]
    apply Array.ext'
    simp
   have HC:(sizeOf (ty g)).run P w= .ok (kk g) w:=by simp[sizeOf,typeInfo,hq,z2]
   simp only[ho,Instr.buildSlice,Sem.run_bind,run_underlying hu,Result.andThen_ok,HC]
   rw[if_neg (by omega)]
   by_cases F4:len*kk g=0
   ·simp only[if_pos F4]at hzs ⊢
    simp only[Sem.run_bind,Sem.run_pure,Result.andThen_ok]
    rw[hzs,iq,hf]
    simp[newRow]
   ·have HD:(zeroValue (ty g)).run P w= .ok (bP g) w:=by simp[zeroValue,typeInfo,hq,z1]
    simp only[if_neg F4]at hzs ⊢
    simp only[Sem.run_bind,HD,Sem.run_pure,Result.andThen_ok]
    rw[hzs,iq,hf]
    simp[newRow]
  have hps:((parts.toList.map fun p=>a.eval p.2).flatMap fun v=>v.cells.toList)=((parts.toList.map fun p=>(a.eval p.2).cells.toList).flatMap id):=by
   simp[List.flatMap_map]
  have Am: ∀v,v∈(parts.toList.map fun p=>(a.eval p.2).cells.toList)→v.length=kk g:=by
   intro v hv
   obtain⟨p,hp,rfl⟩:=List.mem_map.1 hv
   simpa using tL _ (List.mem_map.2 ⟨p,hp,rfl⟩)
  have qP:=iL Am
  rw[List.length_map,hlen]at qP
  have hb0:Below w.heap.size w (w.alloc (.cells (Array.mk ((parts.toList.map fun p=>a.eval p.2).flatMap fun v=>v.cells.toList)) (ty g) (0,0))):=(Below.refl _ _).alloc (Nat.le_refl _) _
  have Gr:=ga (w:=w) (o:= .cells (Array.mk ((parts.toList.map fun p=>a.eval p.2).flatMap fun v=>v.cells.toList)) (ty g) (0,0)) (k:=w.heap.size) rfl
  refine⟨_,hrun,hb0,some ⟨w.heap.size,0,none⟩,len,by rw[q2,hlen],by rw[q2,hlen];exact Nat.le_refl _,?_,Or.inr ⟨w.heap.size,0,az,rfl,zT Gr,rfl,q3,?_⟩⟩
  ·unfold maxLen;have:=Nat.le_mul_of_pos_right len hkp;omega
  ·intro i x f hx Cc
   obtain⟨p,h1,h2⟩:=q4 i x f hx Cc
   have hkey:(((parts.toList.map fun p=>a.eval p.2).flatMap fun v=>v.cells.toList).drop (i*kk g)).take (kk g)=(a.eval p.2).cells.toList:=by
    rw[hps];exact iK Am (by rw[List.getElem?_map,h1];rfl)
   refine⟨_,Co Gr _ _ fun j v hv=> ?_,(bI g).below h2 hb0⟩
   rw[←hkey]at hv
   rw[List.getElem?_take]at hv
   split at hv
   ·rw[List.getElem?_drop]at hv
    rw[Nat.zero_add,List.getElem?_toArray]
    exact hv
   ·cases hv
theorem yS(g:Good ty zb st a.tmps w env){ks:List Nat}{w':World}(hb:Below w.heap.size w w'):Good ty zb ⟨st.n,st.sl.map fun e=>(e.1,e.2.aI ks []),bh ks [] st.hp⟩ a.tmps w' env:=by
 have hlk: ∀m o,look (bh ks [] st.hp) m=some o→m∉ks∧ ∃o',look st.hp m=some o'∧o=o'.aI ks []:=by
  intro m o hm
  rw[aZ]at hm
  split at hm
  ·cases hm
  ·rename_i hks
   cases hq:look st.hp m with
   |none=>rw[hq]at hm;cases hm
   |some o'=>rw[hq]at hm;simp only[Option.map_some,Option.some.injEq]at hm;exact⟨hks,o',rfl,hm.symm⟩
 have s:nC ks [] w st.hp env w' (bh ks [] st.hp) env:=by
  refine⟨fun b hlt _=>hb.block b hlt,?_,?_,?_⟩
  ·rintro b hlt ⟨m,o',h1,h2⟩
   obtain⟨_,qV,h3,rfl⟩:=hlk m o' h1
   exact⟨m,qV,h3,h2⟩
  ·intro m o' hks h1
   exact⟨o'.aI ks [],by rw[aZ,if_neg hks,h1];rfl,by cases o'<;>simp[Obj.like,Obj.aI],rfl⟩
  ·rintro m t' l' ⟨hks,_⟩ h1
   exact⟨by rw[aZ,if_neg hks,h1];rfl,rfl,fun b ud=>hb.block b ((g.obj m _ h1).l5 b ud)⟩
 refine g.ew s (fun m o' hm=> ?_) (fun m m' o1 o2 hne h1 h2 b ud hb'=> ?_) (fun m o' hm b ud=> ?_) g.pins
 ·obtain⟨hks,qV,h3,rfl⟩:=hlk m o' hm
  exact(g.obj m qV h3).ew s fun b ud=>hb.block b ((g.obj m qV h3).l5 b ud)
 ·obtain⟨_,q1,h3,_⟩:=hlk m o1 h1
  obtain⟨_,q2,h4,_⟩:=hlk m' o2 h2
  exact g.eO m m' _ _ hne h3 h4 b ud hb'
 ·obtain⟨_,q1,h3,_⟩:=hlk m o' hm
  exact g.dom m q1 h3 b ud
theorem EN{Γ:Nat→TK}(C: ∀t,aQ P t (Γ t)){vc:List Prop}{st':St}{v:SV}(h:Gq P ty Γ st o.op=some (vc,st',v))(g:Good ty zb st a.tmps w env)(hB:zb.w.heap.size≤w.heap.size)(hv: ∀q,q∈vc→q):
  o.wp P a w (fun a' w'=> ∃u env',a'=a.put o.dst u∧Kept zb w w'∧Good ty zb st' a.tmps w' env'∧st'.n=st.n∧jG w' st'.hp env' a.tmps v u) Q:=by
 generalize bU:o.op=op at h
 cases op with
 |buildSlice t len parts=>
  simp only[Gq]at h
  split at h
  ·rename_i gt e hk
   split at h
   ·rename_i j7 xs ks he hlen rU hb
    have he:=Nat.eq_of_beq_eq_true he
    split at h
    ·rename_i hnd
     simp only[Option.some.injEq,Prod.mk.injEq]at h
     obtain⟨rfl,rfl,rfl⟩:=h
     have j6:El P ty gt:=hv _ (by simp)
     obtain⟨q1,q2,az,q3,q4,q6⟩:=qY g hb (fun q hq=>hv q (by simp[hq]))
     have hC:=C t
     rw[hk,he]at hC
     obtain⟨w',r1,r2,r3⟩:=run_frozen (P:=P) (w:=w) (a:=a) bU hC.1 j6 (Nat.le_of_ble_eq_true rU) (Nat.eq_of_beq_eq_true hlen) q1 q2 q3 q4
     have hg':=yS g (ks:=ks) r2
     unfold Oper.wp
     rw[r1]
     refine⟨_,env,rfl,eV r2 hB,hg',rfl,_,r3,?_⟩
     rintro b ud ⟨m,o',h1,h2⟩
     rw[aZ]at h1
     split at h1
     ·cases h1
     ·rename_i hks
      cases hq:look st.hp m with
      |none=>rw[hq]at h1;cases h1
      |some qV=>
       have hlt:=(g.obj m qV hq).l5 b h2
       rcases List.mem_cons.1 ud with rfl|ud
       ·omega
       ·rcases(q6 b ud).2 with h3| ⟨i,oi,hi,h4,h5⟩
        ·exact h3 ⟨m,qV,hq,h2⟩
        ·exact g.eO m i _ _ (fun e=>hks (e▸hi)) hq h4 b h2 h5
    ·cases h
   ·cases h
  ·cases h
 |_=>simp[Gq]at h
end
end
section
variable{ty:Tag→Nat}
def inv:List (Nat×Nat)→Nat→Option Nat
 | [],_=>none
 | (n,m)::r,k=>match Nat.beq k m with|true=>some n|false=>inv r k
def V.toF(ρ:List (Nat×Nat)):V→V
 | .lit v=> .lit v
 | .sl t l=> .sl t l
 | .own m=>match inv ρ m with|some n=> .own n|none=> .any
 | .ptr m o=>match inv ρ m with|some n=> .ptr n o|none=> .any
 | .ou f m=>match inv ρ m with|some n=> .ou f n|none=> .any
 | .fZ v t l=> .fZ v t l
 |_=> .any
def Obj.toF(ρ:List (Nat×Nat)):Obj→Obj
 | .box c=> .box (c.map (V.toF ρ))
 | .arr t l=> .arr t l
 | .dh t l .mp=> .dh t l .mp
 | .dh t l _=> .dh t l .gone
def lq(st:St)(ρ:List (Nat×Nat)):List (Nat×Nat)→Option Hp
 | []=>some []
 | (n,m)::r=>match look st.hp m, !ec m||ec n, !soft m||soft n,lq st ρ r with
   |some o,true,true,some h=>some ((n,o.toF ρ)::h)
   |_,_,_,_=>none
def CN(st:St)(ρ:List (Nat×Nat))(tg:Option Tag)(v:V):Option V:=match v.name with
 |some m=>match inv ρ m with
  |some n=>match v with
   | .own _=>some (.own n)
   | .ptr _ o=>some (.ptr n o)
   | .ou f _=>some (.ou f n)
   |_=>none
  |none=>match v with
   | .mix _ _ _ _=>none
   | .l6 _=>none
   |v=>fM st tg v
 |none=>fM st tg v
def uf(st:St)(ρ:List (Nat×Nat)):List (Option Tag)→List V→Option (List V)
 |_,[]=>some []
 |tg,v::r=>match CN st ρ (match tg with|t::_=>t| []=>none) v,uf st ρ (match tg with|_::ts=>ts| []=> []) r with
  |some x,some y=>some (x::y)
  |_,_=>none
def V.DP:V→Bool
 | .fZ _ _ _=>true
 |_=>false
def EO(st:St)(ρ:List (Nat×Nat))(k:TK):S1→Option S1
 | .a v=>match v.DP with
   |true=>some (.a v)
   |false=>match CN st ρ (match k with| .sl t _=>some t|_=>none) v with|some x=>some (.a x)|none=>none
 | .agg l=>match uf st ρ (match k with| .st _ tg _=>tg|_=> []) l with|some x=>some (.agg x)|none=>none
def ug(Γ:Nat→TK)(st:St)(ρ:List (Nat×Nat)):List Operand→List Nat→Option (List S1)
 | [],_=>some []
 |x::r,t=>match vo st [] x with
  |some v=>match EO st ρ (match t with|t::_=>Γ t| []=> .other) v,ug Γ st ρ r (match t with|_::ts=>ts| []=> [])with
   |some y,some ys=>some (y::ys)
   |_,_=>none
  |none=>none
def sq(st:St)(ρ:List (Nat×Nat))(x:Operand):Option (FuncId×List S1):=match cC st [] x with
 |some (.a (.ou f m))=>match inv ρ m with|some n=>some (f,[.a (.ptr n 0)])|none=>none
 |some v=>match Cs v with|some f=>some (f,[])|none=>none
 |none=>none
def EP:List V→Option (List (Nat×Nat))
 | []=>some []
 | .ptr n m::r=>match EP r with|some l=>some ((n,m)::l)|none=>none
 |_=>none
def Gs:List V→Option (List Nat)
 | []=>some []
 | .own n::r=>match Gs r with|some l=>some (n::l)|none=>none
 |_=>none
def AL:List Nat→List S1→Option Hp
 | [],[]=>some []
 |n::ns, .a (.sl t l)::r=>match AL ns r with|some h=>some ((n, .arr t l)::h)|none=>none
 |n::ns, .agg c::r=>match AL ns r with|some h=>some ((n, .box c)::h)|none=>none
 |_,_=>none
def Ho:List V→Option V
 | []=>none
 | .fZ v t l::_=>some (.fZ v t l)
 |_::r=>Ho r
def Gt(st:St):List Operand→Option V
 | []=>none
 |x::r=>match vo st [] x with
  |some (.a v)=>match v.DP with|true=>some v|false=>Gt st r
  |_=>Gt st r
def Gu(st:St):List (Nat×Nat)→Option V
 | []=>none
 | (_,m)::r=>match look st.hp m with
   |some (.box c)=>match Ho c with|some v=>some v|none=>Gu st r
   |_=>Gu st r
def CP(st:St)(xs:List Operand)(ρ:List (Nat×Nat)):Option V:=match Gt st xs with|some v=>some v|none=>Gu st ρ
def uh(kn:Option V):V→List Prop
 | .fZ v _ _=>match kn with
   |some (.fZ u _ _)=> [v=u]
   |_=> [False]
 |_=> []
def AM(kn:Option V):List V→List Prop
 | []=> []
 |v::r=>fQ (uh kn v) (AM kn r)
def v9(kn:Option V):Hp→List Prop
 | []=> []
 | (_, .box c)::r=>fQ (AM kn c) (v9 kn r)
 |_::r=>v9 kn r
def V.toA(kn:Option V)(ρ:List (Nat×Nat)):V→Option V
 | .fZ _ _ _=>kn
 | .any=>some .any
 | .lit v=>some (.lit v)
 | .own n=>match look ρ n with|some m=>some (.own m)|none=>none
 | .ptr n o=>match look ρ n with|some m=>some (.ptr m o)|none=>none
 |_=>none
def toAs(kn:Option V)(ρ:List (Nat×Nat)):List V→Option (List V)
 | []=>some []
 |v::r=>match v.toA kn ρ,toAs kn ρ r with|some x,some y=>some (x::y)|_,_=>none
def S1.toA(ρ:List (Nat×Nat)):S1→Option S1
 | .a v=>match v.toA none ρ with|some x=>some (.a x)|none=>none
 | .agg l=>match toAs none ρ l with|some x=>some (.agg x)|none=>none
def CQ(ρ:List (Nat×Nat)):List S1→Option (List S1)
 | []=>some []
 |v::r=>match v.toA ρ,CQ ρ r with|some x,some y=>some (x::y)|_,_=>none
def Obj.toA(kn:Option V)(ρ:List (Nat×Nat)):Obj→Option Obj
 | .box c=>match toAs kn ρ c with|some x=>some (.box x)|none=>none
 | .arr t l=>some (.arr t l)
 | .dh _ _ _=>none
def pg(kn:Option V)(ρ:List (Nat×Nat)):Hp→Option (List (Nat×Nat×Obj))
 | []=>some []
 | (n,o)::r=>match look ρ n,o.toA kn ρ,pg kn ρ r with
   |some m,some o',some h=>match !ec m||ec n, !soft n||soft m with|true,true=>some ((n,m,o')::h)|_,_=>none
   |_,_,_=>none
def pz:Option Obj→Bool
 |some (.box _)=>true
 |_=>false
def uj(ty:Tag→Nat)(w:World)(hp:Hp)(env:Env):Prop:=(∀n o,look hp n=some o→RO ty w hp env n o (env n))∧ ∀n m o o',n≠m→look hp n=some o→look hp m=some o'→ ∀b,b∈(env n).fp→b∉(env m).fp
def lu(hp:Hp)(env:Env):List Nat:=hp.flatMap fun e=>(env e.1).fp
def Gv(w:World)(hp:Hp)(env:Env)(rs:List S1)(u:Value):Prop:=match rs with
 | [r]=>cz w hp env r u
 |rs=> ∃us,u= .tuple us.toArray∧aD (cz w hp env) rs us
def su(ty:Tag→Nat)(P:Program)(f:FuncId)(cR:Hp)(as:List S1)(cg:Hp)(rs:List S1):Prop:=
 (∀(args:Array Value) (w:World),(callFunc f args).run P w= .ok (.enter f args) w)∧
 ∀w env us,qJ w→(∀b,tv b→b∉lu cR env)→uj ty w cR env→aD (cz w cR env) as us→Calls P f us.toArray w fun e w'=> ∃env' u,e= .returned u∧Kept ⟨w,lu cR env,env⟩ w w'∧uj ty w' cg env'∧
  (∀n o,look cg n=some o→ ∀b,b∈(env' n).fp→b∈lu cR env∨w.heap.size≤b)∧(∀n,ec n=true→(env' n).v=(env n).v∧ ∀b,b∈(env' n).fp→b∈(env n).fp)∧Gv w' cg env' rs u
def nS(B:List (Nat×Nat×Obj)):Hp:=B.map fun e=>(e.2.1,e.2.2)
def qv:List (Nat×Nat×Obj)→Nat→Option Nat
 | [],_=>none
 | (n,m,_)::r,k=>match Nat.beq k m with|true=>some n|false=>qv r k
def pE(kv ks:List Nat)(hp:Hp):Hp:=(hp.filter fun e=> !kv.any (Nat.beq e.1)).map fun e=>(e.1,e.2.aI ks kv)
def sv(hp:Hp):Hp→Bool
 | []=>true
 | (m,_)::r=>(match look hp m with|none=>true|some _=>false)&&sv hp r
def AN(P:Program)(ty:Tag→Nat)(Γ:Nat→TK)(cr:List (Nat×CR))(st:St)(d:Option Nat):Op→Option (List Prop×St×SV)
 | .call ⟨.value x,xs,ts⟩=>match look cr (d.getD 99999+700000),look cr (d.getD 99999+800000)with
   |some ⟨_, .agg a:: .agg b:: .agg c::os⟩,some ⟨_,rs⟩=>match EP a,EP b,Gs c with
    |some ρ0,some ρ1,some ns=>match AL ns os,lq st ρ0 ρ0,sq st ρ0 x,ug Γ st ρ0 xs.toList ts.toList with
     |some cg,some cR,some (f,ex),some as=>match pg (CP st xs.toList ρ0) (ρ0++ρ1) cg,CQ (ρ0++ρ1) rs with
      |some B,some HV=>match gN ((ρ0++ρ1).map Prod.fst)&&gN (ρ0.map Prod.snd)&&cx cg&&cx (nS B)&&sv (pE (ρ0.map Prod.snd) ((ρ0.filter fun e=> !ec e.1).map Prod.snd) st.hp) (nS B)&&ρ0.all (fun e=> !ec e.1|| (pz (look cR e.1)&&pz (look cg e.1)))&&ρ1.all (fun e=> !ec e.2)with
       |true=>some (su ty P f cR (fQ as ex) cg rs::v9 (CP st xs.toList ρ0) cg,⟨st.n,st.sl.map fun e=>(e.1,e.2.aI ((ρ0.filter fun e=> !ec e.1).map Prod.snd) (ρ0.map Prod.snd)),nS B++pE (ρ0.map Prod.snd) ((ρ0.filter fun e=> !ec e.1).map Prod.snd) st.hp⟩,match HV with| [r]=> .one r|l=> .l9 l)
       |false=>none
      |_,_=>none
     |_,_,_,_=>none
    |_,_,_=>none
   |_,_=>none
 |_=>none
theorem eS: ∀{ρ:List (Nat×Nat)} {m n:Nat},inv ρ m=some n→(n,m)∈ρ
 | (a,b)::r,m,n,h=>by
   simp only[inv]at h
   split at h
   ·rename_i hb
    have:=Nat.eq_of_beq_eq_true hb
    simp only[Option.some.injEq]at h
    subst h;subst this;simp
   ·exact List.mem_cons_of_mem _ (eS h)
theorem uk: ∀{ρ:List (Nat×Nat)} {m:Nat},inv ρ m=none→m∉ρ.map Prod.snd
 | [],_,_=>by simp
 | (a,b)::r,m,h=>by
   simp only[inv]at h
   split at h
   ·cases h
   ·rename_i hb
    have hne:m≠b:=fun e=>by rw[e,Nat.beq_refl]at hb;cases hb
    have:=uk h
    simp only[List.map_cons,List.mem_cons,not_or]
    exact⟨hne,this⟩
theorem bG{α:Type}: ∀{l:List (Nat×α)} {n:Nat} {x:α},(l.map Prod.fst).Nodup→(n,x)∈l→look l n=some x
 | (j,y)::r,n,x,hnd,h=>by
   obtain⟨h1,h2⟩:=List.nodup_cons.1 hnd
   rcases List.mem_cons.1 h with h'|h'
   ·simp only[Prod.mk.injEq]at h'
    obtain⟨rfl,rfl⟩:=h'
    exact look_eq
   ·have hne:n≠j:=fun e=>h1 (List.mem_map.2 ⟨(n,x),h',e⟩)
    rw[aC hne];exact bG h2 h'
theorem jy: ∀{l:Hp},cx l=true→(l.map Prod.fst).Nodup
 | [],_=>List.nodup_nil
 | (n,x)::r,h=>by
   simp only[cx,Bool.and_eq_true]at h
   refine List.nodup_cons.2 ⟨fun hm=> ?_,jy h.2⟩
   obtain⟨e,he,rfl⟩:=List.mem_map.1 hm
   have:=bG (jy h.2) (show(e.1,e.2)∈r from he)
   rw[this]at h;simp at h
theorem eT: ∀{B:List (Nat×Nat×Obj)} {m:Nat} {o:Obj},look (nS B) m=some o→ ∃n,(n,m,o)∈B∧qv B m=some n
 | (n,k,x)::r,m,o,h=>by
   have h:look ((k,x)::nS r) m=some o:=h
   by_cases hm:m=k
   ·subst hm
    rw[look_eq]at h
    simp only[Option.some.injEq]at h
    subst h
    exact⟨n,by simp,by simp[qv]⟩
   ·rw[aC hm]at h
    obtain⟨n',h1,h2⟩:=eT h
    refine⟨n',List.mem_cons_of_mem _ h1,?_⟩
    simp only[qv]
    cases hb:Nat.beq m k with
    |true=>exact absurd (Nat.eq_of_beq_eq_true hb) hm
    |false=>exact h2
theorem qZ: ∀{B:List (Nat×Nat×Obj)} {m:Nat},look (nS B) m=none→qv B m=none
 | [],_,_=>rfl
 | (n,k,x)::r,m,h=>by
   have h:look ((k,x)::nS r) m=none:=h
   have hm:m≠k:=by rintro rfl;rw[look_eq]at h;cases h
   rw[aC hm]at h
   simp only[qv]
   cases hb:Nat.beq m k with
   |true=>exact absurd (Nat.eq_of_beq_eq_true hb) hm
   |false=>exact qZ h
theorem dS{kn:Option V}{ρ:List (Nat×Nat)}: ∀{hp:Hp} {B:List (Nat×Nat×Obj)},pg kn ρ hp=some B→ ∀n m o',(n,m,o')∈B→ ∃o,(n,o)∈hp∧look ρ n=some m∧o.toA kn ρ=some o'∧(ec m=true→ec n=true)∧(soft n=true→soft m=true)
 | [],B,h,n,m,o',hm=>by
   simp only[pg,Option.some.injEq]at h
   subst h;cases hm
 | (k,x)::r,B,h,n,m,o',hm=>by
   simp only[pg]at h
   split at h
   ·rename_i m1 o1 h1 e1 e2 e3
    split at h
    ·rename_i hp hs
     simp only[Option.some.injEq]at h
     subst h
     rcases List.mem_cons.1 hm with h|h
     ·simp only[Prod.mk.injEq]at h
      obtain⟨rfl,rfl,rfl⟩:=h
      refine⟨x,by simp,e1,e2,fun hn=> ?_,fun hn=> ?_⟩
      ·rw[hn]at hp;simpa using hp
      ·rw[hn]at hs;simpa using hs
     ·obtain⟨o,q1,q2⟩:=dS e3 n m o' h
      exact⟨o,List.mem_cons_of_mem _ q1,q2⟩
    ·cases h
   ·cases h
theorem rj{kn:Option V}{ρ:List (Nat×Nat)}: ∀{hp:Hp} {B:List (Nat×Nat×Obj)},pg kn ρ hp=some B→ ∀n o,(n,o)∈hp→ ∃m o',(n,m,o')∈B∧look ρ n=some m∧o.toA kn ρ=some o'
 | [],B,h,n,o,hm=>by cases hm
 | (k,x)::r,B,h,n,o,hm=>by
   simp only[pg]at h
   split at h
   ·rename_i m1 o1 h1 e1 e2 e3
    split at h
    ·simp only[Option.some.injEq]at h
     subst h
     rcases List.mem_cons.1 hm with h|h
     ·simp only[Prod.mk.injEq]at h
      obtain⟨rfl,rfl⟩:=h
      exact⟨m1,o1,by simp,e1,e2⟩
     ·obtain⟨m,o',q1,q2⟩:=rj e3 n o h
      exact⟨m,o',List.mem_cons_of_mem _ q1,q2⟩
    ·cases h
   ·cases h
theorem rm{st:St}{ρ:List (Nat×Nat)}: ∀{r:List (Nat×Nat)} {hp:Hp},lq st ρ r=some hp→(∀n o,(n,o)∈hp→ ∃m x,(n,m)∈r∧look st.hp m=some x∧o=x.toF ρ∧(ec m=true→ec n=true)∧(soft m=true→soft n=true))∧ ∀n m,(n,m)∈r→ ∃x,look st.hp m=some x∧(n,x.toF ρ)∈hp
 | [],hp,h=>by
   simp only[lq,Option.some.injEq]at h
   subst h
   exact⟨(fun n o hm=>nomatch hm),(fun n m hm=>nomatch hm)⟩
 | (k,j)::r,hp,h=>by
   simp only[lq]at h
   split at h
   ·rename_i x h' e1 e2 e3 e4
    simp only[Option.some.injEq]at h
    subst h
    obtain⟨q1,q2⟩:=rm e4
    refine⟨fun n o hm=> ?_,fun n m hm=> ?_⟩
    ·rcases List.mem_cons.1 hm with h|h
     ·simp only[Prod.mk.injEq]at h
      obtain⟨rfl,rfl⟩:=h
      exact⟨j,x,by simp,e1,rfl,fun hs=>by rw[hs]at e2;simpa using e2,fun hs=>by rw[hs]at e3;simpa using e3⟩
     ·obtain⟨m,y,p1,p2⟩:=q1 n o h
      exact⟨m,y,List.mem_cons_of_mem _ p1,p2⟩
    ·rcases List.mem_cons.1 hm with h|h
     ·simp only[Prod.mk.injEq]at h
      obtain⟨rfl,rfl⟩:=h
      exact⟨x,e1,by simp⟩
     ·obtain⟨y,p1,p2⟩:=q2 n m h
      exact⟨y,p1,List.mem_cons_of_mem _ p2⟩
   ·cases h
theorem mA{st:St}{ρ:List (Nat×Nat)}: ∀{r:List (Nat×Nat)} {hp:Hp},lq st ρ r=some hp→hp.map Prod.fst=r.map Prod.fst
 | [],hp,h=>by simp only[lq,Option.some.injEq]at h;subst h;rfl
 | (k,j)::r,hp,h=>by
   simp only[lq]at h
   split at h
   ·rename_i e4
    simp only[Option.some.injEq]at h
    subst h
    rw[List.map_cons,List.map_cons,mA e4]
   ·cases h
theorem gP{kv ks:List Nat}{hp:Hp}{n:Nat}:look (pE kv ks hp) n=if n∈kv then none else(look hp n).map (Obj.aI ks kv):=by
 unfold pE
 rw[iM (α:=Obj) (f:=fun e:Nat×Obj=>e.2.aI ks kv)]
 have:look (hp.filter fun e=> !kv.any (Nat.beq e.1)) n=if n∈kv then none else look hp n:=by
  induction hp with
  |nil=>simp[look]
  |cons e r ih=>
   obtain⟨j,x⟩:=e
   by_cases hj:j∈kv
   ·have:(kv.any (Nat.beq j))=true:=List.any_eq_true.2 ⟨j,hj,by simp⟩
    rw[List.filter_cons_of_neg (by simp[this]),ih]
    by_cases hn:n∈kv
    ·simp[hn]
    ·have:n≠j:=by rintro rfl;exact hn hj
     rw[if_neg hn,if_neg hn,aC this]
   ·have:(kv.any (Nat.beq j))=false:=by
     rw[List.any_eq_false]
     intro y hy hb
     exact hj (by rw[Nat.eq_of_beq_eq_true hb];exact hy)
    rw[List.filter_cons_of_pos (by simp[this])]
    by_cases HW:n=j
    ·subst HW;rw[look_eq,if_neg hj,look_eq]
    ·rw[aC HW,aC HW,ih]
 rw[this]
 split<;>simp
theorem rq{hp:Hp}: ∀{l:Hp},sv hp l=true→ ∀m o,look l m=some o→look hp m=none
 | (k,x)::r,h,m,o,hl=>by
   simp only[sv,Bool.and_eq_true]at h
   by_cases hm:m=k
   ·subst hm
    cases hq:look hp m with
    |none=>rfl
    |some y=>rw[hq]at h;simp at h
   ·rw[aC hm]at hl;exact rq h.2 m o hl
theorem AO{w:World}{hp:Hp}{env:Env}: ∀{c:List V} {us:List Value} {x:V},aD (RA w hp env) c us→Ho c=some x→ ∃u t l,x= .fZ u t l∧RA w hp env x u
 | [],_,_,_,h=>by cases h
 |v::r,us,x,hr,h=>by
  cases us with
  |nil=>exact hr.elim
  |cons u us=>
   cases v with
   |fZ v t l=>
    simp only[Ho,Option.some.injEq]at h
    subst h
    have h1:=hr.1
    obtain⟨hu,_⟩:=h1
    subst hu
    exact⟨_,t,l,rfl,hr.1⟩
   |_=>exact AO hr.2 h
theorem we{zb:aY}{st:St}{a:Act}{w:World}{env:Env}(g:Good ty zb st a.tmps w env): ∀{xs:List Operand} {x:V},Gt st xs=some x→ ∃u t l,x= .fZ u t l∧RA w st.hp env x u
 | [],_,h=>by cases h
 |y::r,x,h=>by
  simp only[Gt]at h
  split at h
  ·rename_i v hv
   split at h
   ·rename_i hl
    simp only[Option.some.injEq]at h
    subst h
    have hr:=j0 g (fun e he=>by simp at he) hv
    cases v with
    |fZ v t l=>
     have h1:RA w st.hp env (.fZ v t l) (a.eval y):=hr
     obtain⟨hu,_⟩:=h1
     refine⟨v,t,l,rfl,?_⟩
     have h2:RA w st.hp env (.fZ v t l) (a.eval y):=hr
     rw[hu]at h2
     exact h2
    |_=>cases hl
   ·exact we g h
  ·exact we g h
theorem wg{zb:aY}{st:St}{tmps:Array Value}{w:World}{env:Env}(g:Good ty zb st tmps w env): ∀{ρ:List (Nat×Nat)} {x:V},Gu st ρ=some x→ ∃u t l,x= .fZ u t l∧RA w st.hp env x u
 | [],_,h=>by cases h
 | (n,m)::r,x,h=>by
   simp only[Gu]at h
   split at h
   ·rename_i c hc
    split at h
    ·rename_i v hv
     simp only[Option.some.injEq]at h
     subst h
     obtain⟨b,cs,e,_,_,h3⟩:=g.obj m _ hc
     exact AO h3 hv
    ·exact wg g h
   ·exact wg g h
theorem ES{zb:aY}{st:St}{a:Act}{w:World}{env:Env}(g:Good ty zb st a.tmps w env){xs:List Operand}{ρ:List (Nat×Nat)}{x:V}(h:CP st xs ρ=some x): ∃u t l,x= .fZ u t l∧RA w st.hp env x u:=by
 unfold CP at h
 split at h
 ·rename_i v hv
  simp only[Option.some.injEq]at h
  subst h
  exact we g hv
 ·exact wg g h
theorem um{kn:Option V}: ∀{c:List V} {v:V},v∈c→ ∀q,q∈uh kn v→q∈AM kn c
 |x::r,v,hv,q,hq=>by
  simp only[AM,bN]
  rcases List.mem_cons.1 hv with rfl|hv
  ·exact List.mem_append_left _ hq
  ·exact List.mem_append_right _ (um hv q hq)
theorem uo{kn:Option V}: ∀{hp:Hp} {n:Nat} {c:List V},(n, .box c)∈hp→ ∀q,q∈AM kn c→q∈v9 kn hp
 | (m,o)::r,n,c,h,q,hq=>by
   rcases List.mem_cons.1 h with h|h
   ·simp only[Prod.mk.injEq]at h
    obtain⟨_,rfl⟩:=h
    simp only[v9,bN]
    exact List.mem_append_left _ hq
   ·have:=uo h q hq
    cases o with
    |box d=>simp only[v9,bN];exact List.mem_append_right _ this
    |_=>exact this
end
end Go.Proofs.YteodajeiagmekaaGreat.G
