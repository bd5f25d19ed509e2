/-
  Hostile servers, computed for every seed. No program in sight.
-/
import Derived.Test.YtkcegdacbddipaaGreatP10
import Derived.Test.YtkcegdacbddipaaGreatP13
open Bool renaming and_eq_true→ak,eq_false_iff→gP,not_eq_false'→Dn,not_eq_true'→bq,or_eq_true→c8
open Go.IntKind renaming i64→aq
open List renaming getD_eq_getElem?_getD→an,getElem?_eq_getElem→au,length→aQ,length_append→aY,length_map→bg,length_nil→fF,length_set→bA,map→MX,map_map→lD
open Nat renaming add→iR,add_zero→jE,beq→aU,eq_of_beq_eq_true→ay,le_refl→aZ,le_trans→dy,lt_irrefl→Di,lt_succ_self→qS,xor→rK
namespace Go.Proofs.YtkcegdacbddipaaGreat.G
set_option linter.all false
open Go.RowKit L D Tryz
section
theorem join_le(l:List (List UInt8))(c:UInt8):(Lib.join l [c]).length≤fU aQ l:=by
 cases l with
 |nil=>simp[Lib.join_nil]
 |cons x r=>
  rw[Lib.join_cons,aY,Lib.joinTail_length]
  simp only[fU,List.length_cons,List.map_cons,List.sum_cons,Lib.lens,fF]
  have:(MX (fun x=>aQ x) r).sum=(MX aQ r).sum:=rfl
  omega
theorem tB(l:List (List UInt8))(c:UInt8)(h:fU aQ l≤1099511627776):So 43 [.a (.sl .str l), .a (.lit (.string (sk [c])))] [.a (.lit (.string (sk (Lib.join l [c]))))]:=by
 refine⟨call43,?_⟩
 rintro w us _ ha
 match us,ha with
 | [u,v],⟨h1,h2,_⟩=>
   obtain⟨fp,h1⟩:=h1
   obtain⟨_,rfl,_,_⟩:=h2
   obtain⟨oa,cap,rfl,hc,hm,h3⟩:=(show Sl 1 abw w u l fp from h1)
   have hlen:l.length≤1099511627776:=by unfold fU at h;omega
   rcases h3 with⟨rfl,_⟩| ⟨b,off,cB,rfl,hb,rfl,hE⟩
   ·refine(Tryz.strings_Join_none oa cap (sk [c]) w).mono ?_
    rintro e w' ⟨rfl,rfl⟩
    exact⟨_,[],rfl,Below.refl _ _,Own.nil _ _,⟨[],[],⟨rfl,rfl,rfl⟩,rfl,rfl⟩⟩
   ·have:=Tryz.strings_Join b off cap (l.map sk) (sk [c]) w (fun j x hx=>by
      rw[List.getElem?_map]at hx
      cases hy:l[j]? with
      |none=>rw[hy]at hx;cases hx
      |some y=>
       rw[hy]at hx
       simp only[Option.map_some,oI]at hx
       subst hx
       obtain⟨f,hf⟩:=kI hE.1 hy
       obtain⟨cs,q1,rfl,_⟩:=hE.2 j y f hy hf
       have:=q1 0 _ rfl
       rw[jE,Nat.mul_one]at this
       exact this) hb.lt (by rw[bg];omega) (by rw[bg];exact hc) (by
      rw[lD]
      rw[Oj]
      have:=join_le l c
      rw[Vq]
      omega)
    rw[bg,lD]at this
    rw[Oj]at this
    refine this.mono ?_
    rintro e w' ⟨rfl,hb'⟩
    exact⟨_,[],rfl,hb',Own.nil _ _,⟨[],[],⟨rfl,rfl,rfl⟩,rfl,rfl⟩⟩
end
end Go.Proofs.YtkcegdacbddipaaGreat.G
namespace Go.Proofs.YtkcegdacbddipaaGreat.G
set_option linter.all false
open Go.RowKit L D
section
def J7(x:ck)(c:Int):List (List UInt8):=(x.af.getD c.toNat (aP .cz)).live.inbox
def M3(x:ck)(c:Int):Bool:=rF x c&& !(((J7 x c).length:Int)==0)
def PZ(x:ck)(c:Int):ByteArray:=if M3 x c=true then sk (Lib.join (J7 x c) [124])else⟨#[45]⟩
theorem M4{x:ck}{c:Int}(hd:x.af.length≤1048576):rF x c=true↔0≤c∧c<x.af.length:=by
 unfold rF
 rw[dD];omega
theorem R3{x:ck}{c:Int}(hd:x.af.length≤1048576)(h:(!rF x c)=false):0≤c∧c<x.af.length:=(M4 hd).1 (by simpa using h)
theorem ah7{x:ck}{c:Int}(hd:x.af.length≤1048576)(h:M3 x c=true):0≤c∧c<x.af.length:=by
 simp only[M3,ak]at h
 exact(M4 hd).1 h.1
def adC(c:gQ):gQ:=⟨c.id,c.gE,c.key,c.seed,c.bu,c.sent,c.inbox++ [[250,251,252]],c.next⟩
def adD(d:cz):cz:=⟨adC d.live,d.saved⟩
def adW(x:ck):ck:=⟨x.rows,x.av,x.af.set 0 (adD (x.af.getD 0 (aP .cz))),x.aJ,x.bS,x.seed,x.round,x.replaced,x.cancelled⟩
def stD(d:cz):cz:=⟨⟨d.live.id,d.live.gE,d.live.key,d.live.seed,d.live.bu,(d.live.bu.length:Int),d.live.inbox,d.live.next⟩,d.saved⟩
def stW(x:ck):ck:=⟨x.rows,x.av,x.af.set 1 (stD (x.af.getD 1 (aP .cz))),x.aJ,x.bS,x.seed,x.round,x.replaced,x.cancelled⟩
theorem aaP{α:Type}{f:α→Nat}{C n i:Nat}{l:List α}{y:α}(h: ∀d,d∈l→f d≤C)(hy:f y≤C)(hl:l.length≤n):fU f (l.set i y)≤(C+1)*n:=by
 refine F8 f C n _ (fun d hd=> ?_) (by rw[bA];exact hl)
 rcases List.mem_or_eq_of_mem_set hd with h2|rfl
 ·exact h d h2
 ·exact hy
theorem aaQ(d:cz):cX (adD d)=cX d+4:=by
 unfold cX adD adC eO fU
 simp
 omega
theorem aaR(d:cz):cX (stD d)=cX d:=rfl
theorem aeh{l:List (List UInt8)}(h:fU aQ l≤1048576){k:Nat}(hk:k<l.length):(l.getD k (aP (.sl .u8))).length≤1048576:=
 nN (f:=aQ) h (i:=k) (by rw[an,au hk];rfl)
structure aky(x:ck):Prop where
 inb:(x.af.getD 0 (aP .cz)).live.inbox.length≤1000
 nd:2≤x.af.length∧x.af.length≤8
 ad:Cs (adW x)≤1048576
 st:Cs (stW x)≤1048576
theorem aky.of{x:ck}(h:okW x=true)(hr:x.replaced.length≤1000):aky x:=by
 have w:=Dv.of h
 have nd:=w.ndv
 have hs:=F8 gy 15000 4 x.av (ad5 h) w.nsv.2
 have hB: ∀d,d∈x.af→cX d≤960:=fun d hd=>rV (Ph h d hd)
 have hm: ∀i,i<x.af.length→cX (x.af.getD i (aP .cz))≤960:=fun i hi=>by
  rw[an,au hi]
  exact hB _ (List.getElem_mem hi)
 have ha:iL x.aJ≤1601*8:=by
  have ha:=pX.1 w.K3
  refine F8 ij 1600 8 _ (fun y hy=> ?_) ha.1.2
  obtain⟨i,hi,rfl⟩:=List.mem_iff_getElem.1 hy
  have h2:=oM.1 (ha.2 i hi)
  have e:x.aJ.rounds.getD i (aP .bz)=x.aJ.rounds[i]:=by rw[an,au hi];rfl
  rw[e]at h2
  exact MF h2.2.2.1
 have h0:=hm 0 (by omega)
 have h1:=hm 1 (by omega)
 have d0:=aaP (f:=cX) (C:=1000) (i:=0) (y:=adD (x.af.getD 0 (aP .cz))) (fun d hd=>dy (hB d hd) (by decide)) (by rw[aaQ];omega) nd.2
 have d1:=aaP (f:=cX) (C:=1000) (i:=1) (y:=stD (x.af.getD 1 (aP .cz))) (fun d hd=>dy (hB d hd) (by decide)) (by rw[aaR];omega) nd.2
 refine⟨?_,nd,?_,?_⟩
 ·have h2:fU aQ (x.af.getD 0 (aP .cz)).live.inbox≤960:=by unfold cX eO at h0;omega
  unfold fU at h2;omega
 ·unfold Cs adW
  dsimp only
  omega
 ·unfold Cs stW
  dsimp only
  omega
end
section
def kH(l:List bZ):List Int:=(l.filter fun s=>s.behavior !=0).map bZ.id
theorem Dm(l:List bZ)(k:Nat)(h:k<l.length):kH (l.take (k+1))=kH (l.take k)++if(l.getD k (aP .bZ)).behavior≠0 then [(l.getD k (aP .bZ)).id]else []:=by
 rw[cM l k (aP .bZ) h]
 unfold kH
 rw[List.filter_append,List.map_append]
 generalize l.getD k (aP .bZ)=s
 by_cases h:s.behavior=0<;>simp[h]
theorem R4(l:List bZ)(k:Nat):(kH (l.take k)).length≤k:=by
 unfold kH;rw[bg]
 exact dy (List.length_filter_le _ _) (List.length_take_le _ _)
section
variable [HF]
def aaS(f:Nat→Bool):Nat→Bool
 |0=>false
 |k+1=>or (f k) (aaS f k)
theorem Jr{f:Nat→Bool}: ∀{n:Nat},aaS f n=true→ ∃i,i<n∧f i=true
 |0,h=>by cases h
 |n+1,h=>by
  rw[aaS,c8]at h
  rcases h with h|h
  ·exact⟨n,qS n,h⟩
  ·obtain⟨i,h1,h2⟩:=Jr h
   exact⟨i,by omega,h2⟩
def mdN(s j b:Nat):Nat:=Nat.mod (Nat.div (csN (iR s (Nat.mul 1000 j)) (iR 100 b)) 256) 256
def Uo(seed r k:Nat):Nat:=Bw seed [223,r,0,k]
def nz1(seed k:Nat):Bool:=aaS (fun b=>not (aU (mdN (Uo seed 1 k) 0 b) 0)) 24
def nz2(seed j:Nat):Bool:=aaS (fun b=>not (aU (mdN (Uo seed 1 0) j b) (mdN (Uo seed 1 1) j b))) 24
def nzN(seed:Nat):Bool:=and (nz1 seed 0) (and (nz1 seed 1) (and (nz2 seed 0) (nz2 seed 1)))
def mB(b:Nat):List Nat:= [b,5]
def Wi(rows seed n d r c i:Nat):Bool:=cond (aU (V6 rows seed d r d) (V7 rows seed r i)) (rL (fun b=>J6 rows seed (mB b) n d r c i) 256) (J6 rows seed [] n d r c i)
def Wj(d i:Nat):Nat:=cond (aU (rK i 1) d) 1 0
def okQ(rows seed n d:Nat)(st:Bool)(r:Nat):Bool:=cond st (rL (fun i=>J6 rows seed [] n n r (Wj d i) i) n)
 (cond (zk rows seed n d r) (rL (fun i=>or (aU i (rK d 1)) (Wi rows seed n d r 0 i)) n)
  (and (rL (fun b=>not (eqN (Jo rows seed (mB b) d r (RU (kN seed d) r (zj d) rows) n) (aax seed (mB b) d))) 256) (rL (Wi rows seed n d r 0) n)))
def goQ(rows seed n d:Nat):Nat→Nat→Bool→Bool
 |0,_,st=>st
 |k+1,r,st=>and (okQ rows seed n d st r) (goQ rows seed n d k (Nat.succ r) (or st (zk rows seed n d r)))
def EY(seed:Nat):Bool:=and (goQ 24 seed 2 0 31 0 false) (and (goQ 24 seed 2 0 29 2 (or false (zk 24 seed 2 0 0))) (nzN seed))
section
variable{rows seed n d r c:Nat}{bt:UInt8}{y z:ck}{st:Bool}{nx:Nat}
theorem M5{m m':List Nat}{j:Nat}: ∀n,(∀k,k<n→k=d→V6 rows seed d r k≠j)→Jo rows seed m d r j n=Jo rows seed m' d r j n
 |0,_=>rfl
 |n+1,h=>by
  have ih:=M5 (m:=m) (m':=m') n fun k hk=>h k (by omega)
  rw[Jo,Jo,ih]
  cases hb:aU (V6 rows seed d r n) j with
  |false=>rfl
  |true=>
   have hne: ¬n=d:=fun e=>h n (by omega) e (ay hb)
   have e:aU n d=false:=gP.2 fun q=>hne (ay q)
   show xoN _ (wcN seed m d r n)=xoN _ (wcN seed m' d r n)
   unfold wcN
   rw[e];rfl
theorem R6(bt:UInt8):iA [bt,5]=mB bt.toNat:=rfl
theorem m2(bt:UInt8): [bt,5].length≤14:=(by decide:2≤14)
theorem P0(hd:d<n)(h:1≤rows∧rows≤64)(hr:r≤100000)(hc:c≤1000){i:Nat}(hq:Wi rows seed n d r c i=true):RS (rows:Int) (seed:Int) [bt,5] n d (r:Int) c i=false:=by
 rw[afy h hr (m2 bt) hc,R6,Dn]
 unfold Wi at hq
 cases hb:aU (V6 rows seed d r d) (V7 rows seed r i)with
 |true=>
  rw[hb]at hq
  exact qH hq bt.toNat bt.toNat_lt
 |false=>
  rw[hb]at hq
  have hq:J6 rows seed [] n d r c i=true:=hq
  unfold J6 at hq ⊢
  rw[M5 (m:=mB bt.toNat) (m':= []) n fun k _ e=>by rw[e];exact M1 hb]
  exact hq
theorem aaT(h:1≤rows∧rows≤64)(hr:r≤100000)(hc:c≤1000){i:Nat}(hq:J6 rows seed [] n n r c i=true):RS (rows:Int) (seed:Int) [bt,5] n n (r:Int) c i=false:=by
 rw[afy h hr (m2 bt) hc,R6,Dn]
 unfold J6 at hq ⊢
 rw[M5 (m:=mB bt.toNat) (m':= []) n fun k hk e=>absurd e (by omega)]
 exact hq
theorem akA(d i:Nat):(k8 [bt,5] d (i^^^1)).length=Wj d i:=by
 unfold k8 Wj
 by_cases e:i^^^1=d
 ·rw[if_pos e,show aU (rK i 1) d=true by rw[←e];exact Nat.beq_refl _];rfl
 ·rw[if_neg e,show aU (rK i 1) d=false from gP.2 fun q=>e (ay q)];rfl
theorem aei(d i:Nat):Wj d i≤1:=by unfold Wj;cases aU (rK i 1) d<;>decide
theorem At.P1(h:At (rows:Int) (seed:Int) [bt,5] n d y r st nx)(hq:Reads y z)(hr:r<99999)(hd:d<n)(hk:okQ rows seed n d st r=true): ∀i,i<n→jV z (i:Int)=gD (seed:Int) [bt,5] d (or st (zk rows seed n d r)) i ((r+1:Nat):Int):=by
 have hrw:1≤rows∧rows≤64:=by have:=(Dv.of h.ok).rows;rw[h.rows]at this;omega
 cases st with
 |true=>
  have hk:rL (fun i=>J6 rows seed [] n n r (Wj d i) i) n=true:=hk
  exact h.idle hq hr fun i hi=>by
   rw[akA]
   exact aaT hrw (by omega) (by have:=aei d i;omega) (qH hk i hi)
 |false=>
  cases ha:zk rows seed n d r with
  |true=>
   unfold okQ at hk
   rw[ha]at hk
   have hk:rL (fun i=>or (aU i (rK d 1)) (Wi rows seed n d r 0 i)) n=true:=hk
   refine h.amM hq hr hd (m2 bt) ((akv hrw (by omega)).1 ha) fun i hi e=> ?_
   have:=qH hk i hi
   rw[c8]at this
   rcases this with h1|h1
   ·exact absurd (ay h1) e
   ·exact P0 hd hrw (by omega) (by omega) h1
  |false=>
   unfold okQ at hk
   rw[ha]at hk
   have hk:(rL (fun b=>not (eqN (Jo rows seed (mB b) d r (RU (kN seed d) r (zj d) rows) n) (aax seed (mB b) d))) 256&&rL (Wi rows seed n d r 0) n)=true:=hk
   rw[ak]at hk
   refine h.stay hq hr ?_ fun i hi=>P0 hd hrw (by omega) (by omega) (qH hk.2 i hi)
   have c1:=qH hk.1 bt.toNat bt.toNat_lt
   rw[bq]at c1
   rw[beq_eq_false_iff_ne]
   intro e
   have e2:Dh (rows:Int) (seed:Int) (r:Int) d=RU (kN seed d) r (zj d) rows:=by
    unfold Dh
    rw[PS,Uf,aaB hrw (by omega)];rfl
   rw[e2]at e
   have e3:=(aaF (m:= [bt,5]) (seed:=seed) (d:=d) hrw (by omega:r≤100000) (m2 bt) (RU (kN seed d) r (zj d) rows) n).2
   rw[e,afv seed d (m2 bt),R6]at e3
   rw[Ug e3.symm]at c1
   cases c1
def Dw(rows seed n d:Nat)(st:Bool)(r:Nat):Nat→Bool
 |0=>st
 |j+1=>or (Dw rows seed n d st r j) (zk rows seed n d (r+j))
theorem EZ(r:Nat)(st:Bool): ∀j,Dw rows seed n d st r (j+1)=Dw rows seed n d (or st (zk rows seed n d r)) (r+1) j
 |0=>rfl
 |j+1=>by
  show or (Dw rows seed n d st r (j+1)) (zk rows seed n d (r+(j+1)))=or (Dw rows seed n d _ (r+1) j) (zk rows seed n d (r+1+j))
  rw[EZ r st j,show r+(j+1)=r+1+j by omega]
theorem Dp{rows seed n d:Nat}{st:Bool}{r:Nat}(a:Nat): ∀j,Dw rows seed n d st r (a+j)=Dw rows seed n d (Dw rows seed n d st r a) (r+a) j
 |0=>rfl
 |j+1=>by
  show or (Dw rows seed n d st r (a+j)) (zk rows seed n d (r+(a+j)))=or (Dw rows seed n d _ (r+a) j) (zk rows seed n d (r+a+j))
  rw[Dp a j,Nat.add_assoc]
theorem P2(r:Nat): ∀j,Dw rows seed n d true r j=true
 |0=>rfl
 |j+1=>by rw[Dw,P2 r j];rfl
theorem M6: ∀(k r:Nat) (st:Bool),goQ rows seed n d k r st=true→(∀j,j<k→okQ rows seed n d (Dw rows seed n d st r j) (r+j)=true)∧Dw rows seed n d st r k=true
 |0,_,_,h=>⟨fun j hj=>absurd hj (Nat.not_lt_zero j),h⟩
 |k+1,r,st,h=>by
  rw[goQ,ak]at h
  obtain⟨q1,q2⟩:=M6 k (r+1) _ h.2
  refine⟨fun j hj=> ?_,by rw[EZ];exact q2⟩
  cases j with
  |zero=>exact h.1
  |succ j=>
   have:=q1 j (by omega)
   rw[EZ,show r+(j+1)=r+1+j by omega]
   exact this
theorem afQ(h:WK (rows:Int) (seed:Int) [bt,5] n d y r st nx)(hd:d<n): ∀k,r+k<99999→(∀j,j<k→okQ rows seed n d (Dw rows seed n d st r j) (r+j)=true)→ ∃nx',WK (rows:Int) (seed:Int) [bt,5] n d (jX y k) (r+k) (Dw rows seed n d st r k) nx'
 |0,_,_=>⟨nx,h⟩
 |k+1,hk,hq=>by
  obtain⟨nx',ih⟩:=afQ h hd k (by omega) fun j hj=>hq j (by omega)
  have hr:=ih.rnd (by omega)
  exact⟨r+k+1,ih.mk' (by omega) (ih.toAt.P1 hr.1 (by omega) hd (hq k (by omega)))⟩
theorem Wk(h:At (rows:Int) (seed:Int) [bt,5] n d y r false nx)(hd:d<n)(hn:n % 2=0):Bt y.af n=1∧Nk y.af n=1:=by
 have hn8:n≤8:=by have:=(Dv.of h.ok).ndv;have:=h.nd;omega
 have k1: ∀k,k≤n→Bt y.af k=if d<k then 1 else 0:=by
  intro k
  induction k with
  |zero=>intro _;rfl
  |succ k ih=>
   intro hk
   have e:(y.af.getD k (aP .cz)).live=gD (seed:Int) [bt,5] d false k (nx:Int):=h.lv k (by omega)
   show aq.wrap (Bt y.af k+waiting (y.af.getD k (aP .cz)).live)=_
   rw[ih (by omega),e]
   show aq.wrap ((if d<k then(1:Int)else 0)+aq.wrap (((k8 [bt,5] d k).length:Int)-0))=_
   by_cases h1:k=d
   ·subst h1
    rw[zh,if_neg (Di _),if_pos (qS _)]
    show aq.wrap (0+aq.wrap (1-0))=1
    decide
   ·rw[zi h1]
    show aq.wrap ((if d<k then(1:Int)else 0)+aq.wrap (0-0))=_
    by_cases h2:d<k
    ·rw[if_pos h2,if_pos (by omega)];decide
    ·rw[if_neg h2,if_neg (by omega)];decide
 have k2: ∀k,k≤n→Nk y.af k=if d<k then 1 else 0:=by
  intro k
  induction k with
  |zero=>intro _;rfl
  |succ k ih=>
   intro hk
   have hx:(k^^^1)<y.af.length:=by rw[h.nd];exact yt k n (by omega) hn
   have e:(y.af.getD k (aP .cz)).live=gD (seed:Int) [bt,5] d false k (nx:Int):=h.lv k (by omega)
   have e2:(y.af.getD (k^^^1) (aP .cz)).live=gD (seed:Int) [bt,5] d false (k^^^1) (nx:Int):=h.lv (k^^^1) (by rw[←h.nd];exact hx)
   rw[MP hx,ih (by omega),e,e2]
   show aq.wrap (aq.wrap ((if d<k then(1:Int)else 0)+((k8 [bt,5] d k).length:Int))-0)=_
   by_cases h1:k=d
   ·subst h1
    rw[zh,if_neg (Di _),if_pos (qS _)]
    show aq.wrap (aq.wrap (0+1)-0)=1
    decide
   ·rw[zi h1]
    show aq.wrap (aq.wrap ((if d<k then(1:Int)else 0)+0)-0)=_
    by_cases h2:d<k
    ·rw[if_pos h2,if_pos (by omega)];decide
    ·rw[if_neg h2,if_neg (by omega)];decide
 rw[k1 n (aZ _),k2 n (aZ _),if_pos hd]
 exact⟨rfl,rfl⟩
end
theorem ah9(s:Nat){rows j b:Nat}(hs:s<2147483647)(hr:rows≤64)(hj:j<rows)(hb:b<24):(gO (JX (s:Int) (rows:Int)) j b).toNat=mdN s j b:=by
 unfold gO JX jZ
 dsimp only
 rw[fM _ _ _ _ (by omega)]
 unfold uS stream
 rw[fM _ _ _ _ (by show b<24;exact hb)]
 rw[cV (a:=1000*(j:Int)) (by omega),cV (by omega)]
 rw[show(s:Int)+1000*(j:Int)=((s+1000*j:Nat):Int)by omega,show(100:Int)+(b:Int)=((100+b:Nat):Int)by omega,adZ,show((csN (s+1000*j) (100+b):Nat):Int)/256=((csN (s+1000*j) (100+b)/256:Nat):Int)by omega,aaC];rfl
theorem aia{a b:UInt8}(h:a≠b):a^^^b≠0:=by
 intro e
 have:(a^^^b)^^^b=0^^^b:=by rw[e]
 rw[UInt8.xor_assoc,UInt8.xor_self,UInt8.xor_zero,UInt8.zero_xor]at this
 exact h this
theorem akB{x:ck}{rows seed k:Nat}(h:okW x=true)(Qa:x.av.length=3)(hrw:x.rows=(rows:Int))(h2:2≤rows)(hsd:x.seed=(seed:Int))(hrd:x.round=1)(hk:k<3)(hz:nzN seed=true): ∃j b,gO (ET x k 0) j b≠0:=by
 have hr:=Io h
 have hn:=Z5 h
 have hcc:0≤((0:Nat):Int)∧((0:Nat):Int)<x.af.length:=by omega
 have hm:=Eo h hcc
 have hu:qB x.rows (jq (jV x ((0:Nat):Int)) x.round x.rows) (gl (jV x ((0:Nat):Int)) x.round x.rows)=true:=by simp only[tI,ak]at hm;exact hm.1
 have hws:jz x ((0:Nat):Int)= [((Uo seed 1 0:Nat):Int),((Uo seed 1 1:Nat):Int)]:=by
  unfold jz
  rw[Qa,hsd,hrd]
  show [kh (seed:Int) [223,1,((0:Nat):Int),((0:Nat):Int)],kh (seed:Int) [223,1,((0:Nat):Int),((1:Nat):Int)]]=_
  rw[show kh (seed:Int) [223,1,((0:Nat):Int),((0:Nat):Int)]=((Uo seed 1 0:Nat):Int)from Dk seed [223,1,0,0],show kh (seed:Int) [223,1,((0:Nat):Int),((1:Nat):Int)]=((Uo seed 1 1:Nat):Int)from Dk seed [223,1,0,1]]
 have hlt: ∀q,Uo seed 1 q<2147483647:=fun q=>HF.lt _ _
 have hsh:eY x ((0:Nat):Int)= [JX ((Uo seed 1 0:Nat):Int) x.rows,JX ((Uo seed 1 1:Nat):Int) x.rows,qW x.rows (jq (jV x ((0:Nat):Int)) x.round x.rows) (gl (jV x ((0:Nat):Int)) x.round x.rows) (jz x ((0:Nat):Int))]:=by
  unfold eY
  rw[qX,if_pos hm,hws];rfl
 simp only[nzN,ak]at hz
 obtain⟨z1,z2,z3,z4⟩:=hz
 have one: ∀q,nz1 seed q=true→ ∃j b,gO (JX ((Uo seed 1 q:Nat):Int) x.rows) j b≠0:=by
  intro q hq
  obtain⟨b,hb,hq⟩:=Jr hq
  rw[bq]at hq
  refine⟨0,b,fun e=>M1 hq ?_⟩
  rw[←ah9 (Uo seed 1 q) (rows:=rows) (hlt q) (by omega) (by omega) hb, ←hrw,e];rfl
 have Qx:k=0∨k=1∨k=2:=by omega
 unfold ET
 rw[hsh]
 rcases Qx with rfl|rfl|rfl
 ·exact one 0 z1
 ·exact one 1 z2
 ·show∃j b,gO (qW x.rows _ _ _) j b≠0
  have two: ∀j,j<rows→nz2 seed j=true→(jq (jV x ((0:Nat):Int)) x.round x.rows).toNat≠j→ ∃j b,gO (qW x.rows (jq (jV x ((0:Nat):Int)) x.round x.rows) (gl (jV x ((0:Nat):Int)) x.round x.rows) (jz x ((0:Nat):Int))) j b≠0:=by
   intro j hj hq hne
   obtain⟨b,hb,hq⟩:=Jr hq
   rw[bq]at hq
   refine⟨j,b,?_⟩
   have q:=(EW (fun s=>JX s x.rows) x.rows.toNat j b (jz x ((0:Nat):Int)) (Ng x.rows (jq (jV x ((0:Nat):Int)) x.round x.rows) (gl (jV x ((0:Nat):Int)) x.round x.rows)) (akj hu) fun s _=>afn s hr).2
   unfold qW
   rw[q,aam hu (by omega),if_neg hne,UInt8.zero_xor,hws,gY,gY]
   show gO _ j b^^^(gO _ j b^^^0)≠0
   rw[UInt8.xor_zero]
   refine aia fun e=>M1 hq ?_
   rw[←ah9 (Uo seed 1 0) (rows:=rows) (hlt 0) (by omega) hj hb, ←ah9 (Uo seed 1 1) (rows:=rows) (hlt 1) (by omega) hj hb, ←hrw,e]
  by_cases e:(jq (jV x ((0:Nat):Int)) x.round x.rows).toNat=0
  ·exact two 1 (by omega) z4 (by omega)
  ·exact two 0 (by omega) z3 e
structure HsF(x y z:ck)(m:List UInt8)(k:Nat)(b:Int):Prop where
 hx:(kH x.av).length=1
 hy:kH y.av= []
 rp:y.replaced= [(k:Int)]
 ca:y.cancelled=if b=3 then 0 else 1
 qu:zc z=true
 tx:PZ z 1=sk m
 ib:J7 z 1= [m]
theorem Js{l:List bZ}(h: ∀i,i<l.length→(l.getD i (aP .bZ)).behavior=0):kH l= []:=by
 unfold kH
 rw[List.filter_eq_nil_iff.2]
 ·rfl
 ·intro s hs
  obtain⟨i,hi,rfl⟩:=aan (aP .bZ) hs
  rw[h i hi];decide
theorem P3{x:ck}{k:Nat}{b:Int}(hb:RY x k b)(h0:b≠0):(kH x.av).length=1:=by
 have key: ∀n,n≤x.av.length→(kH (x.av.take n)).length=if k<n then 1 else 0:=by
  intro n
  induction n with
  |zero=>intro _;rfl
  |succ n ih=>
   intro hn
   rw[Dm _ _ (by omega),aY,ih (by omega),hb.2 n (by omega)]
   by_cases e:n=k
   ·rw[if_pos e,if_neg (by omega),if_pos h0,if_pos (by omega)];rfl
   ·rw[if_neg e]
    show(if k<n then 1 else 0)+(if(0:Int)≠0 then [(x.av.getD n (aP .bZ)).id]else []).length=_
    rw[if_neg (show¬((0:Int)≠0)by decide),fF,jE]
    by_cases h2:k<n
    ·rw[if_pos h2,if_pos (by omega)]
    ·rw[if_neg h2,if_neg (by omega)]
 have:=key x.av.length (aZ _)
 rw[List.take_length,if_pos hb.1]at this
 exact this
theorem aib{y:ck}(h1:Bt y.af y.af.length=1)(h2:Nk y.af y.af.length=1):wA y=28:=by unfold wA;rw[h1,h2];decide
theorem aic{y:ck}(h1:Bt y.af y.af.length=0)(h2:Nk y.af y.af.length=0):wA y=20:=by unfold wA;rw[h1,h2];decide
theorem aaU{seed:Nat}{bt:UInt8}{y:ck}{st:Bool}{nx:Nat}(h:WK 24 (seed:Int) [bt,5] 2 0 y 3 st nx)(hq: ∀j,j<28→okQ 24 seed 2 0 (Dw 24 seed 2 0 st 3 j) (3+j)=true)(he:Dw 24 seed 2 0 st 3 28=true):zc (jX y (Ge (wA y)))=true∧PZ (jX y (Ge (wA y))) 1=sk [bt,5]∧J7 (jX y (Ge (wA y))) 1= [[bt,5]]:=by
 have fin: ∀k,k≤28→Dw 24 seed 2 0 st 3 k=true→zc (jX y k)=true∧PZ (jX y k) 1=sk [bt,5]∧J7 (jX y k) 1= [[bt,5]]:=by
  intro k hk hs
  obtain⟨nx',q⟩:=afQ (rows:=24) h (by decide) k (by omega) fun j hj=>hq j (by omega)
  rw[hs]at q
  have hi:J7 (jX y k) 1= [[bt,5]]:=by
   have:=q.lv 1 (by decide)
   show(jV (jX y k) ((1:Nat):Int)).inbox=_
   rw[this];rfl
  have hok:M3 (jX y k) 1=true:=by
   unfold M3
   rw[hi,(M4 (by rw[q.nd];decide)).2 (by rw[q.nd];decide)];rfl
  refine⟨(quiet_of q.nd q.lv).2.2,?_,hi⟩
  unfold PZ
  rw[if_pos hok,hi];rfl
 cases st with
 |true=>
  have hl:=h.lv
  obtain⟨p1,p2,_⟩:=quiet_of h.nd hl
  rw[aic (by rw[h.nd];exact p1) (by rw[h.nd];exact p2),show Ge 20=20 by decide]
  exact fin 20 (by decide) (P2 _ _)
 |false=>
  obtain⟨p1,p2⟩:=Wk (rows:=24) h.toAt (by decide) (by decide)
  rw[aib (by rw[h.nd];exact p1) (by rw[h.nd];exact p2),show Ge 28=28 by decide]
  exact fin 28 (by decide) he
theorem aid(w:ck)(k:Nat)(s:bZ):(I7 w k s).rows=w.rows∧(I7 w k s).af=w.af∧(I7 w k s).round=w.round∧(I7 w k s).aJ=w.aJ∧(I7 w k s).replaced=w.replaced∧(I7 w k s).cancelled=w.cancelled∧(I7 w k s).seed=w.seed∧(I7 w k s).av=w.av.set k s:=⟨rfl,rfl,rfl,rfl,rfl,rfl,rfl,rfl⟩
theorem aej{w y:ck}(h:y.af=w.af)(i:Int):jV y i=jV w i:=by unfold jV;rw[h]
theorem aie{seed k:Nat}{bt:UInt8}{b:Int}(hk:k<3)(hb:b=1∨b=2∨b=3)(hc:EY seed=true):
  MK (jC 24 3 1 (seed:Int)) 0 [bt,5]=true∧CQ (dc (w6 (jC 24 3 1 (seed:Int)) 0 [bt,5])) (k:Int) b=true∧
  HsF (Bz (dc (w6 (jC 24 3 1 (seed:Int)) 0 [bt,5])) (k:Int) b) (jX (Bz (dc (w6 (jC 24 3 1 (seed:Int)) 0 [bt,5])) (k:Int) b) 2) (jX (jX (Bz (dc (w6 (jC 24 3 1 (seed:Int)) 0 [bt,5])) (k:Int) b) 2) (Ge (wA (jX (Bz (dc (w6 (jC 24 3 1 (seed:Int)) 0 [bt,5])) (k:Int) b) 2)))) [bt,5] k b∧De (Bz (dc (w6 (jC 24 3 1 (seed:Int)) 0 [bt,5])) (k:Int) b) 1:=by
 obtain⟨f1,f2,f3,f4,f5,f6,f7⟩:=aaH (rows:=24) (seed:=(seed:Int)) (s:=3) (p:=1) (d:=0) (m:= [bt,5]) (by decide) (by decide) (by decide) (by decide) (m2 bt)
 have f2:WK ((24:Nat):Int) (seed:Int) [bt,5] 2 0 (w6 (jC 24 3 1 (seed:Int)) ((0:Nat):Int) [bt,5]) 0 false 0:=f2
 change MK (jC 24 3 1 (seed:Int)) 0 [bt,5]=true at f1
 simp only[EY,ak]at hc
 obtain⟨g1,g2,g3⟩:=hc
 obtain⟨A1,A2⟩:=M6 31 0 false g1
 obtain⟨B1,B2⟩:=M6 29 2 _ g2
 have hr0:=f2.rnd (by decide)
 have h1:=f2.mk' (by decide) (f2.toAt.P1 hr0.1 (by decide) (by decide) (A1 0 (by decide)))
 have hD1:=f7.rd (by decide)
 have e1:(dc (w6 (jC 24 3 1 (seed:Int)) ((0:Nat):Int) [bt,5])).av.length=3:=hr0.2.1.ns.trans f5
 have e2:(dc (w6 (jC 24 3 1 (seed:Int)) ((0:Nat):Int) [bt,5])).replaced= []:=hr0.2.1.Gf.trans f3
 have e3:(dc (w6 (jC 24 3 1 (seed:Int)) ((0:Nat):Int) [bt,5])).cancelled=0:=hr0.2.1.qF.trans f4
 have e4:(dc (w6 (jC 24 3 1 (seed:Int)) ((0:Nat):Int) [bt,5])).seed=(seed:Int):=hr0.2.1.seed.trans f6
 refine⟨f1,?_⟩
 change CQ (dc (w6 (jC 24 3 1 (seed:Int)) ((0:Nat):Int) [bt,5])) (k:Int) b=true∧HsF (Bz (dc (w6 (jC 24 3 1 (seed:Int)) ((0:Nat):Int) [bt,5])) (k:Int) b) (jX (Bz (dc (w6 (jC 24 3 1 (seed:Int)) ((0:Nat):Int) [bt,5])) (k:Int) b) 2) (jX (jX (Bz (dc (w6 (jC 24 3 1 (seed:Int)) ((0:Nat):Int) [bt,5])) (k:Int) b) 2) (Ge (wA (jX (Bz (dc (w6 (jC 24 3 1 (seed:Int)) ((0:Nat):Int) [bt,5])) (k:Int) b) 2)))) [bt,5] k b∧De (Bz (dc (w6 (jC 24 3 1 (seed:Int)) ((0:Nat):Int) [bt,5])) (k:Int) b) 1
 generalize dc (w6 (jC 24 3 1 (seed:Int)) ((0:Nat):Int) [bt,5])=w at*
 have BU:CQ w (k:Int) b=true:=by
  unfold CQ
  rw[h1.ok,Bool.true_and,ak,dD,dD,e1,cV (by decide)]
  omega
 have hDx:De (Bz w (k:Int) b) (0+1):=hD1.co
 have GK:Bz w (k:Int) b=I7 w k (beh (w.av.getD k (aP .bZ)) b):=by
  unfold Bz
  rw[if_pos BU];rfl
 refine⟨BU,?_,hDx⟩
 have Ww:=hDx.ok
 have hbad:RY (Bz w (k:Int) b) k b:=by
  rw[GK]
  refine⟨by show k<(w.av.set _ _).length;rw[bA];omega,fun i hi=> ?_⟩
  have hi':i<w.av.length:=by have:i<(w.av.set k (beh (w.av.getD k (aP .bZ)) b)).length:=hi;rw[bA]at this;exact this
  show((w.av.set k (beh (w.av.getD k (aP .bZ)) b)).getD i (aP .bZ)).behavior=_
  rw[ko _ _ hi']
  by_cases e:k=i
  ·rw[if_pos e,if_pos e.symm];rfl
  ·rw[if_neg e,if_neg fun q=>e q.symm]
   exact h1.hon i hi'
 have hf:=aid w k (beh (w.av.getD k (aP .bZ)) b)
 rw[←GK]at hf
 obtain⟨z1,z2,z3,z4,z5,z6,z7,z8⟩:=hf
 have E0:At ((24:Nat):Int) (seed:Int) [bt,5] 2 0 (Bz w (k:Int) b) 1 (or false (zk 24 seed 2 0 0)) 1:=
  ⟨Ww,z1.trans h1.rows,(congrArg aQ z2).trans h1.nd,z3.trans h1.toAt.round,by rw[z4];exact h1.K3,aZ _,fun i hi=>(aej z2 i).trans (h1.lv i hi)⟩
 have x1:(Bz w (k:Int) b).replaced= []:=z5.trans e2
 have x2:(Bz w (k:Int) b).cancelled=0:=z6.trans e3
 have x3:(Bz w (k:Int) b).av.length=3:=by rw[z8,bA];exact e1
 have x4:(Bz w (k:Int) b).seed=(seed:Int):=z7.trans e4
 clear z1 z2 z3 z4 z5 z6 z7 z8 GK
 generalize Bz w (k:Int) b=x at*
 have b0:b≠0:=by omega
 have hx:=P3 hbad b0
 have Jt:x.round=1:=E0.round
 have hnx: ∀i:Nat,i<x.af.length→dK x.aJ<(jV x (i:Int)).next∧(jV x (i:Int)).next≤x.round:=fun i hi=>by
  rw[E0.lv i (by rw[←E0.nd];exact hi),Jt]
  exact⟨E0.K3,Int.le_refl _⟩
 by_cases h3:b=3
 ·subst h3
  obtain⟨q1,q2,q3⟩:=Wa Ww hbad (by omega) (by omega) hnx
  have hy1:WK ((24:Nat):Int) (seed:Int) [bt,5] 2 0 (dc x) 2 (Dw 24 seed 2 0 false 0 2) 2:=by
   refine⟨⟨q1.ok,by rw[q1.rows];exact E0.rows,by rw[q1.nd];exact E0.nd,by rw[q1.round,Jt];rfl,by rw[q2,Jt];decide,aZ _,?_⟩,q1.hon,by rw[q1.qF,x2];decide⟩
   exact E0.P1 q3 (by decide) (by decide) (A1 1 (by decide))
  have FL:=hy1.rnd (by decide)
  have hy2:=hy1.mk' (by decide) (hy1.toAt.P1 FL.1 (by decide) (by decide) (A1 2 (by decide)))
  have he:=aaU (st:=Dw 24 seed 2 0 false 0 3) hy2 (fun j hj=>by
   have:=A1 (3+j) (by omega)
   rw[Nat.zero_add]at this
   rw[←show Dw 24 seed 2 0 false 0 (3+j)=Dw 24 seed 2 0 (Dw 24 seed 2 0 false 0 3) 3 j from Dp 3 j]
   exact this) (by rw[←Dp 3 28];exact A2)
  exact⟨hx,Js hy2.hon,by show(dc (dc x)).replaced=_;rw[FL.2.1.Gf,q1.Gf,x1];rfl,by show(dc (dc x)).cancelled=_;rw[FL.2.1.qF,q1.qF,x2];rfl,he.1,he.2.1,he.2.2⟩
 ·have hp: ¬(kq (iy x x.af.length k)).rows=(oR (iy x x.af.length k)).rows:=by
   rcases hb with rfl|rfl|rfl
   ·obtain⟨j,c,hne⟩:=akB (rows:=24) (k:=k) Ww x3 E0.rows (by decide) x4 Jt hk g3
    exact aaJ Ww hbad hne
   ·exact ad4 Ww hbad
   ·exact absurd rfl h3
  obtain⟨q1,q2,q3⟩:=RZ Ww hbad hp (by omega) (by omega) fun i hi=>(hnx i hi).1
  have hy1:WK ((24:Nat):Int) (seed:Int) [bt,5] 2 0 (dc x) 2 (or false (zk 24 seed 2 0 0)) 1:=by
   refine⟨⟨q1.ok,by rw[q1.rows];exact E0.rows,by rw[q1.nd];exact E0.nd,by rw[q1.round,Jt];rfl,by rw[q2];exact E0.K3,by decide,?_⟩,q1.hon,by rw[q1.qF,x2];decide⟩
   intro i hi
   rw[q3 i (by rw[E0.nd];exact hi)]
   exact E0.lv i hi
  have FL:=hy1.rnd (by decide)
  have hy2:=hy1.mk' (by decide) (hy1.toAt.P1 FL.1 (by decide) (by decide) (B1 0 (by decide)))
  have he:=aaU (st:=Dw 24 seed 2 0 (or false (zk 24 seed 2 0 0)) 2 1) hy2 (fun j hj=>by
   have:=B1 (1+j) (by omega)
   rw[show 2+(1+j)=3+j by omega]at this
   rw[←show Dw 24 seed 2 0 (or false (zk 24 seed 2 0 0)) 2 (1+j)=Dw 24 seed 2 0 (Dw 24 seed 2 0 (or false (zk 24 seed 2 0 0)) 2 1) 3 j from Dp 1 j]
   exact this) (by rw[←Dp 1 28];exact B2)
  exact⟨hx,Js hy2.hon,by show(dc (dc x)).replaced=_;rw[FL.2.1.Gf,q1.Gf,x1];rfl,by show(dc (dc x)).cancelled=_;rw[FL.2.1.qF,q1.qF,x2,if_neg h3];rfl,he.1,he.2.1,he.2.2⟩
end
end
section
set_option maxRecDepth 100000
theorem hk0:rL (fun s=>EY (iR 0 s)) 32=true:=by decide+kernel
theorem hk1:rL (fun s=>EY (iR 32 s)) 32=true:=by decide+kernel
theorem hk2:rL (fun s=>EY (iR 64 s)) 32=true:=by decide+kernel
theorem Qx:rL (fun s=>EY (iR 96 s)) 32=true:=by decide+kernel
theorem hk4:rL (fun s=>EY (iR 128 s)) 32=true:=by decide+kernel
theorem hk5:rL (fun s=>EY (iR 160 s)) 32=true:=by decide+kernel
theorem hk6:rL (fun s=>EY (iR 192 s)) 32=true:=by decide+kernel
theorem hk7:rL (fun s=>EY (iR 224 s)) 32=true:=by decide+kernel
theorem aaX{seed:Nat}(h:seed<256):EY seed=true:=by
 have key: ∀q,q≤seed→seed<q+32→rL (fun s=>EY (iR q s)) 32=true→EY seed=true:=by
  intro q h1 h2 h3
  have h4:=qH h3 (seed-q) (by omega)
  rwa [show iR q (seed-q)=seed by show q+(seed-q)=seed;omega]at h4
 rcases(by omega:(0≤seed∧seed<32)∨(32≤seed∧seed<64)∨(64≤seed∧seed<96)∨(96≤seed∧seed<128)∨(128≤seed∧seed<160)∨(160≤seed∧seed<192)∨(192≤seed∧seed<224)∨(224≤seed∧seed<256))with⟨h1,h2⟩| ⟨h1,h2⟩| ⟨h1,h2⟩| ⟨h1,h2⟩| ⟨h1,h2⟩| ⟨h1,h2⟩| ⟨h1,h2⟩| ⟨h1,h2⟩
 ·exact key 0 h1 h2 hk0
 ·exact key 32 h1 h2 hk1
 ·exact key 64 h1 h2 hk2
 ·exact key 96 h1 h2 Qx
 ·exact key 128 h1 h2 hk4
 ·exact key 160 h1 h2 hk5
 ·exact key 192 h1 h2 hk6
 ·exact key 224 h1 h2 hk7
end
end Go.Proofs.YtkcegdacbddipaaGreat.G
