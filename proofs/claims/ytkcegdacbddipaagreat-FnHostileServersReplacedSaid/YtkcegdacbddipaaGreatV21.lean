/-
  Hostile servers, computed for every seed. No program in sight.
-/
import Derived.Test.YtkcegdacbddipaaGreatV11
import Derived.Test.YtkcegdacbddipaaGreatV20
namespace Go.Proofs.YtkcegdacbddipaaGreat.G
set_option linter.all false
open Go.RowKit L D Tryz
section
theorem join_le(l:List (List UInt8))(c:UInt8):(Lib.join l [c]).length≤cQ List.length l:=by
 cases l with
 |nil=>simp[Lib.join_nil]
 |cons x r=>
  rw[Lib.join_cons,List.length_append,Lib.joinTail_length]
  simp only[cQ,List.length_cons,List.map_cons,List.sum_cons,Lib.lens,List.length_nil]
  have:(List.map (fun x=>List.length x) r).sum=(List.map List.length r).sum:=rfl
  omega
theorem nB(l:List (List UInt8))(c:UInt8)(h:cQ List.length l≤1099511627776):So 43 [.a (.sl .str l), .a (.lit (.string (mI [c])))] [.a (.lit (.string (mI (Lib.join l [c]))))]:=by
 refine⟨call43,?_⟩
 rintro w us _ ha
 match us,ha with
 | [u,v],⟨h1,h2,_⟩=>
   obtain⟨fp,h1⟩:=h1
   obtain⟨_,rfl,_,_⟩:=h2
   obtain⟨oa,cap,rfl,hc,hm,h3⟩:=(show Sl 1 T2 w u l fp from h1)
   have hlen:l.length≤1099511627776:=by unfold cQ at h;omega
   rcases h3 with⟨rfl,_⟩| ⟨b,off,bn,rfl,hb,rfl,hE⟩
   ·refine(Tryz.strings_Join_none oa cap (mI [c]) w).mono ?_
    rintro e w' ⟨rfl,rfl⟩
    exact⟨_,[],rfl,Below.refl _ _,Own.nil _ _,⟨[],[],⟨rfl,rfl,rfl⟩,rfl,rfl⟩⟩
   ·have:=Tryz.strings_Join b off cap (l.map mI) (mI [c]) w (fun j x hx=>by
      rw[List.getElem?_map]at hx
      cases hy:l[j]? with
      |none=>rw[hy]at hx;cases hx
      |some y=>
       rw[hy]at hx
       simp only[Option.map_some,oI]at hx
       subst hx
       obtain⟨f,hf⟩:=gd hE.1 hy
       obtain⟨cs,q1,rfl,_⟩:=hE.2 j y f hy hf
       have:=q1 0 _ rfl
       rw[Nat.add_zero,Nat.mul_one]at this
       exact this) hb.lt (by rw[List.length_map];omega) (by rw[List.length_map];exact hc) (by
      rw[List.map_map]
      rw[IP]
      have:=join_le l c
      rw[Ox]
      omega)
    rw[List.length_map,List.map_map]at this
    rw[IP]at this
    refine this.mono ?_
    rintro e w' ⟨rfl,hb'⟩
    exact⟨_,[],rfl,hb',Own.nil _ _,⟨[],[],⟨rfl,rfl,rfl⟩,rfl,rfl⟩⟩
end
end Go.Proofs.YtkcegdacbddipaaGreat.G
namespace Go.Proofs.YtkcegdacbddipaaGreat.G
set_option linter.all false
open Go.RowKit L D
section
def EI(x:aV)(c:Int):List (List UInt8):=(x.aa.getD c.toNat (aB .bg)).live.inbox
def HD(x:aV)(c:Int):Bool:=mh x c&& !(((EI x c).length:Int)==0)
def Kg(x:aV)(c:Int):ByteArray:=if HD x c=true then mI (Lib.join (EI x c) [124])else⟨#[45]⟩
theorem HE{x:aV}{c:Int}(hd:x.aa.length≤1048576):mh x c=true↔0≤c∧c<x.aa.length:=by
 unfold mh
 rw[bN];omega
theorem LW{x:aV}{c:Int}(hd:x.aa.length≤1048576)(h:(!mh x c)=false):0≤c∧c<x.aa.length:=(HE hd).1 (by simpa using h)
theorem Zj{x:aV}{c:Int}(hd:x.aa.length≤1048576)(h:HD x c=true):0≤c∧c<x.aa.length:=by
 simp only[HD,Bool.and_eq_true]at h
 exact(HE hd).1 h.1
def adC(c:dK):dK:=⟨c.id,c.dz,c.key,c.seed,c.aI,c.sent,c.inbox++ [[250,251,252]],c.next⟩
def adD(d:bg):bg:=⟨adC d.live,d.saved⟩
def adW(x:aV):aV:=⟨x.rows,x.aj,x.aa.set 0 (adD (x.aa.getD 0 (aB .bg))),x.az,x.aT,x.seed,x.round,x.replaced,x.cancelled⟩
def stD(d:bg):bg:=⟨⟨d.live.id,d.live.dz,d.live.key,d.live.seed,d.live.aI,(d.live.aI.length:Int),d.live.inbox,d.live.next⟩,d.saved⟩
def stW(x:aV):aV:=⟨x.rows,x.aj,x.aa.set 1 (stD (x.aa.getD 1 (aB .bg))),x.az,x.aT,x.seed,x.round,x.replaced,x.cancelled⟩
theorem Tz{α:Type}{f:α→Nat}{C n i:Nat}{l:List α}{y:α}(h: ∀d,d∈l→f d≤C)(hy:f y≤C)(hl:l.length≤n):cQ f (l.set i y)≤(C+1)*n:=by
 refine Bk f C n _ (fun d hd=> ?_) (by rw[List.length_set];exact hl)
 rcases List.mem_or_eq_of_mem_set hd with h2|rfl
 ·exact h d h2
 ·exact hy
theorem TA(d:bg):bD (adD d)=bD d+4:=by
 unfold bD adD adC cu cQ
 simp
 omega
theorem TB(d:bg):bD (stD d)=bD d:=rfl
theorem Wh{l:List (List UInt8)}(h:cQ List.length l≤1048576){k:Nat}(hk:k<l.length):(l.getD k (aB (.sl .u8))).length≤1048576:=
 jl (f:=List.length) h (i:=k) (by rw[List.getD_eq_getElem?_getD,List.getElem?_eq_getElem hk];rfl)
structure abC(x:aV):Prop where
 inb:(x.aa.getD 0 (aB .bg)).live.inbox.length≤1000
 nd:2≤x.aa.length∧x.aa.length≤8
 ad:xy (adW x)≤1048576
 st:xy (stW x)≤1048576
theorem abC.of{x:aV}(h:okW x=true)(hr:x.replaced.length≤1000):abC x:=by
 have w:=yx.of h
 have nd:=w.T1
 have hs:=Bk dr 15000 4 x.aj (Wg h) w.VL.2
 have hB: ∀d,d∈x.aa→bD d≤960:=fun d hd=>mE (JA h d hd)
 have hm: ∀i,i<x.aa.length→bD (x.aa.getD i (aB .bg))≤960:=fun i hi=>by
  rw[List.getD_eq_getElem?_getD,List.getElem?_eq_getElem hi]
  exact hB _ (List.getElem_mem hi)
 have ha:ey x.az≤1601*8:=by
  have ha:=kP.1 w.FF
  refine Bk dU 1600 8 _ (fun y hy=> ?_) ha.1.2
  obtain⟨i,hi,rfl⟩:=List.mem_iff_getElem.1 hy
  have h2:=jU.1 (ha.2 i hi)
  have e:x.az.rounds.getD i (aB .aJ)=x.az.rounds[i]:=by rw[List.getD_eq_getElem?_getD,List.getElem?_eq_getElem hi];rfl
  rw[e]at h2
  exact He h2.2.2.1
 have h0:=hm 0 (by omega)
 have h1:=hm 1 (by omega)
 have d0:=Tz (f:=bD) (C:=1000) (i:=0) (y:=adD (x.aa.getD 0 (aB .bg))) (fun d hd=>Nat.le_trans (hB d hd) (by decide)) (by rw[TA];omega) nd.2
 have d1:=Tz (f:=bD) (C:=1000) (i:=1) (y:=stD (x.aa.getD 1 (aB .bg))) (fun d hd=>Nat.le_trans (hB d hd) (by decide)) (by rw[TB];omega) nd.2
 refine⟨?_,nd,?_,?_⟩
 ·have h2:cQ List.length (x.aa.getD 0 (aB .bg)).live.inbox≤960:=by unfold bD cu at h0;omega
  unfold cQ at h2;omega
 ·unfold xy adW
  dsimp only
  omega
 ·unfold xy stW
  dsimp only
  omega
end
section
def gb(l:List aX):List Int:=(l.filter fun s=>s.behavior !=0).map aX.id
theorem yF(l:List aX)(k:Nat)(h:k<l.length):gb (l.take (k+1))=gb (l.take k)++if(l.getD k (aB .aX)).behavior≠0 then [(l.getD k (aB .aX)).id]else []:=by
 rw[bq l k (aB .aX) h]
 unfold gb
 rw[List.filter_append,List.map_append]
 generalize l.getD k (aB .aX)=s
 by_cases h:s.behavior=0<;>simp[h]
theorem LX(l:List aX)(k:Nat):(gb (l.take k)).length≤k:=by
 unfold gb;rw[List.length_map]
 exact Nat.le_trans (List.length_filter_le _ _) (List.length_take_le _ _)
section
variable [HF]
def TC(f:Nat→Bool):Nat→Bool
 |0=>false
 |k+1=>or (f k) (TC f k)
theorem Ee{f:Nat→Bool}: ∀{n:Nat},TC f n=true→ ∃i,i<n∧f i=true
 |0,h=>by cases h
 |n+1,h=>by
  rw[TC,Bool.or_eq_true]at h
  rcases h with h|h
  ·exact⟨n,Nat.lt_succ_self n,h⟩
  ·obtain⟨i,h1,h2⟩:=Ee h
   exact⟨i,by omega,h2⟩
def mdN(s j b:Nat):Nat:=Nat.mod (Nat.div (Tg (Nat.add s (Nat.mul 1000 j)) (Nat.add 100 b)) 256) 256
def NN(seed r k:Nat):Nat:=v7 seed [223,r,0,k]
def nz1(seed k:Nat):Bool:=TC (fun b=>not (Nat.beq (mdN (NN seed 1 k) 0 b) 0)) 24
def nz2(seed j:Nat):Bool:=TC (fun b=>not (Nat.beq (mdN (NN seed 1 0) j b) (mdN (NN seed 1 1) j b))) 24
def nzN(seed:Nat):Bool:=and (nz1 seed 0) (and (nz1 seed 1) (and (nz2 seed 0) (nz2 seed 1)))
def mB(b:Nat):List Nat:= [b,5]
def Pf(rows seed n d r c i:Nat):Bool:=cond (Nat.beq (Pa rows seed d r d) (Pc rows seed r i)) (ga (fun b=>Ar rows seed (mB b) n d r c i) 256) (Ar rows seed [] n d r c i)
def Pg(d i:Nat):Nat:=cond (Nat.beq (Nat.xor i 1) d) 1 0
def Zk(rows seed n d:Nat)(st:Bool)(r:Nat):Bool:=cond st (ga (fun i=>Ar rows seed [] n n r (Pg d i) i) n)
 (cond (qJ rows seed n d r) (ga (fun i=>or (Nat.beq i (Nat.xor d 1)) (Pf rows seed n d r 0 i)) n)
  (and (ga (fun b=>not (Y8 (Aq rows seed (mB b) d r (Ea (kN seed d) r (oJ d) rows) n) (LQ seed (mB b) d))) 256) (ga (Pf rows seed n d r 0) n)))
def goQ(rows seed n d:Nat):Nat→Nat→Bool→Bool
 |0,_,st=>st
 |k+1,r,st=>and (Zk rows seed n d st r) (goQ rows seed n d k (Nat.succ r) (or st (qJ rows seed n d r)))
def As(seed:Nat):Bool:=and (goQ 24 seed 2 0 31 0 false) (and (goQ 24 seed 2 0 29 2 (or false (qJ 24 seed 2 0 0))) (nzN seed))
section
variable{rows seed n d r c:Nat}{bt:UInt8}{y z:aV}{st:Bool}{nx:Nat}
theorem HG{m m':List Nat}{j:Nat}: ∀n,(∀k,k<n→k=d→Pa rows seed d r k≠j)→Aq rows seed m d r j n=Aq rows seed m' d r j n
 |0,_=>rfl
 |n+1,h=>by
  have ih:=HG (m:=m) (m':=m') n fun k hk=>h k (by omega)
  rw[Aq,Aq,ih]
  cases hb:Nat.beq (Pa rows seed d r n) j with
  |false=>rfl
  |true=>
   have hne: ¬n=d:=fun e=>h n (by omega) e (Nat.eq_of_beq_eq_true hb)
   have e:Nat.beq n d=false:=Bool.eq_false_iff.2 fun q=>hne (Nat.eq_of_beq_eq_true q)
   show ZI _ (ZH seed m d r n)=ZI _ (ZH seed m' d r n)
   unfold ZH
   rw[e];rfl
theorem LY(bt:UInt8):dy [bt,5]=mB bt.toNat:=rfl
theorem m2(bt:UInt8): [bt,5].length≤14:=(by decide:2≤14)
theorem Kh(hd:d<n)(h:1≤rows∧rows≤64)(hr:r≤100000)(hc:c≤1000){i:Nat}(hq:Pf rows seed n d r c i=true):EH (rows:Int) (seed:Int) [bt,5] n d (r:Int) c i=false:=by
 rw[NI h hr (m2 bt) hc,LY,Bool.not_eq_false']
 unfold Pf at hq
 cases hb:Nat.beq (Pa rows seed d r d) (Pc rows seed r i)with
 |true=>
  rw[hb]at hq
  exact fB hq bt.toNat bt.toNat_lt
 |false=>
  rw[hb]at hq
  have hq:Ar rows seed [] n d r c i=true:=hq
  unfold Ar at hq ⊢
  rw[HG (m:=mB bt.toNat) (m':= []) n fun k _ e=>by rw[e];exact HC hb]
  exact hq
theorem TD(h:1≤rows∧rows≤64)(hr:r≤100000)(hc:c≤1000){i:Nat}(hq:Ar rows seed [] n n r c i=true):EH (rows:Int) (seed:Int) [bt,5] n n (r:Int) c i=false:=by
 rw[NI h hr (m2 bt) hc,LY,Bool.not_eq_false']
 unfold Ar at hq ⊢
 rw[HG (m:=mB bt.toNat) (m':= []) n fun k hk e=>absurd e (by omega)]
 exact hq
theorem abE(d i:Nat):(fZ [bt,5] d (i^^^1)).length=Pg d i:=by
 unfold fZ Pg
 by_cases e:i^^^1=d
 ·rw[if_pos e,show Nat.beq (Nat.xor i 1) d=true by rw[←e];exact Nat.beq_refl _];rfl
 ·rw[if_neg e,show Nat.beq (Nat.xor i 1) d=false from Bool.eq_false_iff.2 fun q=>e (Nat.eq_of_beq_eq_true q)];rfl
theorem Wi(d i:Nat):Pg d i≤1:=by unfold Pg;cases Nat.beq (Nat.xor i 1) d<;>decide
theorem At.Ki(h:At (rows:Int) (seed:Int) [bt,5] n d y r st nx)(hq:Reads y z)(hr:r<99999)(hd:d<n)(hk:Zk rows seed n d st r=true): ∀i,i<n→fF z (i:Int)=dm (seed:Int) [bt,5] d (or st (qJ rows seed n d r)) i ((r+1:Nat):Int):=by
 have hrw:1≤rows∧rows≤64:=by have:=(yx.of h.ok).rows;rw[h.rows]at this;omega
 cases st with
 |true=>
  have hk:ga (fun i=>Ar rows seed [] n n r (Pg d i) i) n=true:=hk
  exact h.idle hq hr fun i hi=>by
   rw[abE]
   exact TD hrw (by omega) (by have:=Wi d i;omega) (fB hk i hi)
 |false=>
  cases ha:qJ rows seed n d r with
  |true=>
   unfold Zk at hk
   rw[ha]at hk
   have hk:ga (fun i=>or (Nat.beq i (Nat.xor d 1)) (Pf rows seed n d r 0 i)) n=true:=hk
   refine h.abl hq hr hd (m2 bt) ((Tr hrw (by omega)).1 ha) fun i hi e=> ?_
   have:=fB hk i hi
   rw[Bool.or_eq_true]at this
   rcases this with h1|h1
   ·exact absurd (Nat.eq_of_beq_eq_true h1) e
   ·exact Kh hd hrw (by omega) (by omega) h1
  |false=>
   unfold Zk at hk
   rw[ha]at hk
   have hk:(ga (fun b=>not (Y8 (Aq rows seed (mB b) d r (Ea (kN seed d) r (oJ d) rows) n) (LQ seed (mB b) d))) 256&&ga (Pf rows seed n d r 0) n)=true:=hk
   rw[Bool.and_eq_true]at hk
   refine h.stay hq hr ?_ fun i hi=>Kh hd hrw (by omega) (by omega) (fB hk.2 i hi)
   have c1:=fB hk.1 bt.toNat bt.toNat_lt
   rw[Bool.not_eq_true']at c1
   rw[beq_eq_false_iff_ne]
   intro e
   have e2:rG (rows:Int) (seed:Int) (r:Int) d=Ea (kN seed d) r (oJ d) rows:=by
    unfold rG
    rw[FR,J5,NG hrw (by omega)];rfl
   rw[e2]at e
   have e3:=(NH (m:= [bt,5]) (seed:=seed) (d:=d) hrw (by omega:r≤100000) (m2 bt) (Ea (kN seed d) r (oJ d) rows) n).2
   rw[e,Tn seed d (m2 bt),LY]at e3
   rw[HB e3.symm]at c1
   cases c1
def yK(rows seed n d:Nat)(st:Bool)(r:Nat):Nat→Bool
 |0=>st
 |j+1=>or (yK rows seed n d st r j) (qJ rows seed n d (r+j))
theorem Au(r:Nat)(st:Bool): ∀j,yK rows seed n d st r (j+1)=yK rows seed n d (or st (qJ rows seed n d r)) (r+1) j
 |0=>rfl
 |j+1=>by
  show or (yK rows seed n d st r (j+1)) (qJ rows seed n d (r+(j+1)))=or (yK rows seed n d _ (r+1) j) (qJ rows seed n d (r+1+j))
  rw[Au r st j,show r+(j+1)=r+1+j by omega]
theorem yG{rows seed n d:Nat}{st:Bool}{r:Nat}(a:Nat): ∀j,yK rows seed n d st r (a+j)=yK rows seed n d (yK rows seed n d st r a) (r+a) j
 |0=>rfl
 |j+1=>by
  show or (yK rows seed n d st r (a+j)) (qJ rows seed n d (r+(a+j)))=or (yK rows seed n d _ (r+a) j) (qJ rows seed n d (r+a+j))
  rw[yG a j,Nat.add_assoc]
theorem Kj(r:Nat): ∀j,yK rows seed n d true r j=true
 |0=>rfl
 |j+1=>by rw[yK,Kj r j];rfl
theorem HH: ∀(k r:Nat) (st:Bool),goQ rows seed n d k r st=true→(∀j,j<k→Zk rows seed n d (yK rows seed n d st r j) (r+j)=true)∧yK rows seed n d st r k=true
 |0,_,_,h=>⟨fun j hj=>absurd hj (Nat.not_lt_zero j),h⟩
 |k+1,r,st,h=>by
  rw[goQ,Bool.and_eq_true]at h
  obtain⟨q1,q2⟩:=HH k (r+1) _ h.2
  refine⟨fun j hj=> ?_,by rw[Au];exact q2⟩
  cases j with
  |zero=>exact h.1
  |succ j=>
   have:=q1 j (by omega)
   rw[Au,show r+(j+1)=r+1+j by omega]
   exact this
theorem Xg(h:LO (rows:Int) (seed:Int) [bt,5] n d y r st nx)(hd:d<n): ∀k,r+k<99999→(∀j,j<k→Zk rows seed n d (yK rows seed n d st r j) (r+j)=true)→ ∃nx',LO (rows:Int) (seed:Int) [bt,5] n d (b9 y k) (r+k) (yK rows seed n d st r k) nx'
 |0,_,_=>⟨nx,h⟩
 |k+1,hk,hq=>by
  obtain⟨nx',ih⟩:=Xg h hd k (by omega) fun j hj=>hq j (by omega)
  have hr:=ih.Y4 (by omega)
  exact⟨r+k+1,ih.mk' (by omega) (ih.toAt.Ki hr.1 (by omega) hd (hq k (by omega)))⟩
theorem Ph(h:At (rows:Int) (seed:Int) [bt,5] n d y r false nx)(hd:d<n)(hn:n % 2=0):tB y.aa n=1∧HQ y.aa n=1:=by
 have hn8:n≤8:=by have:=(yx.of h.ok).T1;have:=h.nd;omega
 have k1: ∀k,k≤n→tB y.aa k=if d<k then 1 else 0:=by
  intro k
  induction k with
  |zero=>intro _;rfl
  |succ k ih=>
   intro hk
   have e:(y.aa.getD k (aB .bg)).live=dm (seed:Int) [bt,5] d false k (nx:Int):=h.lv k (by omega)
   show IntKind.i64.wrap (tB y.aa k+waiting (y.aa.getD k (aB .bg)).live)=_
   rw[ih (by omega),e]
   show IntKind.i64.wrap ((if d<k then(1:Int)else 0)+IntKind.i64.wrap (((fZ [bt,5] d k).length:Int)-0))=_
   by_cases h1:k=d
   ·subst h1
    rw[oG,if_neg (Nat.lt_irrefl _),if_pos (Nat.lt_succ_self _)]
    show IntKind.i64.wrap (0+IntKind.i64.wrap (1-0))=1
    decide
   ·rw[oH h1]
    show IntKind.i64.wrap ((if d<k then(1:Int)else 0)+IntKind.i64.wrap (0-0))=_
    by_cases h2:d<k
    ·rw[if_pos h2,if_pos (by omega)];decide
    ·rw[if_neg h2,if_neg (by omega)];decide
 have k2: ∀k,k≤n→HQ y.aa k=if d<k then 1 else 0:=by
  intro k
  induction k with
  |zero=>intro _;rfl
  |succ k ih=>
   intro hk
   have hx:(k^^^1)<y.aa.length:=by rw[h.nd];exact sB k n (by omega) hn
   have e:(y.aa.getD k (aB .bg)).live=dm (seed:Int) [bt,5] d false k (nx:Int):=h.lv k (by omega)
   have e2:(y.aa.getD (k^^^1) (aB .bg)).live=dm (seed:Int) [bt,5] d false (k^^^1) (nx:Int):=h.lv (k^^^1) (by rw[←h.nd];exact hx)
   rw[Hs hx,ih (by omega),e,e2]
   show IntKind.i64.wrap (IntKind.i64.wrap ((if d<k then(1:Int)else 0)+((fZ [bt,5] d k).length:Int))-0)=_
   by_cases h1:k=d
   ·subst h1
    rw[oG,if_neg (Nat.lt_irrefl _),if_pos (Nat.lt_succ_self _)]
    show IntKind.i64.wrap (IntKind.i64.wrap (0+1)-0)=1
    decide
   ·rw[oH h1]
    show IntKind.i64.wrap (IntKind.i64.wrap ((if d<k then(1:Int)else 0)+0)-0)=_
    by_cases h2:d<k
    ·rw[if_pos h2,if_pos (by omega)];decide
    ·rw[if_neg h2,if_neg (by omega)];decide
 rw[k1 n (Nat.le_refl _),k2 n (Nat.le_refl _),if_pos hd]
 exact⟨rfl,rfl⟩
end
theorem Zl(s:Nat){rows j b:Nat}(hs:s<2147483647)(hr:rows≤64)(hj:j<rows)(hb:b<24):(dJ (EA (s:Int) (rows:Int)) j b).toNat=mdN s j b:=by
 unfold dJ EA fI
 dsimp only
 rw[cL _ _ _ _ (by omega)]
 unfold oT stream
 rw[cL _ _ _ _ (by show b<24;exact hb)]
 rw[bh (a:=1000*(j:Int)) (by omega),bh (by omega)]
 rw[show(s:Int)+1000*(j:Int)=((s+1000*j:Nat):Int)by omega,show(100:Int)+(b:Int)=((100+b:Nat):Int)by omega,V9,show((Tg (s+1000*j) (100+b):Nat):Int)/256=((Tg (s+1000*j) (100+b)/256:Nat):Int)by omega,Tm];rfl
theorem Zm{a b:UInt8}(h:a≠b):a^^^b≠0:=by
 intro e
 have:(a^^^b)^^^b=0^^^b:=by rw[e]
 rw[UInt8.xor_assoc,UInt8.xor_self,UInt8.xor_zero,UInt8.zero_xor]at this
 exact h this
theorem abF{x:aV}{rows seed k:Nat}(h:okW x=true)(Kp:x.aj.length=3)(hrw:x.rows=(rows:Int))(h2:2≤rows)(hsd:x.seed=(seed:Int))(hrd:x.round=1)(hk:k<3)(hz:nzN seed=true): ∃j b,dJ (Ai x k 0) j b≠0:=by
 have hr:=Db h
 have hn:=SQ h
 have hcc:0≤((0:Nat):Int)∧((0:Nat):Int)<x.aa.length:=by omega
 have hm:=zH h hcc
 have hu:lB x.rows (eu (fF x ((0:Nat):Int)) x.round x.rows) (cZ (fF x ((0:Nat):Int)) x.round x.rows)=true:=by simp only[nI,Bool.and_eq_true]at hm;exact hm.1
 have hws:eW x ((0:Nat):Int)= [((NN seed 1 0:Nat):Int),((NN seed 1 1:Nat):Int)]:=by
  unfold eW
  rw[Kp,hsd,hrd]
  show [kh (seed:Int) [223,1,((0:Nat):Int),((0:Nat):Int)],kh (seed:Int) [223,1,((0:Nat):Int),((1:Nat):Int)]]=_
  rw[show kh (seed:Int) [223,1,((0:Nat):Int),((0:Nat):Int)]=((NN seed 1 0:Nat):Int)from yE seed [223,1,0,0],show kh (seed:Int) [223,1,((0:Nat):Int),((1:Nat):Int)]=((NN seed 1 1:Nat):Int)from yE seed [223,1,0,1]]
 have hlt: ∀q,NN seed 1 q<2147483647:=fun q=>HF.lt _ _
 have hsh:cD x ((0:Nat):Int)= [EA ((NN seed 1 0:Nat):Int) x.rows,EA ((NN seed 1 1:Nat):Int) x.rows,lS x.rows (eu (fF x ((0:Nat):Int)) x.round x.rows) (cZ (fF x ((0:Nat):Int)) x.round x.rows) (eW x ((0:Nat):Int))]:=by
  unfold cD
  rw[lT,if_pos hm,hws];rfl
 simp only[nzN,Bool.and_eq_true]at hz
 obtain⟨z1,z2,z3,z4⟩:=hz
 have one: ∀q,nz1 seed q=true→ ∃j b,dJ (EA ((NN seed 1 q:Nat):Int) x.rows) j b≠0:=by
  intro q hq
  obtain⟨b,hb,hq⟩:=Ee hq
  rw[Bool.not_eq_true']at hq
  refine⟨0,b,fun e=>HC hq ?_⟩
  rw[←Zl (NN seed 1 q) (rows:=rows) (hlt q) (by omega) (by omega) hb, ←hrw,e];rfl
 have KB:k=0∨k=1∨k=2:=by omega
 unfold Ai
 rw[hsh]
 rcases KB with rfl|rfl|rfl
 ·exact one 0 z1
 ·exact one 1 z2
 ·show∃j b,dJ (lS x.rows _ _ _) j b≠0
  have two: ∀j,j<rows→nz2 seed j=true→(eu (fF x ((0:Nat):Int)) x.round x.rows).toNat≠j→ ∃j b,dJ (lS x.rows (eu (fF x ((0:Nat):Int)) x.round x.rows) (cZ (fF x ((0:Nat):Int)) x.round x.rows) (eW x ((0:Nat):Int))) j b≠0:=by
   intro j hj hq hne
   obtain⟨b,hb,hq⟩:=Ee hq
   rw[Bool.not_eq_true']at hq
   refine⟨j,b,?_⟩
   have q:=(Ao (fun s=>EA s x.rows) x.rows.toNat j b (eW x ((0:Nat):Int)) (HN x.rows (eu (fF x ((0:Nat):Int)) x.round x.rows) (cZ (fF x ((0:Nat):Int)) x.round x.rows)) (abj hu) fun s _=>W7 s hr).2
   unfold lS
   rw[q,Ta hu (by omega),if_neg hne,UInt8.zero_xor,hws,dP,dP]
   show dJ _ j b^^^(dJ _ j b^^^0)≠0
   rw[UInt8.xor_zero]
   refine Zm fun e=>HC hq ?_
   rw[←Zl (NN seed 1 0) (rows:=rows) (hlt 0) (by omega) hj hb, ←Zl (NN seed 1 1) (rows:=rows) (hlt 1) (by omega) hj hb, ←hrw,e]
  by_cases e:(eu (fF x ((0:Nat):Int)) x.round x.rows).toNat=0
  ·exact two 1 (by omega) z4 (by omega)
  ·exact two 0 (by omega) z3 e
structure HsF(x y z:aV)(m:List UInt8)(k:Nat)(b:Int):Prop where
 hx:(gb x.aj).length=1
 hy:gb y.aj= []
 rp:y.replaced= [(k:Int)]
 ca:y.cancelled=if b=3 then 0 else 1
 qu:ep z=true
 tx:Kg z 1=mI m
 ib:EI z 1= [m]
theorem Ef{l:List aX}(h: ∀i,i<l.length→(l.getD i (aB .aX)).behavior=0):gb l= []:=by
 unfold gb
 rw[List.filter_eq_nil_iff.2]
 ·rfl
 ·intro s hs
  obtain⟨i,hi,rfl⟩:=Tc (aB .aX) hs
  rw[h i hi];decide
theorem Kk{x:aV}{k:Nat}{b:Int}(hb:LU x k b)(h0:b≠0):(gb x.aj).length=1:=by
 have key: ∀n,n≤x.aj.length→(gb (x.aj.take n)).length=if k<n then 1 else 0:=by
  intro n
  induction n with
  |zero=>intro _;rfl
  |succ n ih=>
   intro hn
   rw[yF _ _ (by omega),List.length_append,ih (by omega),hb.2 n (by omega)]
   by_cases e:n=k
   ·rw[if_pos e,if_neg (by omega),if_pos h0,if_pos (by omega)];rfl
   ·rw[if_neg e]
    show(if k<n then 1 else 0)+(if(0:Int)≠0 then [(x.aj.getD n (aB .aX)).id]else []).length=_
    rw[if_neg (show¬((0:Int)≠0)by decide),List.length_nil,Nat.add_zero]
    by_cases h2:k<n
    ·rw[if_pos h2,if_pos (by omega)]
    ·rw[if_neg h2,if_neg (by omega)]
 have:=key x.aj.length (Nat.le_refl _)
 rw[List.take_length,if_pos hb.1]at this
 exact this
theorem Zn{y:aV}(h1:tB y.aa y.aa.length=1)(h2:HQ y.aa y.aa.length=1):qF y=28:=by unfold qF;rw[h1,h2];decide
theorem Zo{y:aV}(h1:tB y.aa y.aa.length=0)(h2:HQ y.aa y.aa.length=0):qF y=20:=by unfold qF;rw[h1,h2];decide
theorem TF{seed:Nat}{bt:UInt8}{y:aV}{st:Bool}{nx:Nat}(h:LO 24 (seed:Int) [bt,5] 2 0 y 3 st nx)(hq: ∀j,j<28→Zk 24 seed 2 0 (yK 24 seed 2 0 st 3 j) (3+j)=true)(he:yK 24 seed 2 0 st 3 28=true):ep (b9 y (qE (qF y)))=true∧Kg (b9 y (qE (qF y))) 1=mI [bt,5]∧EI (b9 y (qE (qF y))) 1= [[bt,5]]:=by
 have fin: ∀k,k≤28→yK 24 seed 2 0 st 3 k=true→ep (b9 y k)=true∧Kg (b9 y k) 1=mI [bt,5]∧EI (b9 y k) 1= [[bt,5]]:=by
  intro k hk hs
  obtain⟨nx',q⟩:=Xg (rows:=24) h (by decide) k (by omega) fun j hj=>hq j (by omega)
  rw[hs]at q
  have hi:EI (b9 y k) 1= [[bt,5]]:=by
   have:=q.lv 1 (by decide)
   show(fF (b9 y k) ((1:Nat):Int)).inbox=_
   rw[this];rfl
  have hok:HD (b9 y k) 1=true:=by
   unfold HD
   rw[hi,(HE (by rw[q.nd];decide)).2 (by rw[q.nd];decide)];rfl
  refine⟨(quiet_of q.nd q.lv).2.2,?_,hi⟩
  unfold Kg
  rw[if_pos hok,hi];rfl
 cases st with
 |true=>
  have hl:=h.lv
  obtain⟨p1,p2,_⟩:=quiet_of h.nd hl
  rw[Zo (by rw[h.nd];exact p1) (by rw[h.nd];exact p2),show qE 20=20 by decide]
  exact fin 20 (by decide) (Kj _ _)
 |false=>
  obtain⟨p1,p2⟩:=Ph (rows:=24) h.toAt (by decide) (by decide)
  rw[Zn (by rw[h.nd];exact p1) (by rw[h.nd];exact p2),show qE 28=28 by decide]
  exact fin 28 (by decide) he
theorem Zp(w:aV)(k:Nat)(s:aX):(DQ w k s).rows=w.rows∧(DQ w k s).aa=w.aa∧(DQ w k s).round=w.round∧(DQ w k s).az=w.az∧(DQ w k s).replaced=w.replaced∧(DQ w k s).cancelled=w.cancelled∧(DQ w k s).seed=w.seed∧(DQ w k s).aj=w.aj.set k s:=⟨rfl,rfl,rfl,rfl,rfl,rfl,rfl,rfl⟩
theorem Wj{w y:aV}(h:y.aa=w.aa)(i:Int):fF y i=fF w i:=by unfold fF;rw[h]
theorem Zq{seed k:Nat}{bt:UInt8}{b:Int}(hk:k<3)(hb:b=1∨b=2∨b=3)(hc:As seed=true):
  Hl (dO 24 3 1 (seed:Int)) 0 [bt,5]=true∧xV (bE (qC (dO 24 3 1 (seed:Int)) 0 [bt,5])) (k:Int) b=true∧
  HsF (wg (bE (qC (dO 24 3 1 (seed:Int)) 0 [bt,5])) (k:Int) b) (b9 (wg (bE (qC (dO 24 3 1 (seed:Int)) 0 [bt,5])) (k:Int) b) 2) (b9 (b9 (wg (bE (qC (dO 24 3 1 (seed:Int)) 0 [bt,5])) (k:Int) b) 2) (qE (qF (b9 (wg (bE (qC (dO 24 3 1 (seed:Int)) 0 [bt,5])) (k:Int) b) 2)))) [bt,5] k b∧wh (wg (bE (qC (dO 24 3 1 (seed:Int)) 0 [bt,5])) (k:Int) b) 1:=by
 obtain⟨f1,f2,f3,f4,f5,f6,f7⟩:=Kb (rows:=24) (seed:=(seed:Int)) (s:=3) (p:=1) (d:=0) (m:= [bt,5]) (by decide) (by decide) (by decide) (by decide) (m2 bt)
 have f2:LO ((24:Nat):Int) (seed:Int) [bt,5] 2 0 (qC (dO 24 3 1 (seed:Int)) ((0:Nat):Int) [bt,5]) 0 false 0:=f2
 change Hl (dO 24 3 1 (seed:Int)) 0 [bt,5]=true at f1
 simp only[As,Bool.and_eq_true]at hc
 obtain⟨g1,g2,g3⟩:=hc
 obtain⟨A1,A2⟩:=HH 31 0 false g1
 obtain⟨B1,B2⟩:=HH 29 2 _ g2
 have hr0:=f2.Y4 (by decide)
 have h1:=f2.mk' (by decide) (f2.toAt.Ki hr0.1 (by decide) (by decide) (A1 0 (by decide)))
 have hD1:=f7.rd (by decide)
 have e1:(bE (qC (dO 24 3 1 (seed:Int)) ((0:Nat):Int) [bt,5])).aj.length=3:=hr0.2.1.ns.trans f5
 have e2:(bE (qC (dO 24 3 1 (seed:Int)) ((0:Nat):Int) [bt,5])).replaced= []:=hr0.2.1.Bp.trans f3
 have e3:(bE (qC (dO 24 3 1 (seed:Int)) ((0:Nat):Int) [bt,5])).cancelled=0:=hr0.2.1.lF.trans f4
 have e4:(bE (qC (dO 24 3 1 (seed:Int)) ((0:Nat):Int) [bt,5])).seed=(seed:Int):=hr0.2.1.seed.trans f6
 refine⟨f1,?_⟩
 change xV (bE (qC (dO 24 3 1 (seed:Int)) ((0:Nat):Int) [bt,5])) (k:Int) b=true∧HsF (wg (bE (qC (dO 24 3 1 (seed:Int)) ((0:Nat):Int) [bt,5])) (k:Int) b) (b9 (wg (bE (qC (dO 24 3 1 (seed:Int)) ((0:Nat):Int) [bt,5])) (k:Int) b) 2) (b9 (b9 (wg (bE (qC (dO 24 3 1 (seed:Int)) ((0:Nat):Int) [bt,5])) (k:Int) b) 2) (qE (qF (b9 (wg (bE (qC (dO 24 3 1 (seed:Int)) ((0:Nat):Int) [bt,5])) (k:Int) b) 2)))) [bt,5] k b∧wh (wg (bE (qC (dO 24 3 1 (seed:Int)) ((0:Nat):Int) [bt,5])) (k:Int) b) 1
 generalize bE (qC (dO 24 3 1 (seed:Int)) ((0:Nat):Int) [bt,5])=w at*
 have wK:xV w (k:Int) b=true:=by
  unfold xV
  rw[h1.ok,Bool.true_and,Bool.and_eq_true,bN,bN,e1,bh (by decide)]
  omega
 have hDx:wh (wg w (k:Int) b) (0+1):=hD1.co
 have BU:wg w (k:Int) b=DQ w k (TZ (w.aj.getD k (aB .aX)) b):=by
  unfold wg
  rw[if_pos wK];rfl
 refine⟨wK,?_,hDx⟩
 have Pp:=hDx.ok
 have hbad:LU (wg w (k:Int) b) k b:=by
  rw[BU]
  refine⟨by show k<(w.aj.set _ _).length;rw[List.length_set];omega,fun i hi=> ?_⟩
  have hi':i<w.aj.length:=by have:i<(w.aj.set k (TZ (w.aj.getD k (aB .aX)) b)).length:=hi;rw[List.length_set]at this;exact this
  show((w.aj.set k (TZ (w.aj.getD k (aB .aX)) b)).getD i (aB .aX)).behavior=_
  rw[fP _ _ hi']
  by_cases e:k=i
  ·rw[if_pos e,if_pos e.symm];rfl
  ·rw[if_neg e,if_neg fun q=>e q.symm]
   exact h1.hon i hi'
 have hf:=Zp w k (TZ (w.aj.getD k (aB .aX)) b)
 rw[←BU]at hf
 obtain⟨z1,z2,z3,z4,z5,z6,z7,z8⟩:=hf
 have Av:At ((24:Nat):Int) (seed:Int) [bt,5] 2 0 (wg w (k:Int) b) 1 (or false (qJ 24 seed 2 0 0)) 1:=
  ⟨Pp,z1.trans h1.rows,(congrArg List.length z2).trans h1.nd,z3.trans h1.toAt.round,by rw[z4];exact h1.FF,Nat.le_refl _,fun i hi=>(Wj z2 i).trans (h1.lv i hi)⟩
 have x1:(wg w (k:Int) b).replaced= []:=z5.trans e2
 have x2:(wg w (k:Int) b).cancelled=0:=z6.trans e3
 have x3:(wg w (k:Int) b).aj.length=3:=by rw[z8,List.length_set];exact e1
 have x4:(wg w (k:Int) b).seed=(seed:Int):=z7.trans e4
 clear z1 z2 z3 z4 z5 z6 z7 z8 BU
 generalize wg w (k:Int) b=x at*
 have b0:b≠0:=by omega
 have hx:=Kk hbad b0
 have Eg:x.round=1:=Av.round
 have hnx: ∀i:Nat,i<x.aa.length→bR x.az<(fF x (i:Int)).next∧(fF x (i:Int)).next≤x.round:=fun i hi=>by
  rw[Av.lv i (by rw[←Av.nd];exact hi),Eg]
  exact⟨Av.FF,Int.le_refl _⟩
 by_cases h3:b=3
 ·subst h3
  obtain⟨q1,q2,q3⟩:=Pe Pp hbad (by omega) (by omega) hnx
  have hy1:LO ((24:Nat):Int) (seed:Int) [bt,5] 2 0 (bE x) 2 (yK 24 seed 2 0 false 0 2) 2:=by
   refine⟨⟨q1.ok,by rw[q1.rows];exact Av.rows,by rw[q1.nd];exact Av.nd,by rw[q1.round,Eg];rfl,by rw[q2,Eg];decide,Nat.le_refl _,?_⟩,q1.hon,by rw[q1.lF,x2];decide⟩
   exact Av.Ki q3 (by decide) (by decide) (A1 1 (by decide))
  have yL:=hy1.Y4 (by decide)
  have WG:=hy1.mk' (by decide) (hy1.toAt.Ki yL.1 (by decide) (by decide) (A1 2 (by decide)))
  have he:=TF (st:=yK 24 seed 2 0 false 0 3) WG (fun j hj=>by
   have:=A1 (3+j) (by omega)
   rw[Nat.zero_add]at this
   rw[←show yK 24 seed 2 0 false 0 (3+j)=yK 24 seed 2 0 (yK 24 seed 2 0 false 0 3) 3 j from yG 3 j]
   exact this) (by rw[←yG 3 28];exact A2)
  exact⟨hx,Ef WG.hon,by show(bE (bE x)).replaced=_;rw[yL.2.1.Bp,q1.Bp,x1];rfl,by show(bE (bE x)).cancelled=_;rw[yL.2.1.lF,q1.lF,x2];rfl,he.1,he.2.1,he.2.2⟩
 ·have hp: ¬(fQ (ef x x.aa.length k)).rows=(jZ (ef x x.aa.length k)).rows:=by
   rcases hb with rfl|rfl|rfl
   ·obtain⟨j,c,hne⟩:=abF (rows:=24) (k:=k) Pp x3 Av.rows (by decide) x4 Eg hk g3
    exact Ty Pp hbad hne
   ·exact Wf Pp hbad
   ·exact absurd rfl h3
  obtain⟨q1,q2,q3⟩:=LV Pp hbad hp (by omega) (by omega) fun i hi=>(hnx i hi).1
  have hy1:LO ((24:Nat):Int) (seed:Int) [bt,5] 2 0 (bE x) 2 (or false (qJ 24 seed 2 0 0)) 1:=by
   refine⟨⟨q1.ok,by rw[q1.rows];exact Av.rows,by rw[q1.nd];exact Av.nd,by rw[q1.round,Eg];rfl,by rw[q2];exact Av.FF,by decide,?_⟩,q1.hon,by rw[q1.lF,x2];decide⟩
   intro i hi
   rw[q3 i (by rw[Av.nd];exact hi)]
   exact Av.lv i hi
  have yL:=hy1.Y4 (by decide)
  have WG:=hy1.mk' (by decide) (hy1.toAt.Ki yL.1 (by decide) (by decide) (B1 0 (by decide)))
  have he:=TF (st:=yK 24 seed 2 0 (or false (qJ 24 seed 2 0 0)) 2 1) WG (fun j hj=>by
   have:=B1 (1+j) (by omega)
   rw[show 2+(1+j)=3+j by omega]at this
   rw[←show yK 24 seed 2 0 (or false (qJ 24 seed 2 0 0)) 2 (1+j)=yK 24 seed 2 0 (yK 24 seed 2 0 (or false (qJ 24 seed 2 0 0)) 2 1) 3 j from yG 1 j]
   exact this) (by rw[←yG 1 28];exact B2)
  exact⟨hx,Ef WG.hon,by show(bE (bE x)).replaced=_;rw[yL.2.1.Bp,q1.Bp,x1];rfl,by show(bE (bE x)).cancelled=_;rw[yL.2.1.lF,q1.lF,x2,if_neg h3];rfl,he.1,he.2.1,he.2.2⟩
end
end
section
set_option maxRecDepth 100000
theorem hk0:ga (fun s=>As (Nat.add 0 s)) 32=true:=by decide+kernel
theorem hk1:ga (fun s=>As (Nat.add 32 s)) 32=true:=by decide+kernel
theorem hk2:ga (fun s=>As (Nat.add 64 s)) 32=true:=by decide+kernel
theorem KB:ga (fun s=>As (Nat.add 96 s)) 32=true:=by decide+kernel
theorem hk4:ga (fun s=>As (Nat.add 128 s)) 32=true:=by decide+kernel
theorem hk5:ga (fun s=>As (Nat.add 160 s)) 32=true:=by decide+kernel
theorem hk6:ga (fun s=>As (Nat.add 192 s)) 32=true:=by decide+kernel
theorem hk7:ga (fun s=>As (Nat.add 224 s)) 32=true:=by decide+kernel
theorem TG{seed:Nat}(h:seed<256):As seed=true:=by
 have key: ∀q,q≤seed→seed<q+32→ga (fun s=>As (Nat.add q s)) 32=true→As seed=true:=by
  intro q h1 h2 h3
  have h4:=fB h3 (seed-q) (by omega)
  rwa [show Nat.add q (seed-q)=seed by show q+(seed-q)=seed;omega]at h4
 rcases(by omega:(0≤seed∧seed<32)∨(32≤seed∧seed<64)∨(64≤seed∧seed<96)∨(96≤seed∧seed<128)∨(128≤seed∧seed<160)∨(160≤seed∧seed<192)∨(192≤seed∧seed<224)∨(224≤seed∧seed<256))with⟨h1,h2⟩| ⟨h1,h2⟩| ⟨h1,h2⟩| ⟨h1,h2⟩| ⟨h1,h2⟩| ⟨h1,h2⟩| ⟨h1,h2⟩| ⟨h1,h2⟩
 ·exact key 0 h1 h2 hk0
 ·exact key 32 h1 h2 hk1
 ·exact key 64 h1 h2 hk2
 ·exact key 96 h1 h2 KB
 ·exact key 128 h1 h2 hk4
 ·exact key 160 h1 h2 hk5
 ·exact key 192 h1 h2 hk6
 ·exact key 224 h1 h2 hk7
end
end Go.Proofs.YtkcegdacbddipaaGreat.G
