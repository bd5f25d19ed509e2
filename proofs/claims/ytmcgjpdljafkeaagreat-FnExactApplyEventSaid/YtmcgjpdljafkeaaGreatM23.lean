/-
  Events: what the two programs look at. No program in sight.
-/
import Derived.Test.YtmcgjpdljafkeaaGreatM12
import Derived.Test.YtmcgjpdljafkeaaGreatM19
namespace Go.Proofs.YtmcgjpdljafkeaaGreat.G
set_option linter.all false
open Go.RowKit L D
section
def Ky(c:dV)(b:List UInt8):dV:=⟨c.id,c.e9,c.key,c.seed,c.aq++ [b],c.sent,c.inbox,c.next⟩
def pE(c:dV)(b:List UInt8):Bool:=dH c&&dH (Ky c b)
def uj(c:dV)(b:List UInt8):dV:=if pE c b then Ky c b else c
def qS(d:aL)(b:List UInt8):Bool:=(dB d&&pE d.live b)&&pE d.saved b
def AO(d:aL)(b:List UInt8):aL:=if qS d b then⟨uj d.live b,uj d.saved b⟩else d
def Jm(d:aL):aL:=if dB d then⟨d.saved,d.saved⟩else d
def IN(x:aN)(i:Nat)(d:aL):aN:=⟨x.rows,x.aj,x.aa.set i d,x.ak,x.az,x.seed,x.round,x.replaced,x.cancelled⟩
def Xr(x:aN)(i:Nat)(s:aU):aN:=⟨x.rows,x.aj.set i s,x.aa,x.ak,x.az,x.seed,x.round,x.replaced,x.cancelled⟩
def cF(x:aN)(c:Int):Bool:=okW x&&jh x c
def AP(x:aN)(c:Int):aL:=x.aa.getD c.toNat (av .aL)
def DT(x:aN)(c:Int)(b:List UInt8):Bool:=cF x c&&qS (AP x c) b
def Mb(x:aN)(c:Int)(b:List UInt8):aN:=if cF x c then IN x c.toNat (AO (AP x c) b)else x
def Ny(x:aN)(c:Int):aN:=if cF x c then IN x c.toNat (Jm (AP x c))else x
def Gt(x:aN)(c:Int):aN:=if cF x c then IN x c.toNat (E1 (AP x c))else x
def Z0(s:aU)(b:Int):aU:=⟨s.id,s.rows,s.round,s.received,b⟩
def nv(x:aN)(i b:Int):Bool:=(okW x&&inr i 0 (IntKind.i64.wrap ((x.aj.length:Int)-1)))&&inr b 0 3
def Nz(x:aN)(i b:Int):aN:=if nv x i b then Xr x i.toNat (Z0 (x.aj.getD i.toNat (av .aU)) b)else x
def gx(x:aN)(e:Ev):Bool:=okW x&&(if e.kind=1 then decide (x.round<99999)else if e.kind=2 then DT x e.node e.body else if e.kind=3 then cF x e.node else if e.kind=4 then nv x e.node e.value else if e.kind=5 then cF x e.node else false)
def nx(x:aN)(e:Ev):aN:=if e.kind=1 then cP x else if e.kind=2 then Mb x e.node e.body else if e.kind=3 then Ny x e.node else if e.kind=4 then Nz x e.node e.value else if e.kind=5 then Gt x e.node else x
theorem Vy{x:aN}{e:Ev}(h:okW x=false):nx x e=x:=by
 have h1:jF x=false:=by unfold jF;rw[h];rfl
 have h2:cF x e.node=false:=by unfold cF;rw[h];rfl
 have h3:nv x e.node e.value=false:=by unfold nv;rw[h];rfl
 have n1: ¬jF x=true:=by rw[h1];decide
 have n2: ¬cF x e.node=true:=by rw[h2];decide
 have n3: ¬nv x e.node e.value=true:=by rw[h3];decide
 unfold nx
 rw[cP,if_neg n1,Mb,if_neg n2,Ny,if_neg n2,Nz,if_neg n3,Gt,if_neg n2]
 simp
theorem S7{x:aN}{e:Ev}(h:okW x=false):gx x e=false:=by unfold gx;rw[h];rfl
theorem Kz{x:aN}{n i:Nat}{d:aL}(h:okW x=true)(hw:wC x n)(hd:uh d):wC (IN x i d) n:=by
 refine⟨hw.1,?_,hw.2.2.1,hw.2.2.2⟩
 have h1:bL aJ (x.aa.set i d)≤(960+1)*8:=by
  refine IK aJ 960 8 _ (fun y hy=> ?_) (by rw[List.length_set];exact(qi (mT h)).2.1)
  rcases List.mem_or_eq_of_mem_set hy with h2|h2
  ·exact mF (L9 h y h2)
  ·subst h2;exact mF hd
 exact Nat.le_trans h1 (by decide)
theorem j0{x:aN}{c:Int}(h:cF x c=true):okW x=true∧0≤c∧c<x.aa.length:=by
 simp only[cF,jh,Bool.and_eq_true,an]at h
 exact⟨h.1,by omega⟩
theorem Gu{x:aN}{c:Int}(h:cF x c=true):uh (AP x c):=by
 obtain⟨h1,h2⟩:=j0 h
 exact L9 h1 _ (getD_in _ (by omega))
theorem QW{c:dV}{b:List UInt8}(h:IL c):IL (uj c b):=by
 unfold uj
 split
 ·rename_i hk
  simp only[pE,Bool.and_eq_true]at hk
  exact xR hk.2
 ·exact h
theorem Vz{d:aL}{b:List UInt8}(h:uh d):uh (AO d b):=by
 unfold AO
 split
 ·exact⟨QW h.1,QW h.2⟩
 ·exact h
theorem Xs{d:aL}(h:uh d):uh (Jm d):=by
 unfold Jm
 split
 ·exact⟨h.2,h.2⟩
 ·exact h
theorem Xt{d:aL}(h:uh d):uh (E1 d):=by
 unfold E1
 split
 ·exact⟨h.1,h.1⟩
 ·exact h
theorem Xu{x:aN}{c:Int}{b:List UInt8}{n:Nat}(h:wC x n):wC (Mb x c b) n:=by
 unfold Mb
 split
 ·rename_i hk;exact Kz (j0 hk).1 h (Vz (Gu hk))
 ·exact h
theorem Xv{x:aN}{c:Int}{n:Nat}(h:wC x n):wC (Ny x c) n:=by
 unfold Ny
 split
 ·rename_i hk;exact Kz (j0 hk).1 h (Xs (Gu hk))
 ·exact h
theorem Xw{x:aN}{c:Int}{n:Nat}(h:wC x n):wC (Gt x c) n:=by
 unfold Gt
 split
 ·rename_i hk;exact Kz (j0 hk).1 h (Xt (Gu hk))
 ·exact h
theorem KA{x:aN}{i b:Int}(h:nv x i b=true):okW x=true∧(0≤i∧i<x.aj.length)∧0≤b∧b≤3:=by
 simp only[nv,Bool.and_eq_true,an]at h
 have:=eu h.1.1
 rw[cC (a:=(x.aj.length:Int)-1) (by omega)]at h
 exact⟨h.1.1,by omega,h.2⟩
theorem Xx{x:aN}{i b:Int}{n:Nat}(h:wC x n):wC (Nz x i b) n:=by
 unfold Nz
 split
 ·rename_i hk
  obtain⟨h1,h2,_⟩:=KA hk
  refine⟨vQ ⟨by show(x.aj.set _ _).length≤4;rw[List.length_set];exact(eu h1).1,fun s hs=> ?_⟩,h.2.1,h.2.2.1,h.2.2.2⟩
  rcases List.mem_or_eq_of_mem_set hs with h3|h3
  ·exact oZ h1 s h3
  ·subst h3
   have hin:=getD_in (av .aU) (show i.toNat<x.aj.length by omega)
   show(x.aj.getD i.toNat (av .aU)).received= []
   exact oZ h1 _ hin
 ·exact h
theorem TM{x:aN}{e:Ev}{n:Nat}(h:wC x n):wC (nx x e) (n+8):=by
 have hm: ∀{y:aN},wC y n→wC y (n+8):=fun q=>dO q (Nat.le_add_right _ _)
 unfold nx
 split
 ·exact Dk h
 ·split
  ·exact hm (Xu h)
  ·split
   ·exact hm (Xv h)
   ·split
    ·exact hm (Xx h)
    ·split
     ·exact hm (Xw h)
     ·exact hm h
end
section
theorem Mr{c:dV}{b:List UInt8}(h:pE c b=false):uj c b=c:=by rw[uj,h];rfl
theorem I5{c:dV}{b:List UInt8}(h:pE c b=true):uj c b=Ky c b:=by rw[uj,if_pos h]
theorem GD{d:aL}{b:List UInt8}(h:qS d b=false):AO d b=d:=by rw[AO,h];rfl
theorem I6{d:aL}{b:List UInt8}(h:qS d b=true):AO d b=⟨uj d.live b,uj d.saved b⟩:=by rw[AO,if_pos h]
theorem Rb{α:Type}(l:List α)(i:Nat)(d:α)(h:i<l.length):l.set i (l.getD i d)=l:=by
 rw[List.getD_eq_getElem?_getD,List.getElem?_eq_getElem h]
 exact List.set_getElem_self h
theorem zR{x:aN}{c:Int}(h:cF x c=true):aJ (x.aa.getD c.toNat (av .aL))≤1048576:=by
 have:=mF (Gu h)
 unfold AP at this
 omega
theorem Rc{x:aN}{c:Int}{b:List UInt8}(h:cF x c=false):Mb x c b=x∧DT x c b=false:=⟨by rw[Mb,h];rfl,by rw[DT,h];rfl⟩
theorem GF{x:aN}{c:Int}{b:List UInt8}(h:cF x c=true):Mb x c b=IN x c.toNat (AO (AP x c) b)∧DT x c b=qS (AP x c) b:=⟨by rw[Mb,if_pos h],by rw[DT,h,Bool.true_and]⟩
theorem Rd{x:aN}{c:Int}{b:List UInt8}(h:cF x c=true)(hs:qS (AP x c) b=false):Mb x c b=x:=by
 rw[(GF h).1,GD hs]
 obtain⟨_,h1,h2⟩:=j0 h
 unfold IN AP
 rw[Rb _ _ _ (by omega)]
theorem Re{x:aN}{c:Int}(h:cF x c=false):Ny x c=x:=by rw[Ny,h];rfl
theorem Ms{x:aN}{c:Int}(h:cF x c=true):Ny x c=IN x c.toNat (Jm (AP x c)):=by rw[Ny,if_pos h]
theorem Rf{x:aN}{c:Int}(h:cF x c=false):Gt x c=x:=by rw[Gt,h];rfl
theorem Mt{x:aN}{c:Int}(h:cF x c=true):Gt x c=IN x c.toNat (E1 (AP x c)):=by rw[Gt,if_pos h]
theorem Rg{x:aN}{i b:Int}(h:nv x i b=false):Nz x i b=x:=by rw[Nz,h];rfl
theorem Mu{x:aN}{i b:Int}(h:nv x i b=true):Nz x i b=Xr x i.toNat (Z0 (x.aj.getD i.toNat (av .aU)) b):=by rw[Nz,if_pos h]
theorem TR{x:aN}{e:Ev}(h:okW x=false):nx x e=x∧gx x e=false:=⟨Vy h,S7 h⟩
theorem XF{x:aN}{e:Ev}(h:okW x=true)(h1:e.kind=1):nx x e=cP x∧gx x e=decide (x.round<99999):=⟨by rw[nx,if_pos h1],by rw[gx,h,if_pos h1,Bool.true_and]⟩
theorem XG{x:aN}{e:Ev}(h:okW x=true)(h1:e.kind=2):nx x e=Mb x e.node e.body∧gx x e=DT x e.node e.body:=by
 unfold nx gx
 rw[h,Bool.true_and,if_neg (by omega),if_pos h1,if_neg (by omega),if_pos h1]
 exact⟨rfl,rfl⟩
theorem XH{x:aN}{e:Ev}(h:okW x=true)(h1:e.kind=3):nx x e=Ny x e.node∧gx x e=cF x e.node:=by
 unfold nx gx
 rw[h,Bool.true_and,if_neg (by omega),if_neg (by omega),if_pos h1,if_neg (by omega),if_neg (by omega),if_pos h1]
 exact⟨rfl,rfl⟩
theorem XI{x:aN}{e:Ev}(h:okW x=true)(h1:e.kind=4):nx x e=Nz x e.node e.value∧gx x e=nv x e.node e.value:=by
 unfold nx gx
 rw[h,Bool.true_and,if_neg (by omega),if_neg (by omega),if_neg (by omega),if_pos h1,if_neg (by omega),if_neg (by omega),if_neg (by omega),if_pos h1]
 exact⟨rfl,rfl⟩
theorem XJ{x:aN}{e:Ev}(h:okW x=true)(h1:e.kind=5):nx x e=Gt x e.node∧gx x e=cF x e.node:=by
 unfold nx gx
 rw[h,Bool.true_and,if_neg (by omega),if_neg (by omega),if_neg (by omega),if_neg (by omega),if_pos h1,if_neg (by omega),if_neg (by omega),if_neg (by omega),if_neg (by omega),if_pos h1]
 exact⟨rfl,rfl⟩
theorem XK{x:aN}{e:Ev}(h:okW x=true)(h1: ¬e.kind=1)(h2: ¬e.kind=2)(h3: ¬e.kind=3)(h4: ¬e.kind=4)(h5: ¬e.kind=5):nx x e=x∧gx x e=false:=by
 unfold nx gx
 rw[h,Bool.true_and,if_neg h1,if_neg h2,if_neg h3,if_neg h4,if_neg h5,if_neg h1,if_neg h2,if_neg h3,if_neg h4,if_neg h5]
 exact⟨rfl,rfl⟩
theorem yp{x:aN}{c:Int}(h:okW x=true):cF x c=jh x c:=by rw[cF,h,Bool.true_and]
end
end Go.Proofs.YtmcgjpdljafkeaaGreat.G
