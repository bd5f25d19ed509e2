/- Steps. -/
import Derived.Deep.MidRow
import Derived.Deep.Slices
import Derived.Lib.Hide
import Derived.WalkKit
import Derived.WalkLawsBesides
import Derived.WalkSpells
open Array renaming getElem?_eq_some_iff→dZ
open List renaming getElem?_drop→dc,getElem?_eq_getElem→az,getElem?_eq_some_iff→aU,getElem?_take→dH,mem_append→bg,mem_cons→bh,mem_cons_of_mem→aE,mem_flatten→nP
namespace Go.Proofs.YtaalpcnbbldlaaaGreatDoor.L
set_option linter.all false
open Go.RowKit
section
theorem J.{u}{α:Sort u}{a:α}:a=a:=rfl
theorem eY{P A1:Prop}(t1:A1)(h:A1→P:=by intro u1;(with_reducible and_intros)<;>first|exact⟨⟩|exact u1):P:=h t1
theorem fj{P:Prop}(h:P:=by first|assumption|omega| (simp;done)| (simp;omega)):P:=h
theorem aJ{P:Prop}(h:P:=by omega):P:=h
theorem je{P:Prop}(h:P:=by and_intros<;>first|exact⟨⟩| (intros;omega)):P:=h
theorem sj{P:Prop}(h:P:=by and_intros<;>first|exact⟨⟩| (rw[hO]<;>rfl;done)):P:=h
theorem qM{P:Prop}(h:P:=by(with_reducible and_intros)<;>first|exact⟨⟩|exact t1):P:=h
theorem qb{P:Prop}(h:P:=by and_intros<;>first|exact⟨⟩|exact rfl):P:=h
theorem Ga{P:Prop}(h:P:=by and_intros<;>first|exact⟨⟩|exact rfl| (simp only[vI,maxLen,lens];omega)):P:=h
theorem Km{P A1 A2:Prop}(t1:A1)(t2:A2)(h:A1→A2→P:=by intro u1 u2;(with_reducible and_intros);(iterate 2 all_goals try first|exact⟨⟩|exact u1|exact fun _=>u2)):P:=h t1 t2
theorem CW{P:Prop}(h:P:=by(with_reducible and_intros)<;>first|exact⟨⟩|exact t1| (intros;omega)):P:=h
theorem Ut{P A1 A2 A3:Prop}(t1:A1)(t2:A2)(t3:A3)(h:A1→A2→A3→P:=by intro u1 u2 u3;(with_reducible and_intros);(iterate 3 all_goals try first|exact⟨⟩|exact u1|exact fun _=>u2|exact fun _=>u3)):P:=h t1 t2 t3
theorem cO{P:Prop}(h:P:=by decide):P:=h
theorem qqm{P:Prop}(h:P:=by and_intros<;>first|exact⟨⟩| (intros;omega)|exact rfl| (simp only[vI,maxLen,lens];omega)):P:=h
theorem OH{P A1:Prop}(t1:A1)(h:A1→P:=by intro u1;(with_reducible and_intros)<;>first|exact⟨⟩|exact u1| (intros;omega)):P:=h t1
theorem HS{P:Prop}(h:P:=by simp only[gI]<;>first|rfl|ac_rfl):P:=h
theorem fI{P:Prop}(h:P:=by simp):P:=h
theorem Uu{P A1:Prop}(t1:A1)(h:A1→P:=by intro u1;(with_reducible and_intros)<;>first|exact⟨⟩|exact u1 ..):P:=h t1
theorem qqr{P:Prop}(h:P:=by and_intros<;>first|exact⟨⟩| (rw[hv.1];done)| (rw[hv.2];done)):P:=h
theorem gq{P:Prop}(h:P:=by kernel_rfl):P:=h
theorem gA{P:Prop}(h:P:=by trivial):P:=h
theorem qqu{P A1 A2:Prop}(t1:A1)(t2:A2)(h:A1→A2→P:=by intro u1 u2;(with_reducible and_intros);(iterate 2 all_goals try first|exact⟨⟩|exact u1|exact u2)):P:=h t1 t2
theorem qqv{P:Prop}(h:P:=by simp only[ByteArray.size_append,adN,BR];omega):P:=h
theorem qqw{P:Prop}(h:P:=by rw[hL]<;>first|rfl| (simp only[←jf]<;>rfl)):P:=h
theorem qqx{P:Prop}(h:P:=by and_intros<;>first|exact⟨⟩| (rw[hq];done)| (rw[hk];done)):P:=h
theorem qqy{P:Prop}(h:P:=by(with_reducible and_intros)<;>first|exact⟨⟩|exact t1|exact rfl):P:=h
theorem qqz{P A1:Prop}(t1:A1)(h:A1→P:=by intro u1;(with_reducible and_intros)<;>first|exact⟨⟩|exact fun _=>u1):P:=h t1
theorem Uv{P A1:Prop}(t1:A1)(h:A1→P:=by intro u1;(with_reducible and_intros);(iterate 2 all_goals try first|exact⟨⟩|exact u1|exact t1)):P:=h t1
theorem M7{P:Prop}(h:P:=by and_intros<;>first|exact⟨⟩| (rw[hc];done)):P:=h
theorem axm{P:Prop}(h:P:=by(with_reducible and_intros)<;>first|exact⟨⟩|exact fun _=>t1| ((intro h1;first| (intro h2;first| (intro h3;refine And.intro ?_ ?_)|refine And.intro ?_ ?_)|refine And.intro ?_ ?_)<;>first|omega| ((try simp only[SQ]at*);(try simp(disch:=omega) only[cY]);omega))):P:=h
theorem ajZ{P A1 A2 A3 A4:Prop}(t1:A1)(t2:A2)(t3:A3)(t4:A4)(h:A1→A2→A3→A4→P:=by intro u1 u2 u3 u4;(with_reducible and_intros);(iterate 4 all_goals try first|exact⟨⟩|exact u1|exact fun _=>u2|exact fun _=>u3|exact fun _=>u4)):P:=h t1 t2 t3 t4
theorem wH{P:Prop}(h:P:=by rw[hN]<;>rfl):P:=h
theorem ag0{P:Prop}(h:P:=by and_intros<;>first|exact⟨⟩| (intros;omega)|exact(Uw _).1|exact(Uw _).2):P:=h
theorem ag2{P:Prop}(h:P:=by and_intros<;>first|exact⟨⟩| (rw[hq];rfl;done)| (rw[hk];done)):P:=h
theorem Kq{P:Prop}(h:P:=by simp[oL,Value.cells,Value.oneCell']):P:=h
theorem wI{P:Prop}(h:P:=by simp[Op.operands]):P:=h
theorem Xt{P:Prop}(h:P:=by and_intros<;>first|exact⟨⟩| (rw[hd];done)):P:=h
theorem Xu{P:Prop}(h:P:=by and_intros<;>first|exact⟨⟩| (rw[hn];done)):P:=h
theorem aqs{P:Prop}(h:P:=by and_intros<;>first|exact⟨⟩|exact rfl|exact(Uw _).1|exact(Uw _).2| (simp only[vI,maxLen,lens];omega)):P:=h
theorem OI{P:Prop}(h:P:=by rw[←hall,List.take_of_length_le hb0]):P:=h
theorem Xv{P:Prop}(h:P:=by simp only[tM,gI]<;>first|rfl|ac_rfl):P:=h
theorem Xw{P:Prop}(h:P:=by simp only[tD,gI]<;>first|rfl|ac_rfl):P:=h
theorem aAV{P A1 A2:Prop}(t1:A1)(t2:A2)(h:A1→A2→P:=by intro u1 u2;(with_reducible and_intros);(iterate 2 all_goals try first|exact⟨⟩|exact u1|exact fun _=>u2);all_goals first| ((intro h1;first| (intro h2;first| (intro h3;refine And.intro ?_ ?_)|refine And.intro ?_ ?_)|refine And.intro ?_ ?_)<;>first|omega| ((try simp only[SQ]at*);(try simp(disch:=omega) only[cY]);omega))):P:=h t1 t2
theorem aAW{P A1:Prop}(t1:A1)(h:A1→P:=by intro u1;(with_reducible and_intros);(iterate 2 all_goals try first|exact⟨⟩|exact t1|exact fun _=>u1);all_goals first| ((intro h1;first| (intro h2;first| (intro h3;refine And.intro ?_ ?_)|refine And.intro ?_ ?_)|refine And.intro ?_ ?_)<;>first|omega| ((try simp only[SQ]at*);(try simp(disch:=omega) only[cY]);omega))):P:=h t1
theorem Ux{P:Prop}(h:P:=by unfold AG;rw[jO,jO];exact hcb):P:=h
theorem aqt{P A1:Prop}(t1:A1)(h:A1→P:=by intro u1;(with_reducible and_intros);(iterate 2 all_goals try first|exact⟨⟩|exact u1|exact t1);all_goals first| (intros;omega)):P:=h t1
theorem aAX{P A1:Prop}(t1:A1)(h:A1→P:=by intro u1;(with_reducible and_intros)<;>first|exact⟨⟩|exact u1| ((intro h1;first| (intro h2;first| (intro h3;refine And.intro ?_ ?_)|refine And.intro ?_ ?_)|refine And.intro ?_ ?_)<;>first|omega| ((try simp only[SQ]at*);(try simp(disch:=omega) only[cY]);omega))):P:=h t1
theorem aAY{P:Prop}(h:P:=by(with_reducible and_intros)<;>first|exact⟨⟩|exact t1| ((intro h1;first| (intro h2;first| (intro h3;refine And.intro ?_ ?_)|refine And.intro ?_ ?_)|refine And.intro ?_ ?_)<;>first|omega| ((try simp only[SQ]at*);(try simp(disch:=omega) only[cY]);omega))):P:=h
theorem aqu{P A1 A2:Prop}(t1:A1)(t2:A2)(h:A1→A2→P:=by intro u1 u2;(with_reducible and_intros);(iterate 3 all_goals try first|exact⟨⟩|exact u1|exact u2|exact t1)):P:=h t1 t2
theorem aAZ{P:Prop}(h:P:=by and_intros<;>first|exact⟨⟩| ((intro h1;first| (intro h2;first| (intro h3;refine And.intro ?_ ?_)|refine And.intro ?_ ?_)|refine And.intro ?_ ?_)<;>first|omega| ((try simp only[SQ]at*);(try simp(disch:=omega) only[cY]);omega))):P:=h
theorem aqv{P:Prop}(h:P:=by and_intros<;>first|exact⟨⟩| (rw[hg];rfl;done)| (rw[hk];done)):P:=h
theorem aqw{P:Prop}(h:P:=by and_intros<;>first|exact⟨⟩| (rw[hd];done)| (rw[hk];done)):P:=h
theorem Fy{P:Prop}(h:P:=by simpa using h):P:=h
theorem aqx{P:Prop}(h:P:=by and_intros<;>first|exact⟨⟩|rfl| (rw[hp];done)):P:=h
theorem OJ{P:Prop}(h:P:=by rw[hk];decide):P:=h
theorem HT{P:Prop}(h:P:=by as_aux_lemma=>kernel_rfl):P:=h
theorem axn{P A1:Prop}(t1:A1)(h:A1→P:=by intro u1;(with_reducible and_intros);(iterate 2 all_goals try first|exact⟨⟩|exact u1|exact fun _=>t1)):P:=h t1
theorem Uy{P:Prop}(h:P:=by rw[List.length_map];omega):P:=h
theorem aqy{P:Prop}(h:P:=by simp only[CY,Int.toNat_zero,gI]<;>first|rfl|ac_rfl):P:=h
theorem aqz{P:Prop}(h:P:=by simp only[gY,n8,hw,gI]<;>first|rfl|ac_rfl):P:=h
theorem aA0{P:Prop}(h:P:=by and_intros<;>first|exact⟨⟩| (rw[hc];done)| (rw[hc];simp only[hh,if_true];done)| (rw[hc];simp only[hg,if_true];done)| (rw[hk];done)):P:=h
theorem aqA{P:Prop}(h:P:=by simp only[M8,hx,gI]<;>first|rfl|ac_rfl):P:=h
theorem axo{P:Prop}(h:P:=by and_intros<;>first|exact⟨⟩| (rw[axp hr];done)| (rw[hr];done)):P:=h
theorem aqB{P:Prop}(h:P:=by simp only[hw,BS,gI]<;>first|rfl|ac_rfl):P:=h
theorem aqC{P:Prop}(h:P:=by simp only[hw,Cj,gI]<;>first|rfl|ac_rfl):P:=h
theorem aqD{P:Prop}(h:P:=by simp only[Xx,Gy,gI]<;>first|rfl|ac_rfl):P:=h
theorem aA1{P:Prop}(h:P:=by and_intros<;>first|exact⟨⟩| (rw[hc];done)| (rw[hc];simp only[hh,if_true];done)| (rw[hc];simp[hg];done)| (rw[hk];done)):P:=h
theorem aA2{P:Prop}(h:P:=by and_intros<;>first|exact⟨⟩| (rw[hc];done)| (rw[hc];simp[hh];done)| (rw[hc];simp only[hg,if_true];done)| (rw[hk];done)):P:=h
theorem axq{P:Prop}(h:P:=by(with_reducible and_intros)<;>first|exact⟨⟩|exact t1| (intros;omega)|exact rfl):P:=h
theorem Xy{P:Prop}(h:P:=by have:=h.nd;omega):P:=h
theorem axr{P:Prop}(h:P:=by(with_reducible and_intros);(iterate 2 all_goals try first|exact⟨⟩|exact t1|exact t2)):P:=h
theorem aA3{P:Prop}(h:P:=by refine fun hzz=> ?_;have hz2:decide ((k:Int)≥(pb.length:Int))=false:=hzz;rw[decide_eq_false_iff_not]at hz2;dsimp only[hyps,abu];omega):P:=h
theorem aqE{P:Prop}(h:P:=by simp only[W8,gI]<;>first|rfl|ac_rfl):P:=h
theorem aqF{P:Prop}(h:P:=by simp only[auP,gI]<;>first|rfl|ac_rfl):P:=h
theorem aA4{P:Prop}(h:P:=by and_intros<;>first|exact⟨⟩| (rw[hc];done)| (rw[hc];simp[hh];done)| (rw[hc];simp[hg];done)| (rw[hk];done)):P:=h
theorem aqG{P:Prop}(h:P:=by simp only[rOK,gI]<;>first|rfl|ac_rfl):P:=h
theorem axt{P:Prop}(h:P:=by(with_reducible and_intros)<;>first|exact⟨⟩|exact(hf _)| (intros;omega)):P:=h
theorem aqH{P:Prop}(h:P:=by simp only[qX,gI]<;>first|rfl|ac_rfl):P:=h
theorem aqI{P:Prop}(h:P:=by simp only[zD,gI]<;>first|rfl|ac_rfl):P:=h
theorem aqJ{P:Prop}(h:P:=by simp only[qg,gI]<;>first|rfl|ac_rfl):P:=h
theorem aqK{P:Prop}(h:P:=by simp only[wm,gI]<;>first|rfl|ac_rfl):P:=h
theorem aqL{P:Prop}(h:P:=by simp only[OK,gI]<;>first|rfl|ac_rfl):P:=h
theorem aqM{P:Prop}(h:P:=by simp only[wo,gI]<;>first|rfl|ac_rfl):P:=h
theorem aqN{P:Prop}(h:P:=by simp only[pL,gI]<;>first|rfl|ac_rfl):P:=h
theorem aqO{P:Prop}(h:P:=by simp only[Ck,gI]<;>first|rfl|ac_rfl):P:=h
theorem aqP{P:Prop}(h:P:=by simp only[Gz,gI]<;>first|rfl|ac_rfl):P:=h
theorem aqQ{P:Prop}(h:P:=by simp only[HU,gI]<;>first|rfl|ac_rfl):P:=h
theorem aqR{P:Prop}(h:P:=by simp only[Kr,gI]<;>first|rfl|ac_rfl):P:=h
theorem aqS{P:Prop}(h:P:=by simp only[BT,gI]<;>first|rfl|ac_rfl):P:=h
theorem aqT{P:Prop}(h:P:=by simp only[M9,gI]<;>first|rfl|ac_rfl):P:=h
theorem aqU{P:Prop}(h:P:=by simp only[Xz,gI]<;>first|rfl|ac_rfl):P:=h
theorem aqV{P:Prop}(h:P:=by simp only[XA,gI]<;>first|rfl|ac_rfl):P:=h
theorem aqW{P:Prop}(h:P:=by simp only[GB,gI]<;>first|rfl|ac_rfl):P:=h
theorem aqX{P:Prop}(h:P:=by simp only[HV,gI]<;>first|rfl|ac_rfl):P:=h
theorem aqY{P:Prop}(h:P:=by simp only[CZ,gI]<;>first|rfl|ac_rfl):P:=h
theorem aqZ{P:Prop}(h:P:=by simp only[HW,gI]<;>first|rfl|ac_rfl):P:=h
theorem aq0{P:Prop}(h:P:=by simp only[gY,gI]<;>first|rfl|ac_rfl):P:=h
theorem aq1{P:Prop}(h:P:=by simp only[Cl,gI]<;>first|rfl|ac_rfl):P:=h
theorem abv{P:Prop}(h:P:=by have:=hF.dv;omega):P:=h
theorem axu{P A1:Prop}(t1:A1)(h:A1→P:=by intro u1;(with_reducible and_intros)<;>first|exact⟨⟩|exact u1 .. | (intros;omega)):P:=h t1
theorem OL{P:Prop}(h:P:=by simp[hq]):P:=h
theorem aA5{P A1:Prop}(t1:A1)(h:A1→P:=by intro u1;(with_reducible and_intros)<;>first|exact⟨⟩|exact u1| (intros;omega)|exact rfl| (simp only[vI,maxLen,lens];omega)):P:=h t1
theorem abw{P:Prop}(h:P:=by rw[hb0];decide):P:=h
theorem aA6{P A1 A2:Prop}(t1:A1)(t2:A2)(h:A1→A2→P:=by intro u1 u2;(with_reducible and_intros);(iterate 3 all_goals try first|exact⟨⟩|exact u1|exact u2|exact t1);all_goals first| (intros;omega)):P:=h t1 t2
theorem aA7{P A1 A2:Prop}(t1:A1)(t2:A2)(h:A1→A2→P:=by intro u1 u2;(with_reducible and_intros);(iterate 3 all_goals try first|exact⟨⟩|exact u1|exact fun _=>t1|exact fun _=>u2)):P:=h t1 t2
theorem Uz{P:Prop}(h:P:=by simpa using hb):P:=h
theorem ag4{P:Prop}(h:P:=by rw[List.length_drop];omega):P:=h
theorem aA8{P:Prop}(h:P:=by and_intros<;>first|exact⟨⟩| ((try simp only[SQ]at*);(simp(disch:=omega) only[cY]);omega)):P:=h
theorem aA9{P:Prop}(h:P:=by simp only[ByteArray.size_append,adN,cZ,BR,Int.toNat_natCast];omega):P:=h
theorem aBa{P:Prop}(h:P:=by and_intros<;>first|exact⟨⟩| (rw[hc];done)| (rw[hc,show k=x.aC.length by omega];done)):P:=h
theorem aBb{P A1:Prop}(t1:A1)(h:A1→P:=by intro u1;(with_reducible and_intros)<;>first|exact⟨⟩|exact u1|exact rfl| (simp only[vI,maxLen,lens];omega)):P:=h t1
theorem aBc{P:Prop}(h:P:=by(with_reducible and_intros);(iterate 2 all_goals try first|exact⟨⟩|exact fun _=>t1|exact fun _=>t2)):P:=h
theorem abx{P:Prop}(h:P:=by rw[h];decide):P:=h
theorem aBd{P:Prop}(h:P:=by and_intros<;>first|exact⟨⟩| (rw[ha];simp only[hg];rfl;done)| (rw[hk];done)):P:=h
theorem aBe{P:Prop}(h:P:=by and_intros<;>first|exact⟨⟩| (rw[hv.1,hq];rfl;done)| (rw[hv.2,hk];done)):P:=h
theorem aBf{P A1:Prop}(t1:A1)(h:A1→P:=by intro u1;(with_reducible and_intros);(iterate 2 all_goals try first|exact⟨⟩|exact u1|exact t1);all_goals first|exact rfl):P:=h t1
theorem aq2{P:Prop}(h:P:=by rw[List.length_drop,List.length_take];omega):P:=h
theorem aBg{P:Prop}(h:P:=by and_intros<;>first|exact⟨⟩| (rw[hq.1];rfl;done)| (rw[hq.2];rfl;done)):P:=h
theorem axv{P:Prop}(h:P:=by simp only[wJ,gI]<;>first|rfl|ac_rfl):P:=h
theorem aBh{P:Prop}(h:P:=by and_intros<;>first|exact⟨⟩| (rw[hv.1,hq];done)| (rw[hv.2,hk];done)):P:=h
theorem aby{P:Prop}(h:P:=by simpa using fu):P:=h
theorem aBi{P:Prop}(h:P:=by simp only[List.length_cons,List.length_nil,List.length_append];omega):P:=h
theorem ag5{P:Prop}(h:P:=by rw[jg];omega):P:=h
theorem aBj{P A1 A2 A3:Prop}(t1:A1)(t2:A2)(t3:A3)(h:A1→A2→A3→P:=by intro u1 u2 u3;(with_reducible and_intros);(iterate 3 all_goals try first|exact⟨⟩|exact u1|exact u2|exact u3)):P:=h t1 t2 t3
theorem aBk{P:Prop}(h:P:=by and_intros<;>first|exact⟨⟩| (rw[adO hr];rfl;done)| (rw[hr];done)):P:=h
theorem XB{P:Prop}(h:P:=by simp[aq3]):P:=h
theorem aBl{P:Prop}(h:P:=by and_intros<;>first|exact⟨⟩| (intros;omega)| (simp only[vI,maxLen,lens];omega)):P:=h
theorem aBm{P:Prop}(h:P:=by show(UA (yA key s.id r d v).data).length≤_;rw[adP,hdl];decide):P:=h
theorem abz{P:Prop}(h:P:=by simpa using h1):P:=h
theorem aBn{P:Prop}(h:P:=by and_intros<;>first|exact⟨⟩| (rw[hd];rfl;done)| (rw[hk];done)):P:=h
theorem aq4{P:Prop}(h:P:=by rw[hgt];exact hsm.2):P:=h
theorem aBo{P A1:Prop}(t1:A1)(h:A1→P:=by intro u1;(with_reducible and_intros)<;>first|exact⟨⟩|exact u1 .. |exact fun _=>u1 ..):P:=h t1
theorem aBp{P:Prop}(h:P:=by and_intros<;>first|exact⟨⟩| (rw[hq.1];done)| (rw[hq.2];done)):P:=h
theorem aBq{P:Prop}(h:P:=by simp only[SR,List.drop_zero,Int.reduceToNat,List.take_length,gI]<;>first|rfl|ac_rfl):P:=h
theorem XC{P:Prop}(h:P:=by simp;omega):P:=h
theorem aBr{P:Prop}(h:P:=by intro e he;rcases List.mem_cons.1 he with rfl|he;exact hc';exact hp e he):P:=h
theorem XD{P:Prop}(h:P:=by decide+kernel):P:=h
theorem ag7{P:Prop}(h:P:=by simpa using cQ):P:=h
theorem aBs{P:Prop}(h:P:=by and_intros<;>first|exact⟨⟩| (rw[hc];done)| (rw[hk];done)):P:=h
theorem aBt{P:Prop}(h:P:=by(show 0≤(0:Int)∧(0:Int)<(L.length:Int);omega)):P:=h
theorem axx{P:Prop}(h:P:=by rw[List.append_assoc];exact List.mem_append_right _ hb):P:=h
theorem aq5{P:Prop}(h:P:=by rw[List.length_map];exact h):P:=h
theorem aBu{P:Prop}(h:P:=by show(yA key s.id r d v).selection.length≤_;rw[hg];exact hv):P:=h
theorem ag8{P:Prop}(h:P:=by simpa using hl):P:=h
theorem aBv{P:Prop}(h:P:=by simp only[GC,List.drop_zero,Int.toNat_zero,gI]<;>first|rfl|ac_rfl):P:=h
theorem aBw{P A1:Prop}(t1:A1)(h:A1→P:=by intro u1;(with_reducible and_intros);(iterate 2 all_goals try first|exact⟨⟩|exact u1)):P:=h t1
theorem axy{P:Prop}(h:P:=by simp only[maxLen]at h63;omega):P:=h
theorem aBx{P:Prop}(h:P:=by rw[show k+1+i=k+(i+1)by omega];exact hq):P:=h
theorem aBy{P:Prop}(h:P:=by rw[hd j,h];have:=K.back i o ho j hj;simp;omega):P:=h
theorem aBz{P:Prop}(h:P:=by and_intros<;>first|exact⟨⟩|rfl| (rw[ha];done)):P:=h
theorem aj1{P:Prop}(h:P:=by simpa using n9):P:=h
theorem aBA{P:Prop}(h:P:=by rw[show(bG s).data.toList=s by simp[bG]];exact ha):P:=h
theorem aBB{P:Prop}(h:P:=by simp only[Op.operands,List.mem_map];exact⟨x,hx,rfl⟩):P:=h
theorem aBC{P:Prop}(h:P:=by simp only[lU,SS,wq,gI]<;>first|rfl|ac_rfl):P:=h
theorem aq6{P:Prop}(h:P:=by rw[hmk];decide):P:=h
theorem aq7{P:Prop}(h:P:=by rw[hk0];decide):P:=h
theorem aq8{P:Prop}(h:P:=by rw[aBD];rfl):P:=h
theorem aj2{P:Prop}(h:P:=by simpa using hj):P:=h
theorem aBE{P:Prop}(h:P:=by rw[qx];exact List.mem_cons_of_mem _ (gB hf (XE y hm))):P:=h
theorem aBF{P:Prop}(h:P:=by rw[List.getD_eq_getElem?_getD,List.getElem?_eq_getElem hk];exact List.getElem_mem _):P:=h
theorem aBG{P:Prop}(h:P:=by and_intros<;>first|exact⟨⟩| (rw[hkk];done)):P:=h
theorem aBH{P:Prop}(h:P:=by and_intros<;>first|exact⟨⟩| (rw[hw];done)):P:=h
theorem aq9{P:Prop}(h:P:=by rw[hf];decide):P:=h
theorem ara{P:Prop}(h:P:=by rw[hx];omega):P:=h
theorem aj3{P:Prop}(h:P:=by simp[hx]):P:=h
theorem aj4{P:Prop}(h:P:=by simp[this]):P:=h
theorem aj5{P:Prop}(h:P:=by simp[hy]):P:=h
theorem axz{P:Prop}(h:P:=by rw[h.nd];exact hi):P:=h
theorem aBI{P:Prop}(h:P:=by simp only[XF,gI]<;>first|rfl|ac_rfl):P:=h
theorem aBJ{P:Prop}(h:P:=by simp only[opH,gI]<;>first|rfl|ac_rfl):P:=h
theorem aBK{P:Prop}(h:P:=by simp only[fls,gI]<;>first|rfl|ac_rfl):P:=h
theorem aBM{P:Prop}(h:P:=by simp only[Gb,gI]<;>first|rfl|ac_rfl):P:=h
theorem aBN{P:Prop}(h:P:=by simp only[iJ,gI]<;>first|rfl|ac_rfl):P:=h
theorem aBO{P:Prop}(h:P:=by simp only[abA,gI]<;>first|rfl|ac_rfl):P:=h
theorem aBP{P:Prop}(h:P:=by simp only[HX,gI]<;>first|rfl|ac_rfl):P:=h
theorem aBQ{P:Prop}(h:P:=by simp only[ag9,gI]<;>first|rfl|ac_rfl):P:=h
theorem aBR{P:Prop}(h:P:=by simp only[XG,gI]<;>first|rfl|ac_rfl):P:=h
theorem aBS{P:Prop}(h:P:=by simp only[vK,gI]<;>first|rfl|ac_rfl):P:=h
theorem aBT{P:Prop}(h:P:=by simp only[qY,gI]<;>first|rfl|ac_rfl):P:=h
theorem gZ{P:Prop}(h:P:=by refine⟨k+1,aJ,aJ,?_⟩;rw[gT _ k rfl aJ,hs];try rfl):P:=h
theorem UB{P:Prop}(h:P:=by(repeat' (first|with_reducible exact c8|with_reducible refine dP ?_ ?_|with_reducible apply And.intro| (simp only[List.append_eq,List.nil_append,List.cons_append,List.append_nil];with_reducible refine dP ?_ ?_)))<;>first|exact t1|exact(bF _ aJ)|exact⟨rfl,fA _ cO⟩|exact rfl| (intros;omega)|decide| (intros;simp only[ByteArray.size_append,cZ,BR,w1,w5,w8];omega)):P:=h
theorem GD{P A1:Prop}(t1:A1)(h:A1→P:=by intro u1;(repeat' with_reducible first|exact c8|refine dP ?_ ?_|apply And.intro)<;>first|exact u1|exact rfl|exact⟨rfl,fA _ cO⟩| (simp only[vI,maxLen,lens];omega)):P:=h t1
theorem Fz{P:Prop}(h:P:=by refine⟨k+1,aJ,aJ,?_⟩;rw[gT _ k rfl aJ];try rfl):P:=h
theorem XH{P:Prop}(h:P:=by refine⟨k1+1,aJ,aJ,?_⟩;rw[gT _ k1 rfl aJ,hs1];try rfl):P:=h
theorem aha{P:Prop}(h:P:=by refine⟨k+1,aJ,aJ,?_⟩;rw[gT _ k rfl aJ,RD];try rfl):P:=h
theorem axB{P A1 A2 A3:Prop}(t1:A1)(t2:A2)(t3:A3)(h:A1→A2→A3→P:=by intro u1 u2 u3;(repeat' with_reducible first|exact c8|refine dP ?_ ?_|apply And.intro);(iterate 3 all_goals try first|exact u1|exact u2|exact u3);all_goals first|exact⟨rfl,fA _ cO⟩):P:=h t1 t2 t3
theorem ahb{P:Prop}(h:P:=by(with_reducible and_intros);(iterate 2 all_goals try first|exact⟨⟩|exact qqv)):P:=h
theorem axC{P A1 A2:Prop}(t1:A1)(t2:A2)(h:A1→A2→P:=by intro u1 u2;(repeat' with_reducible first|exact c8|refine dP ?_ ?_|apply And.intro);(iterate 2 all_goals try first|exact u1|exact u2);all_goals first|exact⟨rfl,fA _ cO⟩):P:=h t1 t2
theorem aBU{P:Prop}(h:P:=by refine⟨k+1,aJ,aJ,?_⟩;rw[gT _ k rfl aJ,gT _ (lC x (x.ah.getD i.toNat (aO .bR)).live (x.ah.getD (IntKind.i64.wrap (BitVec.ofInt IntKind.i64.bits i^^^BitVec.ofInt IntKind.i64.bits 1).toNat).toNat (aO .bR)).live (x.aH.rounds.take k)) rfl aJ,hs];try rfl):P:=h
theorem arb{P:Prop}(h:P:=by refine⟨k1+1,aJ,aJ,?_⟩;rw[gT _ k1 rfl aJ, ←RU];try rfl):P:=h
theorem ard{P:Prop}(h:P:=by refine⟨k+1,aJ,aJ,?_⟩;rw[gT _ k rfl aJ,hs,hs2];try rfl):P:=h
theorem are{P:Prop}(h:P:=by refine⟨k+1,aJ,aJ,?_⟩;rw[gT _ k rfl aJ, ←hst];try rfl):P:=h
theorem arf{P:Prop}(h:P:=by refine⟨k+1,aJ,aJ,?_⟩;rw[gT _ k rfl aJ,hs2];try rfl):P:=h
theorem arh{P A1 A2:Prop}(t1:A1)(t2:A2)(h:A1→A2→P:=by intro u1 u2;(with_reducible and_intros);(iterate 3 all_goals try first|exact⟨⟩|exact u1|exact u2|exact qqv)):P:=h t1 t2
theorem aBV{P A1:Prop}(t1:A1)(h:A1→P:=by intro u1;(repeat' with_reducible first|exact c8|refine dP ?_ ?_|apply And.intro)<;>first|exact u1 .. | (intros;omega)|exact rfl|exact⟨rfl,fA _ cO⟩|exact(Uw _).1|exact(Uw _).2| (simp only[vI,maxLen,lens];omega)):P:=h t1
theorem aBW{P:Prop}(h:P:=by(with_reducible and_intros)<;>first|exact⟨⟩|exact t1|exact t2|exact t3|exact t4|exact t5|exact t6|exact t7|exact t8|exact(bF _ aJ)| (intros;omega)| (intros;simp only[ByteArray.size_append,cZ,BR,w1,w4,w0]<;>omega)):P:=h
theorem aBX{P:Prop}(h:P:=by(with_reducible and_intros)<;>first|exact⟨⟩|exact t1|exact t2|exact t3|exact t4|exact t5|exact t6|exact t7|exact t8|exact(bF _ aJ)| (intros;omega)| (intros;simp only[ByteArray.size_append,cZ,BR,w5,w6]<;>omega)):P:=h
theorem aBY{P A1 A2:Prop}(t1:A1)(t2:A2)(h:A1→A2→P:=by intro u1 u2;(repeat' with_reducible first|exact c8|refine dP ?_ ?_|apply And.intro);(iterate 2 all_goals try first|exact u1|exact u2);all_goals first| (intros;omega)|exact rfl|exact⟨rfl,fA _ cO⟩| (simp only[vI,maxLen,lens];omega)):P:=h t1 t2
theorem aBZ{P:Prop}(h:P:=by(repeat' with_reducible first|exact c8|refine dP ?_ ?_|apply And.intro);(iterate 2 all_goals try first|exact(dL _ _ fj)|exact(zE _ _));all_goals first| (intros;omega)|exact⟨rfl,fA _ cO⟩):P:=h
theorem aB0{P:Prop}(h:P:=by(repeat' with_reducible first|exact c8|refine dP ?_ ?_|apply And.intro);(iterate 2 all_goals try first|exact(dz _ _ fj)|exact(zF _ _));all_goals first| (intros;omega)|exact⟨rfl,fA _ cO⟩):P:=h
theorem aB1{P:Prop}(h:P:=by(repeat' with_reducible first|exact c8|refine dP ?_ ?_|apply And.intro)<;>first|exact(dL _ _ fj)| (intros;omega)|exact⟨rfl,fA _ cO⟩|exact(Uw _).1|exact(Uw _).2):P:=h
theorem aB2{P:Prop}(h:P:=by(repeat' with_reducible first|exact c8|refine dP ?_ ?_|apply And.intro)<;>first|exact t1| (intros;omega)|exact rfl|exact⟨rfl,fA _ cO⟩| (simp only[vI,maxLen,lens];omega)):P:=h
theorem aB3{P A1:Prop}(t1:A1)(h:A1→P:=by intro u1;(repeat' with_reducible first|exact c8|refine dP ?_ ?_|apply And.intro)<;>first|exact u1| (intros;omega)|exact rfl|exact⟨rfl,fA _ cO⟩| (simp only[vI,maxLen,lens];omega)):P:=h t1
theorem ari{P:Prop}(h:P:=by(with_reducible and_intros)<;>first|exact⟨⟩|exact(iO _ fj)):P:=h
theorem axD{P:Prop}(h:P:=by refine⟨k+1,aJ,aJ,?_⟩;rw[gT _ k rfl aJ,hst];try rfl):P:=h
theorem aB4{P:Prop}(h:P:=by(repeat' with_reducible first|exact c8|refine dP ?_ ?_|apply And.intro);(iterate 2 all_goals try first|exact(dz _ _ fj)|exact(tT _ _));all_goals first|exact⟨rfl,fA _ cO⟩):P:=h
theorem aB5{P:Prop}(h:P:=by(repeat' with_reducible first|exact c8|refine dP ?_ ?_|apply And.intro);(iterate 2 all_goals try first|exact(dL _ _ fj)|exact(wK _));all_goals first|exact⟨rfl,fA _ cO⟩):P:=h
theorem aB6{P:Prop}(h:P:=by(repeat' with_reducible first|exact c8|refine dP ?_ ?_|apply And.intro)<;>first|exact aj6 _ _ aBi|exact⟨rfl,fA _ cO⟩|exact(Uw _).1|exact(Uw _).2):P:=h
theorem aB7{P A1 A2:Prop}(t1:A1)(t2:A2)(h:A1→A2→P:=by intro u1 u2;(repeat' with_reducible first|exact c8|refine dP ?_ ?_|apply And.intro);(iterate 3 all_goals try first|exact u1|exact u2|exact t1);all_goals first|exact⟨rfl,fA _ cO⟩):P:=h t1 t2
theorem axE{P:Prop}(h:P:=by refine⟨k+1,aJ,aJ,?_⟩;rw[hsb,hst];try rfl):P:=h
theorem aB8{P A1 A2 A3 A4 A5 A6:Prop}(t1:A1)(t2:A2)(t3:A3)(t4:A4)(t5:A5)(t6:A6)(h:A1→A2→A3→A4→A5→A6→P:=by intro u1 u2 u3 u4 u5 u6;(with_reducible and_intros);(iterate 9 all_goals try first|exact⟨⟩|exact u1|exact u2|exact u3|exact u4|exact u5|exact u6|exact qqv)):P:=h t1 t2 t3 t4 t5 t6
theorem aB9{P A1 A2 A3 A4 A5 A6:Prop}(t1:A1)(t2:A2)(t3:A3)(t4:A4)(t5:A5)(t6:A6)(h:A1→A2→A3→A4→A5→A6→P:=by intro u1 u2 u3 u4 u5 u6;(with_reducible and_intros);(iterate 7 all_goals try first|exact⟨⟩|exact u1|exact u2|exact u3|exact u4|exact u5|exact u6|exact qqv)):P:=h t1 t2 t3 t4 t5 t6
theorem aCa{P:Prop}(h:P:=by refine⟨k+1,aJ,aJ,?_⟩;rw[gT _ k rfl aJ,gT _ (so (d.rows.take k)) rfl aJ,hs];try rfl):P:=h
theorem aCb{P A1 A2 A3:Prop}(t1:A1)(t2:A2)(t3:A3)(h:A1→A2→A3→P:=by intro u1 u2 u3;(with_reducible and_intros);(iterate 6 all_goals try first|exact⟨⟩|exact u1|exact u2|exact u3|exact qqv);all_goals first| (intros;omega)):P:=h t1 t2 t3
theorem aCc{P A1:Prop}(t1:A1)(h:A1→P:=by intro u1;(repeat' with_reducible first|exact c8|refine dP ?_ ?_|apply And.intro)<;>first|exact u1|exact⟨rfl,fA _ cO⟩):P:=h t1
theorem aCd{P:Prop}(h:P:=by(repeat' with_reducible first|exact c8|refine dP ?_ ?_|apply And.intro)<;>first|exact t1|exact⟨rfl,fA _ cO⟩):P:=h
theorem aCe{P:Prop}(h:P:=by refine⟨k1+1,aJ,aJ,?_⟩;rw[gT _ k1 rfl aJ,hw,hwk,List.append_assoc, ←hs1];try rfl):P:=h
theorem aCf{P:Prop}(h:P:=by refine⟨k1+1,aJ,aJ,?_⟩;rw[gT _ k1 rfl aJ,hw,List.append_assoc, ←hs1];try rfl):P:=h
theorem aCg{P:Prop}(h:P:=by refine⟨k2+1,aJ,aJ,?_⟩;rw[gT _ k2 rfl aJ,hw,List.append_assoc, ←hs2];try rfl):P:=h
theorem aCh{P:Prop}(h:P:=by refine⟨k+1,aJ,aJ,?_⟩;rw[gT _ k rfl aJ,RD, ←ByteArray.append_assoc];try rfl):P:=h
theorem aCi{P A1:Prop}(t1:A1)(h:A1→P:=by intro u1;(with_reducible and_intros);(iterate 4 all_goals try first|exact⟨⟩|exact u1|exact qqv);all_goals first| (intros;omega)):P:=h t1
theorem aCj{P:Prop}(h:P:=by and_intros<;>first|exact⟨⟩| (rw[hw];done)| (rw[hw,arj x k aJ aJ];done)):P:=h
theorem aCk{P:Prop}(h:P:=by refine⟨k1+1,aJ,aJ,?_⟩;rw[gT _ k1 rfl aJ, ←hs];try rfl):P:=h
theorem aCl{P:Prop}(h:P:=by refine⟨k+1,aJ,aJ,?_⟩;rw[gT _ k rfl aJ,RD,hlt];try rfl):P:=h
theorem aCm{P:Prop}(h:P:=by refine⟨k1+1,aJ,aJ,?_⟩;rw[gT _ k1 rfl aJ,hpb];try rfl):P:=h
theorem aCn{P:Prop}(h:P:=by refine⟨k1+1,aJ,aJ,?_⟩;rw[gT _ k1 rfl aJ,aj7];try rfl):P:=h
theorem aCo{P:Prop}(h:P:=by(with_reducible and_intros);(iterate 2 all_goals try first|exact⟨⟩|exact aA9);all_goals first| (intros;omega)):P:=h
theorem aCp{P:Prop}(h:P:=by refine⟨k+1,aJ,aJ,?_⟩;rw[gT _ k rfl aJ,aj8];try rfl):P:=h
theorem aCq{P:Prop}(h:P:=by refine⟨k1+1,aJ,aJ,?_⟩;rw[gT _ k1 rfl aJ];try rfl):P:=h
theorem aCr{P:Prop}(h:P:=by(with_reducible and_intros)<;>first|exact⟨⟩|exact(iO _ fj)| (intros;omega)):P:=h
theorem aCs{P:Prop}(h:P:=by refine⟨k+1,aJ,aJ,?_⟩;rw[hib,hlb];try rfl):P:=h
theorem aCt{P:Prop}(h:P:=by(with_reducible and_intros);(iterate 3 all_goals try first|exact⟨⟩|exact qqv)):P:=h
variable{w w':World}{fp:List Nat}{b m lo:Nat}{eS:List (List Nat)}{v:Value}
theorem oI.{u}{α:Type u}(a b:α):(some a=some b)=(a=b):=Option.some.injEq a b
theorem pI.{u,v}{α:Type u}{β:Type v}(a:α)(b:β)(c:α)(d:β):((a,b)=(c,d))=(a=c∧b=d):=Prod.mk.injEq a b c d
abbrev ER(α:Type):=World→List Value→α→List Nat→Prop
def Agree(w w':World)(fp:List Nat):Prop:= ∀b,b∈fp→w'.heap[b]? =w.heap[b]?
theorem Agree.cell(h:Agree w w' fp)(hb:b∈fp)(o:Nat):w'.cell? ⟨b,o,none⟩=w.cell? ⟨b,o,none⟩:=
 World.cell?_of_block (w:=w) (a:=⟨b,o,none⟩) (h b hb)
theorem Agree.range(h:Agree w w' fp)(hb:b∈fp){o:Nat}{cs:List Value}(hr:w.rangeAt b o cs):w'.rangeAt b o cs:=
 fun j v hv=>by rw[h.cell hb];exact hr j v hv
theorem Agree.sub{oK:List Nat}(h:Agree w w' fp)(hs: ∀b,b∈oK→b∈fp):Agree w w' oK:=fun b hb=>h b (hs b hb)
theorem Agree.trans{a b c:World}(h:Agree a b fp)(k:Agree b c fp):Agree a c fp:=fun x hx=>(k x hx).trans (h x hx)
theorem Agree.refl(w:World)(fp:List Nat):Agree w w fp:=fun _ _=>rfl
theorem uR{B:Nat}(hb:Below B w w')(hf: ∀b,b∈fp→b<B):Agree w w' fp:=fun b h=>hb.block b (hf b h)
structure mZ{α:Type}(k:Nat)(E:ER α):Prop where
 agree: ∀{w w':World} {cs x fp},E w cs x fp→Agree w w' fp→E w' cs x fp
 lt: ∀{w:World} {cs x fp},E w cs x fp→ ∀b,b∈fp→b<w.heap.size
 len: ∀{w:World} {cs x fp},E w cs x fp→cs.length=k
 one: ∀{w:World} {cs x fp},E w cs x fp→ ∀u,u∈cs→u.oneCell'=true
def BU{α:Type}(k:Nat)(E:ER α)(w:World)(b off:Nat)(l:List α)(eS:List (List Nat)):Prop:=
 eS.length=l.length∧ ∀i x f,l[i]? =some x→eS[i]? =some f→ ∃cs,w.rangeAt b (off+i*k) cs∧E w cs x f
def Fit(w:World)(b m:Nat):Prop:= ∃c e fz,w.heap[b]? =some (.cells c e fz)∧m≤c.size
theorem Fit.lt(h:Fit w b m):b<w.heap.size:=by
 obtain⟨c,e,fz,hc,_⟩:=h;exact(dZ.1 hc).1
theorem Fit.agree(h:Fit w b m)(ha:w'.heap[b]? =w.heap[b]?):Fit w' b m:=by
 obtain⟨c,e,fz,hc,hm⟩:=h;exact⟨c,e,fz,by rw[ha];exact hc,hm⟩
theorem Fit.mono{m':Nat}(h:Fit w b m)(hm:m'≤m):Fit w b m':=by
 obtain⟨c,e,fz,hc,h1⟩:=h;exact⟨c,e,fz,hc,Nat.le_trans hm h1⟩
def Sl{α:Type}(k:Nat)(E:ER α)(w:World)(v:Value)(l:List α)(fp:List Nat):Prop:=
 ∃oa cap,v= .slice oa l.length cap∧l.length≤cap∧cap≤maxLen∧
  ((l= []∧fp= []∧cap=0)∨ ∃b off eS,oa=some ⟨b,off,none⟩∧Fit w b (off+cap*k)∧fp=b::eS.flatten∧BU k E w b off l eS)
def ESl{α:Type}(k:Nat)(E:ER α):ER (List α):=fun w cs l fp=> ∃v,cs= [v]∧Sl k E w v l fp
def aj9:ER Int:=fun _ cs n fp=>cs= [.int .i64 n]∧fp= []
def EU8:ER UInt8:=fun _ cs n fp=>cs= [.int .u8 n.toNat]∧fp= []
def aka:ER (List UInt8):=fun _ cs s fp=>cs= [.string ⟨s.toArray⟩]∧s.length≤maxLen∧fp= []
theorem C0:mZ 1 aj9:=⟨fun h _=>h,by rintro w cs x fp ⟨rfl,rfl⟩ b hb;simp at hb,by rintro w cs x fp ⟨rfl,rfl⟩;rfl,by rintro w cs x fp ⟨rfl,rfl⟩ u hu;simp at hu;subst hu;rfl⟩
theorem pM:mZ 1 EU8:=⟨fun h _=>h,by rintro w cs x fp ⟨rfl,rfl⟩ b hb;simp at hb,by rintro w cs x fp ⟨rfl,rfl⟩;rfl,by rintro w cs x fp ⟨rfl,rfl⟩ u hu;simp at hu;subst hu;rfl⟩
theorem akb:mZ 1 aka:=⟨fun h _=>h,by rintro w cs x fp ⟨rfl,_,rfl⟩ b hb;simp at hb,by rintro w cs x fp ⟨rfl,_,rfl⟩;rfl,by rintro w cs x fp ⟨rfl,_,rfl⟩ u hu;simp at hu;subst hu;rfl⟩
theorem gB{l:List (List Nat)}{i:Nat}{f:List Nat}(h:l[i]? =some f)(hb:b∈f):b∈l.flatten:=
 nP.2 ⟨f,List.mem_of_getElem? h,hb⟩
theorem mQ{α:Type}{l:List α}(h:eS.length=l.length){i:Nat}{x:α}(hx:l[i]? =some x): ∃f,eS[i]? =some f:=by
 have:i<l.length:=(aU.1 hx).1;exact⟨eS[i],az (by omega)⟩
section
variable{α:Type}{k:Nat}{E:ER α}(G:mZ k E)
include G
theorem BU.agree{off:Nat}{l:List α}(h:BU k E w b off l eS)(hb:w'.heap[b]? =w.heap[b]?)(ha:Agree w w' eS.flatten):BU k E w' b off l eS:=by
 refine⟨h.1,fun i x f hx hf=> ?_⟩;obtain⟨cs,hr,he⟩:=h.2 i x f hx hf;refine⟨cs,fun j v hv=> ?_,G.agree he (ha.sub fun _ hm=>gB hf hm)⟩;rw[World.cell?_of_block (w:=w) (a:=⟨b,_,none⟩) hb];exact hr j v hv
theorem Sl.agree{l:List α}(h:Sl k E w v l fp)(ha:Agree w w' fp):Sl k E w' v l fp:=by
 obtain⟨oa,cap,rfl,h1,h2,h3⟩:=h;refine⟨oa,cap,rfl,h1,h2,?_⟩;rcases h3 with h3| ⟨b,off,eS,rfl,hb,rfl,he⟩
 ·exact Or.inl h3
 ·have hbk:=ha b (by simp);exact Or.inr ⟨b,off,eS,rfl,hb.agree hbk,rfl,BU.agree G he hbk (ha.sub (fun _ hm=>aE _ hm))⟩
theorem Sl.lt{l:List α}(h:Sl k E w v l fp): ∀b,b∈fp→b<w.heap.size:=by
 obtain⟨oa,cap,rfl,h1,h2,h3⟩:=h;rcases h3 with⟨_,rfl,_⟩| ⟨b,off,eS,rfl,hb,rfl,he⟩
 ·simp
 ·intro c hc;rcases bh.1 hc with rfl|hc
  ·exact hb.lt
  ·obtain⟨f,hf,hcf⟩:=nP.1 hc;obtain⟨i,hi⟩:=List.getElem?_of_mem hf;have hil:i<l.length:=by have:=(aU.1 hi).1;have:=he.1;omega
   obtain⟨cs,_,hE⟩:=he.2 i l[i] f (az hil) hi;exact G.lt hE c hcf
theorem AK:mZ 1 (ESl k E):=
 ⟨by rintro w w' cs x fp ⟨v,rfl,h⟩ ha;exact⟨v,rfl,Sl.agree G h ha⟩,by rintro w cs x fp ⟨v,rfl,h⟩;exact Sl.lt G h,
  by rintro w cs x fp ⟨v,rfl,h⟩;rfl,by rintro w cs x fp ⟨v,rfl,oa,cap,rfl,h⟩ u hu;simp at hu;subst hu;rfl⟩
theorem Sl.below{l:List α}(h:Sl k E w v l fp)(hb:Below w.heap.size w w'):Sl k E w' v l fp:=Sl.agree G h (uR hb (Sl.lt G h))
end
theorem Sl.at{α:Type}{k:Nat}{E:ER α}{w:World}{oa:Option Addr}{n cap:Nat}{l:List α}{fp:List Nat}(h:Sl k E w (.slice oa n cap) l fp){i:Nat}{x:α}(hx:l[i]? =some x):
  ∃b off f cs,oa=some ⟨b,off,none⟩∧w.rangeAt b (off+i*k) cs∧E w cs x f∧(∀y,y∈f→y∈fp):=by
 obtain⟨oa',cap',hv,h1,h2,h3⟩:=h;simp only[Value.slice.injEq]at hv;obtain⟨rfl,_,rfl⟩:=hv;rcases h3 with⟨rfl,_⟩| ⟨b,off,eS,rfl,hb,rfl,he⟩
 ·simp at hx
 ·obtain⟨f,hf⟩:=mQ he.1 hx;obtain⟨cs,hr,hE⟩:=he.2 i x f hx hf;exact⟨b,off,f,cs,rfl,hr,hE,fun y hy=>aE _ (gB hf hy)⟩
structure Own(lo:Nat)(w:World)(fp:List Nat):Prop where
 nodup:fp.Nodup
 ge: ∀b,b∈fp→lo≤b
 kind: ∀b,b∈fp→ ∃c e,w.heap[b]? =some (.cells c e (0,0))
theorem Own.agree(h:Own lo w fp)(ha:Agree w w' fp):Own lo w' fp:=⟨h.nodup,h.ge,fun b hb=>by rw[ha b hb];exact h.kind b hb⟩
theorem Own.lt(h:Own lo w fp): ∀b,b∈fp→b<w.heap.size:=fun b hb=>by
 obtain⟨c,e,hk⟩:=h.kind b hb;exact(dZ.1 hk).1
theorem Own.nil(lo:Nat)(w:World):Own lo w []:=⟨List.nodup_nil,by simp,by simp⟩
theorem Own.mono{lo':Nat}(h:Own lo w fp)(hl:lo'≤lo):Own lo' w fp:=⟨h.nodup,fun b hb=>Nat.le_trans hl (h.ge b hb),h.kind⟩
theorem Own.below(h:Own lo w fp)(hb:Below w.heap.size w w'):Own lo w' fp:=h.agree (uR hb h.lt)
theorem Na{α:Type}{k:Nat}{E:ER α}{o:Nat}{l:List α}{xs:List Value}(hf:eS.length=l.length)
  (hx: ∀j u,xs[j]? =some u→w.cell? ⟨b,o+j,none⟩=some u)(h: ∀i x f,l[i]? =some x→eS[i]? =some f→E w ((xs.drop (i*k)).take k) x f):BU k E w b o l eS:=by
 refine⟨hf,fun i x f hi hfi=>⟨_,fun j v hv=> ?_,h i x f hi hfi⟩⟩;rw[Nat.add_assoc];refine hx _ _ ?_;rw[dH,]at hv;split at hv
 ·rw[dc]at hv;exact hv
 ·simp at hv
theorem UC{α:Type}{k:Nat}{E:ER α}{l:List α}{xs:List Value}(hf:eS.length=l.length)
  (hx: ∀j u,xs[j]? =some u→w.cell? ⟨b,j,none⟩=some u)(h: ∀i x f,l[i]? =some x→eS[i]? =some f→E w ((xs.drop (i*k)).take k) x f):BU k E w b 0 l eS:=by
 refine⟨hf,fun i x f hi hfi=>⟨_,fun j v hv=> ?_,h i x f hi hfi⟩⟩;rw[Nat.zero_add];refine hx _ _ ?_;have:=aU.1 hv;rw[dH,]at hv;split at hv
 ·rw[dc]at hv;exact hv
 ·simp at hv
end
end Go.Proofs.YtaalpcnbbldlaaaGreatDoor.L
namespace Go.Proofs.YtaalpcnbbldlaaaGreatDoor.D
set_option linter.all false
open Go.RowKit L
def vO(n:Int):Prop:= -9223372036854775808≤n∧n≤9223372036854775807
theorem Sl.one{α:Type}{k:Nat}{E:ER α}{w:World}{v:Value}{l:List α}{fp:List Nat}(h:Sl k E w v l fp):v.oneCell'=true:=by
 obtain⟨oa,cap,rfl,_⟩:=h;rfl
theorem oN: ∀u,u∈([]:List Value)→u.oneCell'=true:=by simp
theorem dN{v:Value}{l:List Value}(h:v.oneCell'=true)(r: ∀u,u∈l→u.oneCell'=true): ∀u,u∈v::l→u.oneCell'=true:=by
 intro u hu;rcases bh.1 hu with rfl|hu
 ·exact h
 ·exact r u hu
theorem C2{a b:List Value}(h: ∀u,u∈a→u.oneCell'=true)(r: ∀u,u∈b→u.oneCell'=true): ∀u,u∈a++b→u.oneCell'=true:=by
 intro u hu;rcases bg.1 hu with hu|hu
 ·exact h u hu
 ·exact r u hu
abbrev RB:=Sl 1 EU8
structure DB where
 rows:(List (List UInt8))
instance:Inhabited DB:=⟨⟨[]⟩⟩
def aCv(x:DB):Prop:=(fun l=> ∀x,x∈l→(fun l=> ∀x,x∈l→(fun _=>True) x) x) x.rows
def EDB:ER DB:=fun w cs x fp=> ∃(akf:Value) (akg:List Nat),cs= [akf]∧Sl 1 (ESl 1 EU8) w akf x.rows akg∧fp=akg
theorem wL:mZ 1 EDB where
 agree:=by rintro w w' cs x fp ⟨v0,f0,rfl,h0,rfl⟩ ha;exact⟨v0,_,rfl,(Sl.agree (AK pM) h0 (ha.sub fun b hb=>by simp[hb])),rfl⟩
 lt:=by rintro w cs x fp ⟨v0,f0,rfl,h0,rfl⟩ b hb;exact Sl.lt (AK pM) h0 b hb
 len:=by rintro w cs x fp ⟨v0,f0,rfl,h0,rfl⟩;rfl
 one:=by rintro w cs x fp ⟨v0,f0,rfl,h0,rfl⟩;exact(dN (Sl.one h0) oN)
structure bL where
 client:Int
 share:DB
instance:Inhabited bL:=⟨⟨0,default⟩⟩
def HZ:ER bL:=fun w cs x fp=> ∃(adS:List Value) (adT:List Nat),cs= [.int .i64 x.client]++adS∧EDB w adS x.share adT∧fp=adT
theorem C3:mZ 2 HZ where
 agree:=by rintro w w' cs x fp ⟨v0,f0,rfl,h0,rfl⟩ ha;exact⟨v0,_,rfl,(wL.agree h0 (ha.sub fun b hb=>by simp[hb])),rfl⟩
 lt:=by rintro w cs x fp ⟨v0,f0,rfl,h0,rfl⟩ b hb;exact wL.lt h0 b hb
 len:=by rintro w cs x fp ⟨v0,f0,rfl,h0,rfl⟩;simp[wL.len h0]
 one:=by rintro w cs x fp ⟨v0,f0,rfl,h0,rfl⟩;exact(C2 (dN rfl oN) (wL.one h0))
structure cH where
 id:Int
 rows:Int
 round:Int
 received:(List bL)
 behavior:Int
instance:Inhabited cH:=⟨⟨0,0,0,[],0⟩⟩
def akh:ER cH:=fun w cs x fp=> ∃(OP:Value) (OQ:List Nat),cs= [.int .i64 x.id, .int .i64 x.rows, .int .i64 x.round,OP, .int .i64 x.behavior]∧Sl 2 HZ w OP x.received OQ∧fp=OQ
theorem OR:mZ 5 akh where
 agree:=by rintro w w' cs x fp ⟨v0,f0,rfl,h0,rfl⟩ ha;exact⟨v0,_,rfl,(Sl.agree C3 h0 (ha.sub fun b hb=>by simp[hb])),rfl⟩
 lt:=by rintro w cs x fp ⟨v0,f0,rfl,h0,rfl⟩ b hb;exact Sl.lt C3 h0 b hb
 len:=by rintro w cs x fp ⟨v0,f0,rfl,h0,rfl⟩;rfl
 one:=by rintro w cs x fp ⟨v0,f0,rfl,h0,rfl⟩;exact(dN rfl (dN rfl (dN rfl (dN (Sl.one h0) (dN rfl oN)))))
structure bn where
 round:Int
 db:DB
instance:Inhabited bn:=⟨⟨0,default⟩⟩
def SU(x:bn):Prop:=(vO) x.round∧(aCv) x.db
def H6:ER bn:=fun w cs x fp=> ∃(aCw:List Value) (aCx:List Nat),cs= [.int .i64 x.round]++aCw∧EDB w aCw x.db aCx∧fp=aCx
theorem C4:mZ 2 H6 where
 agree:=by rintro w w' cs x fp ⟨v0,f0,rfl,h0,rfl⟩ ha;exact⟨v0,_,rfl,(wL.agree h0 (ha.sub fun b hb=>by simp[hb])),rfl⟩
 lt:=by rintro w cs x fp ⟨v0,f0,rfl,h0,rfl⟩ b hb;exact wL.lt h0 b hb
 len:=by rintro w cs x fp ⟨v0,f0,rfl,h0,rfl⟩;simp[wL.len h0]
 one:=by rintro w cs x fp ⟨v0,f0,rfl,h0,rfl⟩;exact(C2 (dN rfl oN) (wL.one h0))
structure tE where
 rows:Int
 rounds:(List bn)
instance:Inhabited tE:=⟨⟨0,[]⟩⟩
def abC(x:tE):Prop:=(vO) x.rows∧(fun l=> ∀x,x∈l→(SU) x) x.rounds
def aki:ER tE:=fun w cs x fp=> ∃(XK:Value) (XL:List Nat),cs= [.int .i64 x.rows,XK]∧Sl 2 H6 w XK x.rounds XL∧fp=XL
theorem C6:mZ 2 aki where
 agree:=by rintro w w' cs x fp ⟨v0,f0,rfl,h0,rfl⟩ ha;exact⟨v0,_,rfl,(Sl.agree C4 h0 (ha.sub fun b hb=>by simp[hb])),rfl⟩
 lt:=by rintro w cs x fp ⟨v0,f0,rfl,h0,rfl⟩ b hb;exact Sl.lt C4 h0 b hb
 len:=by rintro w cs x fp ⟨v0,f0,rfl,h0,rfl⟩;rfl
 one:=by rintro w cs x fp ⟨v0,f0,rfl,h0,rfl⟩;exact(dN rfl (dN (Sl.one h0) oN))
structure kf where
 id:Int
 gJ:Int
 key:Int
 seed:Int
 aT:(List (List UInt8))
 sent:Int
 inbox:(List (List UInt8))
 next:Int
instance:Inhabited kf:=⟨⟨0,0,0,0,[],0,[],0⟩⟩
def ahe:ER kf:=fun w cs x fp=> ∃(Ml:Value) (adU:Value) (Mm adV:List Nat),cs= [.int .i64 x.id, .int .i64 x.gJ, .int .i64 x.key, .int .i64 x.seed,Ml, .int .i64 x.sent,adU, .int .i64 x.next]∧Sl 1 (ESl 1 EU8) w Ml x.aT Mm∧Sl 1 (ESl 1 EU8) w adU x.inbox adV∧fp=Mm++adV
theorem sB:mZ 8 ahe where
 agree:=by rintro w w' cs x fp ⟨v0,v1,f0,f1,rfl,h0,h1,rfl⟩ ha;exact⟨v0,v1,_,_,rfl,(Sl.agree (AK pM) h0 (ha.sub fun b hb=>by simp[hb])),(Sl.agree (AK pM) h1 (ha.sub fun b hb=>by simp[hb])),rfl⟩
 lt:=by
  rintro w cs x fp ⟨v0,v1,f0,f1,rfl,h0,h1,rfl⟩ b hb;simp only[bg]at hb;rcases hb with hb|hb
  ·exact Sl.lt (AK pM) h0 b hb
  ·exact Sl.lt (AK pM) h1 b hb
 len:=by rintro w cs x fp ⟨v0,v1,f0,f1,rfl,h0,h1,rfl⟩;rfl
 one:=by rintro w cs x fp ⟨v0,v1,f0,f1,rfl,h0,h1,rfl⟩;exact(dN rfl (dN rfl (dN rfl (dN rfl (dN (Sl.one h0) (dN rfl (dN (Sl.one h1) (dN rfl oN))))))))
structure bR where
 live:kf
 saved:kf
instance:Inhabited bR:=⟨⟨default,default⟩⟩
def akj:ER bR:=fun w cs x fp=> ∃(akk:List Value) (adX:List Value) (akl adY:List Nat),cs=akk++adX∧ahe w akk x.live akl∧ahe w adX x.saved adY∧fp=akl++adY
theorem OS:mZ 16 akj where
 agree:=by rintro w w' cs x fp ⟨v0,v1,f0,f1,rfl,h0,h1,rfl⟩ ha;exact⟨v0,v1,_,_,rfl,(sB.agree h0 (ha.sub fun b hb=>by simp[hb])),(sB.agree h1 (ha.sub fun b hb=>by simp[hb])),rfl⟩
 lt:=by
  rintro w cs x fp ⟨v0,v1,f0,f1,rfl,h0,h1,rfl⟩ b hb;simp only[bg]at hb;rcases hb with hb|hb
  ·exact sB.lt h0 b hb
  ·exact sB.lt h1 b hb
 len:=by rintro w cs x fp ⟨v0,v1,f0,f1,rfl,h0,h1,rfl⟩;simp[sB.len h0,sB.len h1]
 one:=by rintro w cs x fp ⟨v0,v1,f0,f1,rfl,h0,h1,rfl⟩;exact(C2 (sB.one h0) (sB.one h1))
structure dF where
 rows:Int
 aC:(List cH)
 ah:(List bR)
 aH:tE
 bW:Int
 seed:Int
 round:Int
 replaced:(List Int)
 cancelled:Int
instance:Inhabited dF:=⟨⟨0,[],[],default,0,0,0,[],0⟩⟩
def arq:ER dF:=fun w cs x fp=> ∃(SW:Value) (SX:Value) (SY:List Value) (OT:Value) (SZ S0 S2 OU:List Nat),cs= [.int .i64 x.rows,SW,SX]++SY++ [.int .i64 x.bW, .int .i64 x.seed, .int .i64 x.round,OT, .int .i64 x.cancelled]∧Sl 5 akh w SW x.aC SZ∧Sl 16 akj w SX x.ah S0∧aki w SY x.aH S2∧Sl 1 aj9 w OT x.replaced OU∧fp=SZ++S0++S2++OU
theorem akm:mZ 10 arq where
 agree:=by rintro w w' cs x fp ⟨v0,v1,v2,v3,f0,f1,f2,f3,rfl,h0,h1,h2,h3,rfl⟩ ha;exact⟨v0,v1,v2,v3,_,_,_,_,rfl,(Sl.agree OR h0 (ha.sub fun b hb=>by simp[hb])),(Sl.agree OS h1 (ha.sub fun b hb=>by simp[hb])),(C6.agree h2 (ha.sub fun b hb=>by simp[hb])),(Sl.agree C0 h3 (ha.sub fun b hb=>by simp[hb])),rfl⟩
 lt:=by
  rintro w cs x fp ⟨v0,v1,v2,v3,f0,f1,f2,f3,rfl,h0,h1,h2,h3,rfl⟩ b hb;simp only[bg]at hb;rcases hb with((hb|hb)|hb)|hb
  ·exact Sl.lt OR h0 b hb
  ·exact Sl.lt OS h1 b hb
  ·exact C6.lt h2 b hb
  ·exact Sl.lt C0 h3 b hb
 len:=by rintro w cs x fp ⟨v0,v1,v2,v3,f0,f1,f2,f3,rfl,h0,h1,h2,h3,rfl⟩;simp[C6.len h2]
 one:=by rintro w cs x fp ⟨v0,v1,v2,v3,f0,f1,f2,f3,rfl,h0,h1,h2,h3,rfl⟩;exact(C2 (C2 (dN rfl (dN (Sl.one h0) (dN (Sl.one h1) oN))) (C6.one h2)) (dN rfl (dN rfl (dN rfl (dN (Sl.one h3) (dN rfl oN))))))
structure Ev where
 kind:Int
 node:Int
 value:Int
 body:(List UInt8)
instance:Inhabited Ev:=⟨⟨0,0,0,[]⟩⟩
def EEv:ER Ev:=fun w cs x fp=> ∃(OV:Value) (OW:List Nat),cs= [.int .i64 x.kind, .int .i64 x.node, .int .i64 x.value,OV]∧Sl 1 EU8 w OV x.body OW∧fp=OW
theorem ars:mZ 4 EEv where
 agree:=by rintro w w' cs x fp ⟨v0,f0,rfl,h0,rfl⟩ ha;exact⟨v0,_,rfl,(Sl.agree pM h0 (ha.sub fun b hb=>by simp[hb])),rfl⟩
 lt:=by rintro w cs x fp ⟨v0,f0,rfl,h0,rfl⟩ b hb;exact Sl.lt pM h0 b hb
 len:=by rintro w cs x fp ⟨v0,f0,rfl,h0,rfl⟩;rfl
 one:=by rintro w cs x fp ⟨v0,f0,rfl,h0,rfl⟩;exact(dN rfl (dN rfl (dN rfl (dN (Sl.one h0) oN))))
structure lV where
 fr:Int
 to:Int
 bytes:Int
instance:Inhabited lV:=⟨⟨0,0,0⟩⟩
def akn:ER lV:=fun _ cs x fp=>cs= [.int .i64 x.fr, .int .i64 x.to, .int .i64 x.bytes]∧fp= []
theorem ako:mZ 3 akn where
 agree:=fun h _=>h
 lt:=by rintro w cs x fp ⟨rfl,rfl⟩ b hb;simp at hb
 len:=by rintro w cs x fp ⟨rfl,rfl⟩;rfl
 one:=by rintro w cs x fp ⟨rfl,rfl⟩ u hu;simp at hu;rcases hu with rfl|rfl|rfl<;>rfl
structure kj where
 server:Int
 client:Int
 round:Int
 xl:Int
 mac:Int
instance:Inhabited kj:=⟨⟨0,0,0,0,0⟩⟩
def akp:ER kj:=fun _ cs x fp=>cs= [.int .i64 x.server, .int .i64 x.client, .int .i64 x.round, .int .i64 x.xl, .int .i64 x.mac]∧fp= []
theorem akq:mZ 5 akp where
 agree:=fun h _=>h
 lt:=by rintro w cs x fp ⟨rfl,rfl⟩ b hb;simp at hb
 len:=by rintro w cs x fp ⟨rfl,rfl⟩;rfl
 one:=by rintro w cs x fp ⟨rfl,rfl⟩ u hu;simp at hu;rcases hu with rfl|rfl|rfl|rfl|rfl<;>rfl
structure Plain where
 kind:Int
 body:(List UInt8)
instance:Inhabited Plain:=⟨⟨0,[]⟩⟩
def UF:ER Plain:=fun w cs x fp=> ∃(OV:Value) (OW:List Nat),cs= [.int .i64 x.kind,OV]∧Sl 1 EU8 w OV x.body OW∧fp=OW
theorem abD:mZ 2 UF where
 agree:=by rintro w w' cs x fp ⟨v0,f0,rfl,h0,rfl⟩ ha;exact⟨v0,_,rfl,(Sl.agree pM h0 (ha.sub fun b hb=>by simp[hb])),rfl⟩
 lt:=by rintro w cs x fp ⟨v0,f0,rfl,h0,rfl⟩ b hb;exact Sl.lt pM h0 b hb
 len:=by rintro w cs x fp ⟨v0,f0,rfl,h0,rfl⟩;rfl
 one:=by rintro w cs x fp ⟨v0,f0,rfl,h0,rfl⟩;exact(dN rfl (dN (Sl.one h0) oN))
structure gw where
 server:Int
 round:Int
 selection:(List Int)
 data:(List UInt8)
 mac:Int
instance:Inhabited gw:=⟨⟨0,0,[],[],0⟩⟩
def adZ:ER gw:=fun w cs x fp=> ∃(Mn:Value) (akr:Value) (Mo aks:List Nat),cs= [.int .i64 x.server, .int .i64 x.round,Mn,akr, .int .i64 x.mac]∧Sl 1 aj9 w Mn x.selection Mo∧Sl 1 EU8 w akr x.data aks∧fp=Mo++aks
theorem ahf:mZ 5 adZ where
 agree:=by rintro w w' cs x fp ⟨v0,v1,f0,f1,rfl,h0,h1,rfl⟩ ha;exact⟨v0,v1,_,_,rfl,(Sl.agree C0 h0 (ha.sub fun b hb=>by simp[hb])),(Sl.agree pM h1 (ha.sub fun b hb=>by simp[hb])),rfl⟩
 lt:=by
  rintro w cs x fp ⟨v0,v1,f0,f1,rfl,h0,h1,rfl⟩ b hb;simp only[bg]at hb;rcases hb with hb|hb
  ·exact Sl.lt C0 h0 b hb
  ·exact Sl.lt pM h1 b hb
 len:=by rintro w cs x fp ⟨v0,v1,f0,f1,rfl,h0,h1,rfl⟩;rfl
 one:=by rintro w cs x fp ⟨v0,v1,f0,f1,rfl,h0,h1,rfl⟩;exact(dN rfl (dN rfl (dN (Sl.one h0) (dN (Sl.one h1) (dN rfl oN)))))
end Go.Proofs.YtaalpcnbbldlaaaGreatDoor.D
