/-
  Part of the proof of StoreWhole.
-/
import Derived.Test.YtjbiihbicknemaaGreatMCme
set_option linter.unusedSimpArgs false
set_option linter.unusedVariables false
set_option maxRecDepth 20000
set_option maxHeartbeats 40000000
namespace Go.Proofs.YtjbiihbicknemaaGreat
open Go.RowKit Go.Sep
variable {W w:World} {L:List aA}
attribute [local irreducible] Oper.wp wpList Calls Code.wp Sep.dR Sep.fJ
theorem alA {pw pe k tot:Nat} {S:aK} {gs:List Nat} {D:aG} {R:dh} {l:List aT} {next:Int} {aq:Option Addr} {j cq:Nat} (q:Mk W L pw pe k tot S gs D R l next aq j cq) (shown:Bool) (hF:fq l<=(bT S.U S.sup.blocks.toNat).length) 
  {fb fo fc ct:Nat} {at_:Option Addr} {r g:Value} {a:Act} (hinv:Ou W L pw pe tot S gs R l next shown aq j cq (.slice (some ⟨fb,fo,none⟩) 128 fc) r g (.slice at_ tot ct) a w):
  From Tryz.prog 48 11 (fun e w'=>Er W L pw pe gs (iQ S D l next shown) e w') a w:=by
 have Jg:=Z q;obtain⟨sn,hsn⟩:=au S.sup.next
 have rq:=Z hsn;clear hsn;have bq:=Z q.ok;have HR:=Z q.rd;have HRR:=Z q.rel;have eH:=Z q.ok.x;have jX:=Z (show R.L=D.blocks from q.rel.blocks.symm);have iG:=Z (fun w M R (h:Sat W w (Cs pw 96 (bE pe S.sup (.slice (some ⟨fb,fo,none⟩) 128 fc) S.aB r g)::IsMap (.slice (some ⟨fb,fo,none⟩) 128 fc) S.U::Tb 100 3 rv r S.recs::Ir g gs::aW pe R::M))=>show Sat W w (dz pw pe S gs::aW pe R::M) from dz.mk h);have H5:=Z q.Ms;have aM:=Z q.ln;have pM:=q.lb;have iC:=Z (show ∀x∈l,(bX x).length=40 from fun x V=>AJ (q.pl x V));have lg:=Z q.tot;have hti:(tot:Int)<=80000:=by have:=q.kt;omega
 have rW:=Z q.right;have HB:=Z q.bad;obtain⟨nb,hnb⟩:=au R.L.length;have hbl:S.sup.blocks=(nb:Int):=by rw[<-hnb,jX.F];exact bq.F.blocks
 have n2:nb<=1024:=by rw[<-hnb,jX.F];exact bq.F.n2
 clear hnb hbl n2;have HF:=Z hF;have mX:=Z (show(dW S l).length=tot by rw[IG HF.F,lg.F]);clear q hF;refine From.intro Tryz.func48 rfl ?_;unfold Ou at hinv;obtain⟨hrel,ha⟩:=hinv;obtain⟨z,hz⟩:∃z:Nat->Value,∀i,a.tmps.getD i undef=z i:=⟨_,fun _=>rfl⟩
 try simp only[hz] at hrel
 replace ha:=ha.at hz;simp only[mM,lh,Nat.reduceAdd,Nat.zero_add] at ha;clear hz;subst ha;have O:=hrel;clear hrel
 -- what will be
 refine dK (fun KX aF=>?_);have H0:=Z (show VX W L pw pe S gs R l (.slice (some ⟨fb,fo,none⟩) 128 fc) r g (.slice at_ tot ct) (.int .i64 0) (.int .i64 0) (.slice none 0 0) (.slice none 0 0) (.slice none 0 0) _ from⟨0,rfl,rfl,eG _,Sat.wh (Sat.jb (Sat.jb O))⟩);clear O;go_wp2;go_loopw [21,20,17,18,19] (fun v21 v20 v17 v18 v19 wz=>VX W L pw pe S gs R l (.slice (some ⟨fb,fo,none⟩) 128 fc) r g (.slice at_ tot ct) v21 v20 v17 v18 v19 wz) (fun v21 _ _ _ _ _=>iV j v21)
 case atStart=>exact H0.F
 case round=>
  clear H0;obtain⟨i,rfl,rfl,hi,O⟩:=hrel;rw[aM.F] at hi
  by_cases hlt:i<j
  ·have k1:(i:Int)< (j:Int):=by omega
   have ay:=Z hlt;obtain⟨pb,po,rfl,_⟩:=H5.F (by have:=aM.F;omega);obtain⟨x,V⟩:∃x,l[i]? =some x:=⟨_,aR (by have:=aM.F;omega)⟩
   have dD:=Z V;have hxm:=bJ V;have ru:=Z hxm;obtain⟨n,y,hq⟩:=bq.F.qQ rW.F HF.F V;have HQ:=Z hq;have hsx:=(HR.F _ [_,_,_,_,_,_,_,_,_] O).2 x hxm;have iY:=Z (HR.F _ [_,_,_,_,_,_,_,_,_] O).1;have Ns:=hq.n48;have n48:(n:Int)<48:=by omega
   have DU:=Z (show(bX x)[0]? =some (.int .i64 (n:Int)) by rw[<-hq.at_];rfl);have jf:=Z (FI hsx.pl);have qW:=Z (OW hsx.pl);have zb:=Z hsx.pl;have qg:=Z hsx.s1;have HS2:=Z hsx.s2;obtain⟨ap,cp,hpv⟩:∃ao c,x.nP= .slice ao x.pieces.length c:=by obtain⟨ao,c,he,_⟩:=hsx.p;exact⟨ao,c,he⟩
   obtain⟨np,fT⟩:=au x.pieces.length;obtain⟨kH,hof⟩:=au (jG l i);have hsum:=Ii V;have nI:=Z (zF V);rw[hof,fT] at hsum nI;rw[lg.F] at hsum;have hs1:(kH:Int)+(np:Int)<=80000:=by omega
   rw[hpv,fT] at jf;rw[hof];have JW:((dW S l).drop kH).take np=je S l i x:=by unfold je;rw[hof,fT]
   have vN:=Z (fun w M k (h:Sat W w M) (hk:Has M k (Ir (.slice at_ tot ct) (dW S l)))=>(show Rd w (.slice (uY at_ ct kH 1) np (ct-kH)) np 1 (iv (je S l i x)) from by
    obtain⟨ao,c,he,_,h3⟩:=Pg (h.zx mX.F hk) mX.F hsum;obtain⟨rfl,rfl⟩:=gq he;rw[JW] at h3
    exact h3))
   have wP:=Z (show kH+np<=ct from by
    obtain⟨ao,c,he,H,_⟩:=Pg (O.zx mX.F hz3) mX.F hsum;obtain⟨rfl,rfl⟩:=gq he
    exact H)
   have qH:=Z fT;have uR:=Z hpv;have jg:=Z (show(je S l i x).length=np by rw[Ki HF.F V,fT]);have oU:=Z (Un (pd:=pe) (s:=S.sup) (fv:=(.slice (some ⟨fb,fo,none⟩) 128 fc)) (r:=r) (last:=g) eH.F hq.ino)
   have wW:=Z (show ∀w M,Sat W w (M++L)->Rd w (.slice ap np cp) np 1 (pv x.pieces) from fun w M h=>by
    have:=((HR.F w M h).2 x ru.F).p;rw[uR.F,qH.F] at this
    exact this)
   have dJ:=Z (fun w M k (h:Sat W w (M++L)) (hk:Has (M++L) k (Ir (.slice at_ tot ct) (dW S l)))=>
    (abP h y x.ino HQ.F.uH zb.F qg.F HS2.F x.pieces (je S l i x) ap (.slice (uY at_ ct kH 1) np (ct-kH)) cp qH.F (fun w L' h=>wW.F w (L'++M) (by rw[dX];exact h)) (fun w L' h=>by
     have h3:=vN.F w _ _ h (has_add hk L');rw[jg.F]
     exact h3)).mono (fun e w' (hE:zY W _ _ _ _ _ e w')=>(show ∃yU,e= .returned (.tuple #[.agg (inv (gX S l i x)).toArray,yU, .bool true])/\Sat W w' (Ir yU (qM S l i x)::(M++L)) from by
      rcases hE with⟨_,h⟩|⟨hn,_⟩
      ·unfold qM;rw[HQ.F.pQ,HQ.F.NU];exact h
      ·rw[HQ.F.next] at hn
       exact absurd hn (by decide))))
   have wT:=Z (show(inv y).length=37 by rw[fe,HQ.F.uH.pl]);have wS:=Z (show(inv x.ino).length=37 by rw[fe,zb.F]);have tZ:=Z (inv_one (gX S l i x));have jh:=Z (show(inv (gX S l i x)).length=37 by rw[fe,HQ.F.ok.pl]);have vO:=Z (fun w M (h:Sat W w M)=>OI h (gX S l i x) HQ.F.ok);have aes:=Z (show ∀z∈[gX S l i x],(inv z).length=37 from fun z hz=>by rw[eD.1 hz];exact jh.F);have aeu:=Z (show ∀u∈[gX S l i x].flatMap inv,u.oneCell'=true by rw[xh];exact tZ.F);obtain⟨iy,vY⟩:=au (inv y);obtain⟨ix,hix⟩:=au (inv x.ino);obtain⟨ni,hni⟩:=au (inv (gX S l i x));obtain⟨ei,De⟩:=au (encI (gX S l i x));have Qp:=Z hni;have aet:=Z jh.F;rw[vY] at oU wT dJ;rw[hix] at qW wS dJ;rw[hni] at dJ tZ jh vO;rw[De] at vO;have LZ:=Z (show(ni.drop 0).take 37=ni by rw[kz,dF (by rw[jh.F];exact aZ _)]);have tV:=Z (Nc (S:=S) dD.F);have rU:=Z (Tc (S:=S) dD.F);have Eh:=Z (Lh (S:=S) dD.F);rw[De,HQ.F.at_] at Eh;obtain⟨gone,vX⟩:=au (qM S l i x);rw[vX] at dJ tV
   have hgl:(gN S l i).length+gone.length<=1000:=by
    have I:=(GN bq.F rW.F HF.F (i+1) (by have:=aM.F;have:=ay.F;omega)).2;rw[tV.F,bP] at I;have:=(zJ rW.F).1;have:=ay.F;have:=aM.F;omega
   have fU:=Z hgl;have LV:=Z (show i<=8 by have:=(zJ rW.F).1;have:=aM.F;omega);have Vu:=Z (show(jS S l i).length=i from Hz i (by have:=aM.F;omega));have VK:=Z (UL (S:=S) (l:=l) i);clear hi hlt V hxm hq hsx Ns hpv fT hof hsum JW vY hix hni De vX hgl
   go_wp2_with (refine bN (fE (f:=bX) (x:=x) iY.F iC.F _ _ (by rfl) _ (by rfl) (aI (by rfl)) i 38 (by omega) dD.F jf.F (by have:=ay.F;have:=aM.F;omega)) ?_)
   (refine ll (pO [0,1,2]<|tO [3]<|pO [4]<|rO [5]<|pO [6,7]<|tO [8]<|rO [9]<|pO [10,11]<|tO [12]<|pO [13]<|rO [14]<|pO [15,16]<|tO [17]<|pO [18]<|rO [19]<|pO [20,21,22,23]<|wO [24]<|tO [25]<| .m 26 31 (pO [27,28,29,30]<|aO [31]<| .e) (aO [26]<|pO [27,28,29,30]<| .e)) [26,32] O (fun _ h=>h) ?_;clear O;intro J O)
   repeat (first
    |(refine bG O ?_ (hL:=fun _ h=>by first|exact h|exact h|(first|exact h|exact h.drop|exact h.drop.drop));go_frame)
    |(refine mR O ?_ (hL:=fun _ h=>by first|exact h|exact h|(first|exact h|exact h.drop|exact h.drop.drop));go_frame;try simp(disch:=omega) only[IntWalk.i64_in])
    |(refine oI O ?_ (hL:=fun _ h=>by first|exact h|exact h|(first|exact h|exact h.drop|exact h.drop.drop));apply Exists.intro;apply And.intro;(intro w;first|first|exact Om (lo:=kH) (m:=np) (by rfl) (by rfl) (by rfl) (by rfl) (by first|omega|(rw[IntWalk.i64_in _ (by omega)];omega)|(rw[IntWalk.wrap64_in _ (by omega)];omega)) (by first|omega|(rw[IntWalk.i64_in _ (by omega)];omega)|(rw[IntWalk.wrap64_in _ (by omega)];omega)) wP.F (bS (by rfl)) w|(go_simp;rw[if_pos (by omega)])|(go_simp;try with_reducible rfl));go_frame)
    |(refine bR O ?_ (hL:=fun _ h=>by first|exact h|exact h|(first|exact h|exact h.drop|exact h.drop.drop));(first
       |refine⟨_,fun u hu=>fE (f:=bX) (x:=x) (HR.F u [_,_,_,_,_,_,_,_,_] hu).1 iC.F _ _ (by rfl) _ (by rfl) (aI (by rfl)) i 0 (by omega) dD.F DU.F (by have:=ay.F;have:=aM.F;omega),?_⟩
       |refine⟨_,fun u hu=>fE (f:=bX) (x:=x) (HR.F u [_,_,_,_,_,_,_,_,_] hu).1 iC.F _ _ (by rfl) _ (by rfl) (aI (by rfl)) i 38 (by omega) dD.F jf.F (by have:=ay.F;have:=aM.F;omega),?_⟩
       |refine lY fD iy ?_ (hvs:=oU.F) (hb:=wT.F)
       |refine⟨_,fun u hu=>Dw (f:=bX) (x:=x) (HR.F u [_,_,_,_,_,_,_,_,_] hu).1 iC.F _ _ (by rfl) _ (by rfl) (aI (by rfl)) (bz (by rfl)) i 1 (by omega) dD.F (vs:=ix) qW.F wS.F (by have:=ay.F;have:=aM.F;omega),?_⟩);go_frame))
   revert O;apply Ca (aO [32]<|pO [33,34]<| .e) (fun(Fw _b2 _b3:Nat) (vg _v2 _v3:Value) w'=>Sat W w' (Cs Fw 78 (List.replicate 37 (.int .i64 0))::Ir vg gone::Ir u17 (gN S l i)::Tb 78 37 inv u18 (jS S l i)::Tb 150 2 dS u19 (jq S l i)::Ir (.slice at_ tot ct) (dW S l)::Cs pw 96 (bE pe S.sup (.slice (some ⟨fb,fo,none⟩) 128 fc) S.aB r g)::IsMap (.slice (some ⟨fb,fo,none⟩) 128 fc) S.U::Tb 100 3 rv r S.recs::Ir g gs::aW pe R::L)) (Ir u17 (gN S l i)::Tb 78 37 inv u18 (jS S l i)::Tb 150 2 dS u19 (jq S l i)::Ir (.slice at_ tot ct) (dW S l)::Cs pw 96 (bE pe S.sup (.slice (some ⟨fb,fo,none⟩) 128 fc) S.aB r g)::IsMap (.slice (some ⟨fb,fo,none⟩) 128 fc) S.U::Tb 100 3 rv r S.recs::Ir g gs::aW pe R::L)
   case I=>
    intro hJ O
    repeat' (first
     |(refine bG O ?_ (hL:=fun _ h=>by first|exact h|exact h|(first|exact h|exact h.drop|exact h.drop.drop));go_frame)
       |(refine bY fun K hK=>?_;(first|(refine dst 173 ?_;(first|refine cK (dJ.F _ [_,_,_,_,_,_,_,_,_] _ O hz3) ?_|refine cK (dJ.F _ [_,_,_,_,_,_,_,_,_,_] _ O fD) ?_);clear O;rintro e J ⟨vg,rfl,O⟩;refine⟨_,rfl,?_⟩)|(refine dst 23 ?_;refine uW O ?_;clear O;intro Fw J O;rw[aS] at O));refine hK.up O ?_ (.inr ⟨rfl,fun _ h=>by first|exact h|exact h.drop|exact h.drop.drop⟩);clear hK K;go_frame)
       |(refine Cc ?_ ?_<;>(intro K hK;(first|(refine dst 173 ?_;(first|refine cK (dJ.F _ [_,_,_,_,_,_,_,_,_] _ O hz3) ?_|refine cK (dJ.F _ [_,_,_,_,_,_,_,_,_,_] _ O fD) ?_);clear O;rintro e J ⟨vg,rfl,O⟩;refine⟨_,rfl,?_⟩)|(refine dst 23 ?_;refine uW O ?_;clear O;intro Fw J O;rw[aS] at O));refine hK.up O ?_ (.inr ⟨rfl,fun _ h=>by first|exact h|exact h.drop|exact h.drop.drop⟩);clear hK K;go_frame))
       |(refine Cb ?_;refine(fun(g:Nat->Nat->Value->Value->_)=>g 0 0 (.slice none 0 0) (.slice none 0 0)) ?_;intro x2 x3 y2 y3;first|exact hJ Fw x2 x3 vg y2 y3 _ O|exact hJ Fw x2 x3 vg y2 y3 _ (O.re [1,0])))
   intro Fw _ _ vg _ _ J O
   repeat (first
    |(refine bG O ?_ (hL:=fun _ h=>by first|exact h|exact h|(first|exact h|exact h.drop|exact h.drop.drop));go_frame)
    |(refine bY fun K hK=>?_;(refine DF ni O aa ?_ (hv:=tZ.F) (hn:=by rw[jh.F];exact bz (by rfl)) (hb:=by rw[jh.F];rfl);clear O;intro J O;dsimp only[aD,aN] at O);first|refine hK.up O ?_|refine hK.up O ?_ (.inr ⟨rfl,fun _ h=>by first|exact h|exact h.drop|exact h.drop.drop⟩);clear hK K;go_frame))
   refine bO ?_
   go_wp2_with (first
    |(refine il [.agg ni.toArray] O ?_ (hc:=by intro u hu;rw[eD.1 hu];simp[Value.cells,jh.F]);clear O;intro b30 J O;rw[kP] at O)
    |(at_builtin;refine aU ?_;refine rz O _ _ _ _ (by rfl) (by rfl) (by rfl) (bS (by rfl)) (by rfl) (by rfl) (by rfl) (dO (by rfl)) hz2 (m:=gone) (by exact O.oG hz1) (by have:=fU.F;omega) ?_;clear O;intro v17 J O;rw[aN,aN,aD,<-tV.F] at O)
    |(at_builtin;refine og (f:=inv) O fD [gX S l i x] ?_ (hlen:=aes.F) (hsrc:=by exact O.gZ (f:=inv) (x:=gX S l i x) (by rw[Qp.F];exact aa) aet.F) (I:=aeu.F) (hb:=by rw[Vu.F];have:=LV.F;simp only[dC];omega) (hm:=by rw[Vu.F];have:=LV.F;simp only[dC];omega);clear O;intro a18 c18 J _ O;rw[aN,aN,aN,aN,aD] at O;rw[<-rU.F] at O ⊢)
    |(refine dm O aa ni ?_ (hvs:=LZ.F) (hb:=jh.F)))
   replace O:Sat W _ (Cs Fw 78 ni::Tb 150 2 dS _ (jq S l i)::Ir _ (gN S l (i+1))::Tb 78 37 inv _ (jS S l (i+1))::Ir (.slice at_ tot ct) (dW S l)::Cs pw 96 (bE pe S.sup (.slice (some ⟨fb,fo,none⟩) 128 fc) S.aB r g)::IsMap (.slice (some ⟨fb,fo,none⟩) 128 fc) S.U::Tb 100 3 rv r S.recs::Ir g gs::aW pe R::_::_::L):=O.re [1,5,3,4,6,7,8,9,10,11]
   (refine cB (pO [0,1,2]<|tO [3]<|pO [4]<|rO [5]<|wO [6]<|rO [7]<|aO [8]<|rO [9]<|pO [10]<|aO [11,12]<|pO [13]<| .e) [11,12] O ?_;clear O;intro J O)
   repeat (first
    |(refine bG O ?_;go_frame)
    |(refine mR O ?_;go_frame;try simp(disch:=omega) only[IntWalk.i64_in])
    |(refine oI O ?_;apply Exists.intro;apply And.intro;(intro w;first|go_simp;rw[if_pos (by omega)]|(go_simp;try with_reducible rfl));go_frame)
    |(refine OH O ?_;(first
       |refine⟨_,fun u hu=>fE (f:=bX) (x:=x) (HR.F u [_,_,_,_,_,_,_,_,_,_,_,_] hu).1 iC.F _ _ (by rfl) _ (by rfl) (aI (by rfl)) i 0 (by omega) dD.F DU.F (by have:=ay.F;have:=aM.F;omega),?_⟩
       |refine lY aa ni ?_ (hvs:=LZ.F) (hb:=jh.F)
       |refine⟨_,xM _ _ _ (by rfl) _ (by rfl) jI (l:=ei) (fun u hu=>hu.dY (k:=0) rfl),?_⟩);go_frame)
    |(refine bY fun K hK=>?_;(first
       |(refine cK (vO.F _ _ O) ?_;clear O;rintro e J ⟨vb,rfl,O⟩;refine⟨_,rfl,?_⟩)
       |(refine mJ [.agg (dS (26+(n:Int),ei)).toArray] O ?_ (hc:=by simp[dS,Value.cells,gM]);clear O;intro b31 J O;rw[kP] at O)
       |(refine Js (f:=dS) O hz3 [(26+(n:Int),ei)] ?_ (hsrc:=by exact O.gZ (f:=dS) aa rfl) (I:=by exact DN _) (hb:=by have:=VK.F;have:=LV.F;simp only[dC];omega) (hm:=by have:=VK.F;have:=LV.F;simp only[dC];omega);clear O;intro a19 c19 J _ O;dsimp only[aD,aN] at O;rw[<-Eh.F] at O ⊢));refine hK.go O ?_;clear hK K;go_frame))
   refine bO ?_;go_wp2;exact⟨⟨i+1,by go_num,by rw[nI.F];go_num,by rw[aM.F];exact ay.F,((O.re [4,5,3,6,7,8,9,10,11]).re [9,10,11,12,13]).drop.drop.drop.drop.drop⟩,fZ ay.F⟩
  ·obtain rfl:i=j:=by omega
   have k1:¬(i:Int)< (i:Int):=by omega
   have hot:jG l i=tot:=by rw[<-aM.F,Fh,lg.F]
   rw[hot];have hil:i=l.length:=aM.F.symm;rw[hil] at O;clear hlt hi hot hil;go_wp2;refine aF.F _ _ ?_;clear aF
   -- is there nothing to do
   obtain⟨sh,hsh⟩:=au S.sup.shown;obtain⟨rc,hrc⟩:=au S.sup.records;have G5:=Z (show(bE pe S.sup (.slice (some ⟨fb,fo,none⟩) 128 fc) S.aB r g)[5]? =some (.int .i64 sh) by rw[Ch (by decide),<-hsh];rfl);have G4:=Z (show(bE pe S.sup (.slice (some ⟨fb,fo,none⟩) 128 fc) S.aB r g)[4]? =some (.int .i64 rc) by rw[Ch (by decide),<-hrc];rfl);have G6:=Z (show(bE pe S.sup (.slice (some ⟨fb,fo,none⟩) 128 fc) S.aB r g)[6]? =some (.int .i64 sn) by rw[Ch (by decide),<-rq.F];rfl);have hcase:((l=[]/\lq S next shown=S.sup)/\((((i:Int)==0)=true/\shown=false/\(sn==next)=true)∨(((i:Int)==0)=true/\shown=true/\(sh==rc)=true/\(sn==next)=true)))∨
     (¬(l=[]/\lq S next shown=S.sup)/\((((i:Int)==0)=false)∨(((i:Int)==0)=true/\shown=true/\(sh==rc)=false)∨(((i:Int)==0)=true/\shown=false/\(sn==next)=false)∨(((i:Int)==0)=true/\shown=true/\(sh==rc)=true/\(sn==next)=false))):=by
    rw[anA,hsh,hrc,rq.F]
    by_cases h0:i=0
    ·have e0:((i:Int)==0)=true:=by rw[h0];rfl
     have l0:l=[]:=yZ.1 (by rw[aM.F];exact h0)
     by_cases I:sn=next
     ·have e1:(sn==next)=true:=beq_iff_eq.2 I
      cases shown with
      |false=>exact .inl ⟨⟨l0,I, .inl rfl⟩, .inl ⟨e0,rfl,e1⟩⟩
      |true=>
       by_cases H:sh=rc
       ·exact .inl ⟨⟨l0,I, .inr H⟩, .inr ⟨e0,rfl,beq_iff_eq.2 H,e1⟩⟩
       ·refine .inr ⟨fun h=>?_, .inr (.inl ⟨e0,rfl,dH.2 H⟩)⟩
        rcases h.2.2 with h|h
        ·exact absurd h (by decide)
        ·exact H h
     ·have e1:(sn==next)=false:=dH.2 I
      cases shown with
      |false=>exact .inr ⟨fun h=>I h.2.1, .inr (.inr (.inl ⟨e0,rfl,e1⟩))⟩
      |true=>
       by_cases H:sh=rc
       ·exact .inr ⟨fun h=>I h.2.1, .inr (.inr (.inr ⟨e0,rfl,beq_iff_eq.2 H,e1⟩))⟩
       ·exact .inr ⟨fun h=>I h.2.1, .inr (.inl ⟨e0,rfl,dH.2 H⟩)⟩
    ·exact .inr ⟨fun h=>h0 (by rw[<-aM.F,h.1];rfl), .inl (dH.2 (by omega))⟩
   clear hsh hrc;refine pV (Ov W L pw pe tot S gs R l next shown aq i cq (.slice (some ⟨fb,fo,none⟩) 128 fc) r g (.slice at_ tot ct) u17 u18 u19) (fun KX aF=>?_) ?_
   ·rcases hcase with⟨hsame,hc⟩|⟨hsame,hc⟩
    ·have iK:=Z (show iQ S D l next shown=(0,S,D) by
      unfold iQ
      rw[if_neg (by rw[HB.F];decide),if_neg (by have:=HF.F;omega),if_pos hsame])
     clear hsame
     rcases hc with⟨e0,rfl,e3⟩|⟨e0,rfl,e1,e3⟩
     all_goals
      go_wp2
      (refine cB (pO [0,1,2,3,4,5,6,7,8,9,10]<|rO [11]<|pO [12,13,14,15]<|rO [16]<|pO [17,18,19,20,21,22,23,24]<|rO [25]<|pO [26,27,28]<| .e) [] O ?_;clear O;intro J O)
      repeat (first
       |(refine bG O ?_;go_frame)
       |(refine sK O ?_;go_frame)
       |(refine bR O ?_;(first
             |refine bK fD G5.F ?_
             |refine bK fD G4.F ?_
             |refine bK fD G6.F ?_);go_frame))
      refine bO ?_;go_wp2;go_ret;rw[iK.F];exact⟨rfl,R,HRR.F,iG.F _ _ _ O.drop.drop.drop.drop⟩
    ·have oO:=Z hsame;clear hsame
     rcases hc with e0|⟨e0,rfl,e1⟩|⟨e0,rfl,e3⟩|⟨e0,rfl,e1,e3⟩
     all_goals
      go_wp2
      (refine cB (pO [0,1,2,3,4,5,6,7,8,9,10]<|rO [11]<|pO [12,13,14,15]<|rO [16]<|pO [17,18,19,20,21,22,23,24]<|rO [25]<|pO [26,27,28]<| .e) [] O ?_;clear O;intro J O)
      repeat (first
       |(refine bG O ?_;go_frame)
       |(refine sK O ?_;go_frame)
       |(refine bR O ?_;(first
             |refine bK fD G5.F ?_
             |refine bK fD G4.F ?_
             |refine bK fD G6.F ?_);go_frame))
      refine bO ?_;go_wp2;refine aF.F _ _ ?_;unfold Ov;exact⟨⟨oO.F,O⟩,rfl⟩
   clear O hcase G5 G4 G6;exact fun a w h=>(alB Jg.F shown HF.F h).use Tryz.func48 rfl rfl
end Go.Proofs.YtjbiihbicknemaaGreat
