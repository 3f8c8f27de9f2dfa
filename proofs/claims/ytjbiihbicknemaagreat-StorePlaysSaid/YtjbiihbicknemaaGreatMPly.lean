/-
  Part of the proof of StorePlays.
-/
import Derived.Test.YtjbiihbicknemaaGreatStDo
import Derived.Test.YtjbiihbicknemaaGreatMSam
import Derived.Test.YtjbiihbicknemaaGreatMFmx
set_option linter.unusedSimpArgs false
set_option linter.unusedVariables false
set_option maxRecDepth 20000
set_option maxHeartbeats 40000000
namespace Go.Proofs.YtjbiihbicknemaaGreat
open Go.RowKit Go.Sep
variable {W w:World} {L:List aA}
theorem bQ {D:aG} (h:Inv D):Fr (D.image D.writes.length):=⟨rfl,rfl,⟨h.image.2.ok,by show(-1:Int)<= -1;decide,by show(-1:Int)<=_;decide,aZ _⟩⟩
structure ah (D:aG) (S:aK) (gs:List Nat) (k:Nat):Prop where
 ok:D.dead=false->bA D.blocks S gs
 rcv:∃S' gs' C,yh (D.image D.writes.length) S' gs' C
 dg:DG D k
 inv:Inv D
section
variable {D:aG} {S:aK} {gs:List Nat} {k:Nat}
theorem dN (h:bA D.blocks S gs) (hg:DG D k) (hi:Inv D):ah D S gs k:=
 ⟨fun _=>h,⟨S,gs,D.blocks,Ox (bQ hi) (by rw[hi.image.1];exact h) (fun p _=>by rw[hi.image.1])⟩,hg,hi⟩
theorem ah.to (h:ah D S gs k) {m:Nat} (hm:k<=m):ah D S gs m:= {h with dg:=h.dg.mono hm}
theorem fM {c1:Int} {S1:aK} {gs1 gs':List Nat} {B1:List (List UInt8)} {r:Int×aK×aG} (h:ah D S gs k) (I:bA B1 S1 gs1) (hw:CR S gs D.blocks c1 S1 gs1 B1 D r) (hgs:r.1=c1->gs'=gs1):ah r.2.2 r.2.1 gs' (k+500):=by
 obtain⟨⟨l,hl,e⟩,hw⟩:=hw;have hg:=h.dg.run l;have hi:=Inv.run l h.inv;rw[<-e] at hg hi
 rcases hw with⟨a1,a2,_,a4⟩|⟨_,_,a3,a4⟩
 ·exact dN (by rw[a4,a2,hgs a1];exact I) (hg.mono (by omega)) hi
 ·refine⟨(fun h=>absurd (a3.symm.trans h) (by decide)),?_,hg.mono (by omega),hi⟩
  rcases a4 _ (bQ hi) hi.image.1 with a|a
  ·exact⟨_,_,_,a⟩
  ·exact⟨_,_,_,a⟩
theorem yg.A7 {r:Int×aK×aG} {gs':List Nat} (h:ah D S gs k) (hd:D.dead=false) (ho:yg S D gs r gs'):ah r.2.2 r.2.1 gs' (k+500):=by
 cases ho with
 |grow l shown hl=>
  obtain⟨c1,S1,B1,I,_,h3⟩:=YS (h.ok hd) l shown;exact fM h I (h3 D hd rfl) (fun e=>by rw[e])
 |mount=>
  obtain⟨c1,S1,B1,I,_,h3⟩:=akb (h.ok hd);exact fM h I (h3 D hd rfl) (fun _=>rfl)
 |EG l next shown hl=>
  obtain⟨c1,S1,B1,I,_,h3⟩:=Xo (h.ok hd) l (by omega) next shown
  exact fM h I (h3 D hd rfl) (fun _=>rfl)
 |fits=>exact h.to (by omega)
theorem ah.cut (h:ah D S gs k) {n:Int} (h0:0<=n) (I:n<=9223372036854775807):ah {D with left:=n} S gs k:=
 ⟨h.ok,h.rcv,⟨⟨h.inv.ok.len,h.inv.ok.base,h.inv.ok.at_⟩,by show -1<=n;omega,I,h.dg.wr⟩,⟨⟨h.inv.ok.len,h.inv.ok.base,h.inv.ok.at_⟩,h.inv.blk⟩⟩
theorem Rel.cut {R:dh} (h:Rel D R) {n:Int} (h0:0<=n) (I:n<=9223372036854775807):Rel {D with left:=n} {R with armed:=true,left:=n} :=
 ⟨h.blocks,h.writes,h.dead,rfl,h0,I,⟨h.ok.len,h.ok.base,h.ok.at_⟩⟩
theorem Inv.BX {gP:aG} (h:Inv gP):Inv (o6 gP).2/\(o6 gP).2.blocks.length=gP.blocks.length:=by
 cases hb:mV gP with
 |false=>rw[(BZ hb).1];exact⟨h,rfl⟩
 |true=>rw[(TQ (R:=⟨[],[],false,0,false⟩) hb rfl).1];exact⟨h.run _,TU _ _⟩
theorem ah.image (h:ah D S gs k):∃S' gs' E k',o6 (D.image D.writes.length)=(0,E)/\Lv E E.blocks k'/\bA E.blocks S' gs'/\ah E S' gs' 42/\26<=(D.image D.writes.length).blocks.length:=by
 obtain⟨S',gs',C,E,k',I,H,h3,h4,h5⟩:=h.rcv;obtain⟨r1,r2⟩:=h.inv.image.2.BX;rw[I] at r1 r2;have e0:(D.image D.writes.length).writes.length=0:=rfl;refine⟨S',gs',E,k',I,H,h4,dN h4 (H.ok.mono (by omega)) r1,?_⟩;have:=h4.n1;rw[<-r2];show 26<=E.blocks.length;omega
theorem Rel.image {R:dh} (h:Rel D R) (hi:Inv D):Rel (D.image D.writes.length) {L:=R.L,Log:=[],armed:=false,left:=0,dead:=false} :=
 ⟨hi.image.1.trans h.blocks,rfl,rfl,rfl,Int.le_refl 0,(by show(0:Int)<=9223372036854775807;decide),hi.image.2.ok⟩
end
attribute [local irreducible] Oper.wp wpList Calls Code.wp Sep.dR Sep.fJ
def rZ (W:World) (L:List aA) (po k:Nat) (e:Ending) (w':World):Prop:=
 e= .returned (.bool true)/\∃pd ps pe pw S gs D R,ah D S gs k/\Rel D R/\Sat W w' (Cs po 36 (vB pd ps pe pw)::bF ps pd S::aP pd D::dz pw pe S gs::aW pe R::L)
section
variable {W w:World} {L M:List aA} {A B C E oL:aA} {po pd ps pe pw k:Nat} {S:aK} {gs:List Nat} {D:aG} {R:dh}
theorem xR (O:Sat W w (A::B::C::aP pd D::M)) (n:Int):
  Calls Tryz.prog 24 #[.pointer (some ⟨pd,0,none⟩), .int .i64 n] w fun e w'=>e= .returned (.bool (decide (0<=n)))/\Sat W w' (A::B::C::aP pd (if 0<=n then {D with left:=n} else D)::M):=by
 by_cases h:0<=n
 ·rw[if_pos h,bL h];exact(ag1 (O.re [3]) n h).mono fun e w' ⟨he,I⟩=>⟨he,I.re [1,2,3]⟩
 ·rw[if_neg h,bf h];exact(apt (O.re [3]) n (by omega)).mono fun e w' ⟨he,I⟩=>⟨he,I▸O⟩
theorem A9 (O:Sat W w (A::B::C::E::oL::aW pe R::M)) (n:Int):
  Calls Tryz.prog 42 #[.pointer (some ⟨pe,0,none⟩), .int .i64 n] w fun e w'=>e= .returned (.bool (decide (0<=n)))/\Sat W w' (A::B::C::E::oL::aW pe (if 0<=n then {R with armed:=true,left:=n} else R)::M):=by
 by_cases h:0<=n
 ·rw[if_pos h,bL h];exact(aql (O.re [5]) n h).mono fun e w' ⟨he,I⟩=>⟨he,I.re [1,2,3,4,5]⟩
 ·rw[if_neg h,bf h];exact(aqk (O.re [5]) n (by omega)).mono fun e w' ⟨he,I⟩=>⟨he,I▸O⟩
theorem A8 {s0 w0:Value} (ho:ah D S gs k) (hR:Rel D R) (O:Sat W w (Cs po 36 [.pointer (some ⟨pd,0,none⟩),s0, .pointer (some ⟨pe,0,none⟩),w0]::aP pd (D.image D.writes.length)::aW pe {L:=R.L,Log:=[],armed:=false,left:=0,dead:=false} ::L)):
  Calls Tryz.prog 9 #[.pointer (some ⟨po,0,none⟩)] w fun e w'=>e= .returned (.bool true)/\∃ps pw S' gs' E R',ah E S' gs' 42/\Rel E R'/\Sat W w' (Cs po 36 (vB pd ps pe pw)::bF ps pd S'::aP pd E::dz pw pe S' gs'::aW pe R'::L):=by
 obtain⟨S',gs',E,k',I,H,h3,h4,h5⟩:=ho.image;refine(akx h3 (hR.image ho.inv) (bQ ho.inv).dg (eG _) h5 (aP.WI (O.re [1])) I H O).mono ?_;rintro e w' ⟨rfl,ps,pw,R',h6,h7⟩;exact⟨rfl,ps,pw,S',gs',E,R',h4,h6,h7⟩
theorem Bp {v:Value} {l:List (List UInt8)} (h:Sat W w (Cs pe 68 [v, .slice none 0 0, .bool false, .int .i64 0, .bool false]::Tb 9 1 iF v l::L)):Sat W w (aW pe {L:=l,Log:=[],armed:=false,left:=0,dead:=false} ::L):=by
 have I:=h.jb (E:=150) (sz:=2) (f:=wv);exact aW.mk (I.re [1,2,0])
end
theorem zz {po pd ps pe pw k:Nat} {S:aK} {gs:List Nat} {D:aG} {R:dh} (ho:ah D S gs k) (hR:Rel D R) (hk:k<=60000) (x:ji) (V:x.Ok W) (hs:uM x=true)
  (O:Sat W w (Cs po 36 (vB pd ps pe pw)::bF ps pd S::aP pd D::dz pw pe S gs::aW pe R::L)):
  Calls Tryz.prog 13 #[.pointer (some ⟨po,0,none⟩), .agg (j6 x).toArray] w fun e w'=>rZ W L po (k+500) e w':=by
 by_cases h8:x.kind % 10<8/\D.dead=false
 ·refine(ag7 (ho.ok h8.2) hR ho.dg hk h8.2 x V hs h8.1 O).mono ?_;rintro e w' ⟨rfl,r,gs',R',I,H,h3⟩;exact⟨rfl,pd,ps,pe,pw,r.2.1,gs',r.2.2,R',I.A7 ho h8.2,H,h3⟩
 have HO:=Z ho;have HR:=Z hR;have hnn:=V.n;obtain⟨lx,hlx⟩:=au (j6 x);have G0:=Z (show lx[0]? =some (.int .i64 x.kind) by rw[<-hlx];rfl);have G1:=Z (show lx[1]? =some (.int .i64 x.n) by rw[<-hlx];rfl);obtain⟨kk,hkk⟩:=au (x.kind % 10);have eX:=Z (fun w=>Io x.kind 10 (by decide) (by decide) w);rw[hkk] at eX h8;have k10:kk<10:=by omega
 have k0:0<=kk:=by omega
 obtain⟨x0,hx0⟩:=au x.kind;obtain⟨xn,uA⟩:=au x.n;rw[hx0] at G0 eX;rw[uA] at G1 hnn;rw[hlx];unfold Ap at hnn;have hn1:xn<=9223372036854775807:=by omega
 have l6:=Z hn1;clear V hs hlx hkk hx0 uA hnn ho hR
 by_cases k8:kk=8
 ·subst k8;clear h8 hn1;unfold vB at O;have HC:=Z (fun w A B C M (h:Sat W w (A::B::C::aP pd D::M))=>xR h xn);have oQ:=Z (fun w A B C E oL M (h:Sat W w (A::B::C::E::oL::aW pe R::M))=>A9 h xn)
  obtain⟨hoc,hrc⟩:ah (if 0<=xn then {D with left:=xn} else D) S gs k/\Rel (if 0<=xn then {D with left:=xn} else D) (if 0<=xn then {R with armed:=true,left:=xn} else R):=by
   by_cases h:0<=xn
   ·rw[if_pos h,if_pos h];exact⟨HO.F.cut h l6.F,HR.F.cut h l6.F⟩
   ·rw[if_neg h,if_neg h];exact⟨HO.F,HR.F⟩
  have fO:=Z hoc;have HRR:=Z hrc;obtain⟨d,hd⟩:=au (decide (0<=xn));obtain⟨D2,hD2⟩:∃d,(if 0<=xn then {D with left:=xn} else D)=d:=⟨_,rfl⟩;obtain⟨R2,hR2⟩:∃d,(if 0<=xn then {R with armed:=true,left:=xn} else R)=d:=⟨_,rfl⟩;rw[hd,hD2] at HC;rw[hd,hR2] at oQ;rw[hD2] at fO HRR;rw[hR2] at HRR;clear hoc hrc hd hD2 hR2;go_enter Tryz.func13,Tryz.ntmps13
  go_wp2_with (first
    |(refine bV O ?_;clear O;intro p3 J O;rw[aS] at O)
    |(refine aH O aa G0.F ?_)
    |(go_at_call 12;refine ak (eX.F _) ?_;rintro J rfl)
    |(refine bB O ?_ (hk:=hz1))
    |(refine aH O hz2 F4.F ?_))
  (refine ll (pO [0,1,2]<|rO [3]<|pO [4]<|rO [5]<|pO [7,8,9]<|rO [10]<|pO [11]<|rO [12]<|aO [6,13]<|pO [14,15]<| .e) [13] O (fun _ h=>h.take2) ?_;clear O;intro J O)
  repeat (first
   |(refine bG O ?_;go_frame)
   |(refine bR O ?_;(first
     |refine rM hz1 ?_
     |refine bK aa G1.F ?_);go_frame)
   |(refine bY fun K hK=>?_;(first
     |(refine jy (HC.F _ _ _ _ _ O) ?_;clear O;intro J O)
     |(refine jy (oQ.F _ _ _ _ _ _ _ O) ?_;clear O;intro J O));refine hK.gu O ?_;clear hK K;go_frame))
  refine bO ?_;go_wp2;go_ret;exact⟨by simp,pd,ps,pe,pw,S,gs,_,_,fO.F.to (by omega),HRR.F,O.drop⟩
 by_cases k9:kk=9
 ·subst k9;clear h8 hn1 k8;obtain⟨n,hn⟩:=au D.writes.length;have gW:=Z (fun w A B C M (h:Sat W w (A::B::C::aP pd D::M))=>adp (n:=(n:Int)) (h.re [3]) (by rw[hn]));have Be:=Z (fun w A B C M (h:Sat W w (A::B::C::aP pd D::M))=>ZE (h.re [3]) HO.F.inv.ok n (by rw[hn];exact aZ _));have Ea:=Z (fun w q e s0 w0 M (h:Sat W w (Cs po 36 [.pointer (some ⟨q,0,none⟩),s0, .pointer (some ⟨e,0,none⟩),w0]::aP q (D.image n)::aW e {L:=R.L,Log:=[],armed:=false,left:=0,dead:=false} ::M))=>A8 HO.F HR.F (by rw[hn];exact h));have HLEN:=Z (show R.L.length<=1024 by rw[<-HR.F.blocks];exact HO.F.inv.ok.len);clear hn;unfold vB at O;go_enter Tryz.func13,Tryz.ntmps13
  go_wp2_with (first
    |(refine bV O ?_;clear O;intro p3 J O;rw[aS] at O)
    |(refine aH O aa G0.F ?_)
    |(go_at_call 12;refine ak (eX.F _) ?_;rintro J rfl)
    |(refine bB O ?_ (hk:=hz1))
    |(refine aH O hz2 F4.F ?_))
  (refine cB (pO [0,1,2]<|rO [3]<|pO [4,5,6]<|rO [7]<|aO [8,9]<|pO [10,11,12,13,14]<| .e) [9] O ?_;clear O;intro J O)
  repeat (first
   |(refine bG O ?_;go_frame)
   |(refine bR O ?_;(first
     |refine rM hz1 ?_);go_frame)
   |(refine bY fun K hK=>?_;(first
     |(refine jy (gW.F _ _ _ _ _ O) ?_;rintro J rfl)
     |(refine cK (Be.F _ _ _ _ _ O) ?_;clear O;rintro e J ⟨q,rfl,O⟩;refine⟨_,rfl,?_⟩));refine hK.go O ?_;clear hK K;go_frame))
  refine bO ?_;obtain⟨v1,v2,hS1⟩:=aW.open (O.re [6])
  clear O;have O:=hS1;clear hS1;have hS1:=O.re [6];clear O;have O:=hS1;clear hS1;obtain⟨aq,cq,rfl,_⟩:=O.fA (k:=2) rfl
  have rF:=Z (show ∀u∈R.L.flatMap iF,u.oneCell'=true from fun u hu=>by
   obtain⟨y,_,hy⟩:=mE.1 hu
   rw[eD.1 hy];rfl)
  have HW1:=Z (show ∀y∈R.L,(iF y).length=1 from fun _ _=>rfl)
  go_wp2_with (first
   |(refine iA O aa ?_;clear O;intro J O;dsimp only[List.set] at O)
   |(refine iA O hz2 ?_;clear O;intro J O;dsimp only[List.set] at O)
   |(refine bB O ?_ (hk:=aa))
   |(refine bB O ?_ (hk:=hz1))
   |(refine og (Sat.jb (E:=9) (sz:=1) (f:=iF) O) aa R.L ?_ (hlen:=HW1.F) (hsrc:=(.inl (O.kK hz2))) (I:=rF.F) (hb:=by have:=HLEN.F;simp;omega) (hm:=by have:=HLEN.F;simp;omega);clear O;intro a5 c5 J _ O;dsimp only[aD,aN,iP] at O)
   |(refine bV O ?_;clear O;intro dL J O;rw[aS] at O)
   |(go_at_call 9;refine(Ea.F _ _ _ _ _ _ ((Bp O).re [1,5,0])).mono ?_;rintro e J hE;obtain⟨rfl,ps2,eU,S2,gs2,E2,R2,hO2,hR2,hS1⟩:=hE;have HO2:=Z hO2;have HR2:=Z hR2;clear hO2 hR2;clear O;have O:=hS1;clear hS1))
  go_ret;exact⟨rfl,q,ps2,dL,eU,S2,gs2,E2,R2,HO2.F.to (by omega),HR2.F,(O.re [5,6,7,8,9,10,11]).drop.drop.drop.drop.drop.drop.drop⟩
 have k7:kk<8:=by omega
 have hdd:D.dead=true:=by
  cases h:D.dead with
  |true=>rfl
  |false=>exact absurd ⟨k7,h⟩ h8
 have F4:=Z (show ∀v1 v2:Value,[v1,v2, .bool R.armed, .int .i64 R.left, .bool R.dead][4]? =some (.bool true) from fun v1 v2=>by rw[<-HR.F.dead,hdd];rfl);obtain⟨v1,v2,hS1⟩:=aW.open (O.re [4])
 clear O;replace F4:=Z (F4.F v1 v2);have iG:=Z (fun w (h:Sat W w (Cs po 36 (vB pd ps pe pw)::Cs pe 68 [v1,v2, .bool R.armed, .int .i64 R.left, .bool R.dead]::Tb 9 1 iF v1 R.L::Tb 150 2 wv v2 R.Log::bF ps pd S::aP pd D::dz pw pe S gs::L))=>show Sat W w (Cs po 36 (vB pd ps pe pw)::bF ps pd S::aP pd D::dz pw pe S gs::aW pe R::L) from(aW.mk (h.re [1,2,3])).re [1,2,3,4,0]);have O:=hS1.re [3,0,1,2];clear hS1 h8 hn1 hdd;unfold vB at O;go_enter Tryz.func13,Tryz.ntmps13
 go_wp2_with (first
   |(refine bV O ?_;clear O;intro p3 J O;rw[aS] at O)
   |(refine aH O aa G0.F ?_)
   |(go_at_call 12;refine ak (eX.F _) ?_;rintro J rfl)
   |(refine bB O ?_ (hk:=hz1))
   |(refine aH O hz2 F4.F ?_))
 go_ret;exact⟨rfl,pd,ps,pe,pw,S,gs,D,R,HO.F.to (by omega),HR.F,iG.F _ O.drop⟩
theorem Inv.aQ {D:aG} {B:List (List UInt8)} {k n:Nat} {b:List UInt8} (h:Inv D) (hl:Lv D B k) (hn:n<B.length) (hb:b.length=128):Inv (D.wrote n b):=by
 have I:=h.next (n:Int) b
 have hw:fG D (n:Int) b=D.wrote n b:=by
  unfold fG;rw[hl.dead,if_neg (by decide),if_neg (by rw[hl.bl];unfold bad;omega),if_neg (by rw[hl.left];decide),fu]
 rw[hw] at I;exact I
theorem Inv.lK {D:aG} {n:Nat} (hi:Inv D) (h:Lv D (List.replicate n (zeros 128)) 0) (I:160<=n):∀k,k<=48->Inv (pJ n D k)
 |0,_=>((hi.aQ h (n:=2) (by rw[kZ];omega) (by simp[zeros])).aQ (h.M0 I).1 (n:=1) (by rw[gV,kZ];omega) (uC _)).aQ (h.M0 I).2 (n:=74) (by rw[gV,gV,kZ];omega) (vT 0 (by decide))
 |k+1,hk=>(Inv.lK hi h I k (by omega)).aQ (h.pJ I k (by omega)) (by rw[qL];omega) (CY _ (Tq k).pl)
theorem Inv.vI {D:aG} {n:Nat} (hi:Inv D) (h:Lv D (List.replicate n (zeros 128)) 0) (I:160<=n):Inv (rC n D):=
 (hi.lK h I 48 (aZ _)).aQ (h.pJ I 48 (aZ _)) (by rw[qL];omega) (oD _)
section
variable {n:Nat}
theorem Bv (H:n<=1024):Rel (.new (n:Int)) (.new n):=
 ⟨by show List.replicate ((n:Int)).toNat _=List.replicate n _;rw[fu],rfl,rfl,rfl,Int.le_refl 0,(by show(0:Int)<=9223372036854775807;decide),(Lv.new H).ok.ok⟩
theorem mF (I:160<=n) (H:n<=1024):ah (rC n (.new (n:Int))) (S0 n) [74] 52/\o6 (rC n (.new (n:Int)))=(0,rC n (.new (n:Int)))/\Lv (rC n (.new (n:Int))) (sW n) 52:=by
 have h0:Lv (aG.new (n:Int)) (List.replicate n (zeros 128)) 0:=Lv.new H;have h:Lv (rC n (.new (n:Int))) (sW n) 52:=h0.rC I;have hs:=OZ (n:=n) I H
 have hi:Inv (aG.new (n:Int)):=by
  have:=Inv.new n H;unfold aG.new;rw[fu];exact this
 exact⟨dN (by rw[h.bl];exact hs) h.ok (hi.vI h0 I),(Z0 h hs.b2).2,h⟩
end
section
variable {W w:World} {L:List aA} {A B C:aA} {po pd ps pe pw n k:Nat} {S:aK} {gs:List Nat} {D:aG} {R:dh}
theorem z8 (I:160<=n) (H:n<=1024) (O:Sat W w (A::aP pd (.new (n:Int))::L)):
  Calls Tryz.prog 7 #[.pointer (some ⟨pd,0,none⟩)] w fun e w'=>e= .returned (.int .i64 0)/\Sat W w' (A::aP pd (rC n (.new (n:Int)))::L):=by
 refine(ahR (n:=n) (O.re [1]) (Lv.new H) I H).mono ?_;rintro e w' ⟨rfl,h⟩;exact⟨rfl,h.re [1]⟩
theorem BP (I:160<=n) (H:n<=1024) (O:Sat W w (A::B::aW pe (.new n)::L)):
  Calls Tryz.prog 8 #[.pointer (some ⟨pe,0,none⟩)] w fun e w'=>e= .returned (.int .i64 0)/\∃R',Rel (rC n (.new (n:Int))) R'/\Sat W w' (A::B::aW pe R'::L):=by
 refine(aml (n:=n) (O.re [2]) (Lv.new H) (Bv H) I H).mono ?_;rintro e w' ⟨rfl,R',hR',h⟩;exact⟨rfl,R',hR',h.re [1,2]⟩
theorem AU (I:160<=n) (H:n<=1024) {s0 w0:Value} (hR:Rel (rC n (.new (n:Int))) R) (O:Sat W w (Cs po 36 [.pointer (some ⟨pd,0,none⟩),s0, .pointer (some ⟨pe,0,none⟩),w0]::aP pd (rC n (.new (n:Int)))::aW pe R::L)):
  Calls Tryz.prog 9 #[.pointer (some ⟨po,0,none⟩)] w fun e w'=>e= .returned (.bool true)/\∃ps pw R',Rel (rC n (.new (n:Int))) R'/\Sat W w' (Cs po 36 (vB pd ps pe pw)::bF ps pd (S0 n)::aP pd (rC n (.new (n:Int)))::dz pw pe (S0 n) [74]::aW pe R'::L):=by
 obtain⟨h3,h4,h5⟩:=mF I H;have hs:=OZ (n:=n) I H;refine(akx hs hR h5.ok (by decide) (by rw[h5.bl];have:=hs.n1;omega) (aP.WI (O.re [1])) h4 h5 O).mono ?_;rintro e w' ⟨rfl,ps,pw,R',hR',h⟩;exact⟨rfl,ps,pw,R',hR',h⟩
theorem nG (ho:ah D S gs k) (hR:Rel D R) (hk:k<=60000) (O:Sat W w (Cs po 36 (vB pd ps pe pw)::bF ps pd S::aP pd D::dz pw pe S gs::aW pe R::L)):
  Calls Tryz.prog 25 #[.pointer (some ⟨po,0,none⟩)] w fun e w'=>e= .returned (.bool true)/\Sat W w' (Cs po 36 (vB pd ps pe pw)::bF ps pd S::aP pd D::dz pw pe S gs::aW pe R::L):=by
 have hw:D.writes.length<=1000000:=by have:=ho.dg.wr;omega
 refine DT (L:=bF ps pd S::dz pw pe S gs::L) hR ho.inv.ok.len hw (O.re [0,2,4,1,3]) ?_ ?_
 ·intro hd v1 v2 a w h;refine DV (ho.ok hd) hR h ?_;intro a w h;exact Ep (ho.ok hd) hR h fun w h=>⟨rfl,h⟩
 ·intro _ w h;exact⟨rfl,h.re [0,3,1,4,2]⟩
end
end Go.Proofs.YtjbiihbicknemaaGreat
