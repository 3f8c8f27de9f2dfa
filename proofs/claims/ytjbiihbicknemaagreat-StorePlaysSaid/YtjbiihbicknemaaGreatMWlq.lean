/-
  Part of the proof of StoreWhole.
-/
import Derived.Test.YtjbiihbicknemaaGreatMWlp
set_option linter.unusedSimpArgs false
set_option linter.unusedVariables false
set_option maxRecDepth 20000
set_option maxHeartbeats 40000000
namespace Go.Proofs.YtjbiihbicknemaaGreat
open Go.RowKit Go.Sep
variable {W w:World} {L:List aA}
attribute [local irreducible] Oper.wp wpList Calls Code.wp Sep.dR Sep.fJ
def yV:Value->Int| .int _ q=>q|_=>0
theorem DR {P:Program} {W:World} {L:List aA} {o:Oper} {a:Act} {α:Type} {f:α->List Value} {l:List α} {x:α} {b off n sz c:Nat} (h:∀u,Sat W u L->Rd u (.slice (some ⟨b,off,none⟩) n c) n sz (l.flatMap f)) (hf:∀x∈l,(f x).length=sz) (T:TypeId) (y:Operand) (ho:o.op= .load T y) (ad:Nat) (hy:a.eval y= .pointer (some ⟨b,ad,none⟩)) (hT:jk P T=some false)
  (i j:Nat) (hj:ad=off+(i*sz+j)) (V:l[i]? =some x) {u:Value} (hu:(f x)[j]? =some u) (hn:0<n):∀w,Sat W w L->(execOp a.eval o).run P w= .ok (.value u) w:=
 fun w O=>fE (h w O) hf T y ho ad hy hT i j hj V hu hn
theorem Li {p k:Nat} {D:aG} (O:Sat W w (aP p D::L)) (hG:DG D k) (hk:k<=100000) (n:Int) (v:Value) (b:List UInt8) {m:Nat} (hm:b.length=m) (hb:∀w,Sat W w L->Rd w v m 1 (bv b)):
  Calls Tryz.prog 30 #[.pointer (some ⟨p,0,none⟩), .int .i64 n,v] w fun e w'=>e= .returned (.int .i64 (gp D n b.length))/\Sat W w' (aP p (fG D n b)::L):=by
 subst hm;obtain⟨ao,c,rfl,_⟩:=hb w O.drop;unfold gp fG;have hw:=hG.wr
 by_cases I:D.dead=true
 ·simp only[if_pos I];exact(aoJ O n _ I).mono fun e w' ⟨he,hw⟩=>⟨he,hw▸O⟩
 have h1':D.dead=false:=by simpa using I
 simp only[if_neg I]
 by_cases H:bad D.blocks.length n b.length
 ·simp only[if_pos H];exact(aoH O n _ _ _ h1' H).mono fun e w' ⟨he,hw⟩=>⟨he,hw▸O⟩
 simp only[if_neg H];unfold bad at H;obtain⟨j,rfl⟩:=Int.eq_ofNat_of_zero_le (show 0<=n by omega);have hbl:b.length=128:=by omega
 rw[hbl] at hb ⊢
 by_cases h3:D.left=0
 ·simp only[if_pos h3];exact aoI O j _ _ h1' (by omega) h3
 ·simp only[if_neg h3];exact ado O j _ b hb h1' (by omega) h3 hG.lo hG.hi (by omega) hG.ok.len
theorem ahe {xs:List GW} {i:Nat} {x:GW} (h:xs[i]? =some x):(fC (g2 xs))[i]? =some (x.at_,x.data):=by
 have hl:=(bZ.1 h).1;unfold fC;rw[xN (by rw[qp];exact hl),EL h]
theorem ahf (xs:List GW):(fC (g2 xs))[xs.length]? =some (2,zeros 128):=by
 unfold fC;rw[rP (by rw[qp];exact aZ _),qp,Nat.sub_self];rfl
theorem DG.step {D D':aG} {k:Nat} {l:G2} {i:Nat} (h:DG D k) (hr:bH D (l.take i)=(0,D')):DG D' (k+i):=by
 have:=h.run (l.take i);rw[hr] at this;exact this.mono (by have:=List.length_take_le i l;omega)
theorem XI {p k:Nat} {D:aG} (O:Sat W w (aP p D::L)) (hG:DG D k) (hk:k<=99000) (xs:List GW) (ao:Option Addr) (c:Nat) (hr:∀w,Sat W w L->yj w (.slice ao xs.length c) xs) (hb:xs.length<=20):
  Calls Tryz.prog 99 #[.pointer (some ⟨p,0,none⟩), .slice ao xs.length c] w fun e w'=>e= .returned (.int .i64 (bH D (fC (g2 xs))).1)/\Sat W w' (aP p (bH D (fC (g2 xs))).2::L):=by
 have HR:=Z hr;obtain⟨_,_,he,hc1,hc2,_,h5⟩:=(hr w O.drop).1;obtain⟨rfl,rfl⟩:=gq he;have H5:=Z h5;have HG:=Z hG;clear hr h5 hG;obtain⟨l,hl⟩:=au (fC (g2 xs));have HL:=Z hl;have jO:=Z (show l.length=xs.length+1 by rw[<-hl];simp[fC,qp]);rw[hl];clear hl;go_enter Tryz.func99,Tryz.ntmps99;go_wp2;refine aoE 1 0 (fun a' w'=>∃(i:Nat) (D':aG) (u7 u8 u9 u10 u11 u12 u13 u14 u15 u16 u17 u18 u19 u20 u21 u22 u23 u24 u25 u26 u27 u28 u29 u30:Value),i<=xs.length/\bH D (l.take i)=(0,D')/\Sat W w' (aP p D'::L)/\a'= {tmps:= #[.pointer (some ⟨p,0,none⟩), .slice ao xs.length c,undef,undef, .int .i64 0, .int .i64 (i:Int), .int .i64 0,u7,u8,u9,u10,u11,u12,u13,u14,u15,u16,u17,u18,u19,u20,u21,u22,u23,u24,u25,u26,u27,u28,u29,u30],defers:=[]}) (fun a' _=>xs.length-(yV (a'.tmps.getD 5 undef)).toNat) rfl rfl ?_ ?_
 ·clear O;rintro a' w' ⟨i,D',u7,u8,u9,u10,u11,u12,u13,u14,u15,u16,u17,u18,u19,u20,u21,u22,u23,u24,u25,u26,u27,u28,u29,u30,hi,hrun,O,rfl⟩;have jP:=Z hrun;clear hrun
  by_cases hlt:i<xs.length
  ·obtain⟨b,off,rfl,_⟩:=H5.F (by omega);obtain⟨⟨xa,xv,xd⟩,V⟩:∃x,xs[i]? =some x:=⟨_,aR hlt⟩
   obtain⟨ad,cd,rfl⟩:∃ad cd,xv= .slice ad xd.length cd:=(HR.F _ O.drop).slice V;have HX:=Z V;have ay:=Z hlt;have i1:(i:Int)< (xs.length:Int):=by omega
   have HN:=Z (Dz jP.F (by rw[<-HL.F];exact ahe V));have gW:=Z (fun w (h:Sat W w (aP p D'::L))=>Li h (HG.F.step jP.F) (by omega) xa _ xd rfl (fun w h=>(HR.F w h).2 _ (bJ V)));dsimp only at HN;obtain⟨q,hq⟩:=au (gp D' xa xd.length);rw[hq] at HN gW;clear V hlt hq
   by_cases h0:q=0
   ·subst h0;go_wp2
    (refine cB (pO [0,1,2,3,4]<|rO [5]<|pO [6,7,8,9]<|rO [10]<|aO [11]<|pO [12]<| .e) [11] O ?_;clear O;intro J O)
    repeat (first
     |(refine bG O ?_;go_frame)
     |(refine bR O ?_;(first
         |refine⟨_,DR (fun u h=>(HR.F u h.drop).1) (vU xs) _ _ (by rfl) _ (by rfl) (aI (by rfl)) i 0 (by omega) HX.F (by rfl) (by omega),?_⟩
         |refine⟨_,DR (fun u h=>(HR.F u h.drop).1) (vU xs) _ _ (by rfl) _ (by rfl) (aI (by rfl)) i 1 (by omega) HX.F (by rfl) (by omega),?_⟩);go_frame)
     |(refine bY fun K hK=>?_;(refine jy (gW.F _ O) ?_;clear O;intro J O);refine hK.go O ?_;clear hK K;go_frame))
    refine bO ?_;go_wp2
    go_step3
    refine .inl ⟨rfl,⟨i+1,_,_,_,_,_,_,_,_,_,_,_,_,_,_,_,_,_,_,_,_,_,_,_,_,_,ay.F,HN.F,O,rfl⟩,?_⟩;simp[yV];have:=ay.F;omega
   ·have e0:(q != 0)=true:=bne_iff_ne.2 h0;have HST:=Z (OO (D:=D) (l:=l) (i:=i+1) (by rw[HN.F];exact h0));clear h0;go_wp2
    (refine cB (pO [0,1,2,3,4]<|rO [5]<|pO [6,7,8,9]<|rO [10]<|aO [11]<|pO [12]<| .e) [11] O ?_;clear O;intro J O)
    repeat (first
     |(refine bG O ?_;go_frame)
     |(refine bR O ?_;(first
         |refine⟨_,DR (fun u h=>(HR.F u h.drop).1) (vU xs) _ _ (by rfl) _ (by rfl) (aI (by rfl)) i 0 (by omega) HX.F (by rfl) (by omega),?_⟩
         |refine⟨_,DR (fun u h=>(HR.F u h.drop).1) (vU xs) _ _ (by rfl) _ (by rfl) (aI (by rfl)) i 1 (by omega) HX.F (by rfl) (by omega),?_⟩);go_frame)
     |(refine bY fun K hK=>?_;(refine jy (gW.F _ O) ?_;clear O;intro J O);refine hK.go O ?_;clear hK K;go_frame))
    refine bO ?_;go_wp2
    go_step3
    refine .inr ⟨rfl,?_⟩;go_wp2;rw[Exit.noGoto_ret];go_ret;rw[HST.F,HN.F];exact⟨rfl,O⟩
  ·obtain rfl:i=xs.length:=by omega
   have HN:=Z (Dz jP.F (by rw[<-HL.F];exact ahf xs));have HT:=Z (show l.take (xs.length+1)=l from dF (by rw[jO.F];exact aZ _));rw[HT.F] at HN;have gW:=Z (fun(pb:Nat) w (h:Sat W w (aP p D'::Cs pb 5 (bv (zeros 128))::L))=>Li h (HG.F.step jP.F) (by omega) 2 (.slice (some ⟨pb,0,none⟩) 128 128) (zeros 128) (m:=128) (by simp[zeros]) (fun w h=>h.jc (n:=128) (sz:=1) aa (by decide) (by simp[jR,zeros])));clear hlt
   go_wp2_with (first
    |(refine aU ?_;refine mk O _ _ _ (by rfl) 128 128 _ _ (by rfl) (by rfl) (bS (by rfl)) (by omega) (by omega) (by omega) ?_;clear O;intro pb J O;rw[zA] at O)
    |(go_at_call 30;refine ak (gW.F _ _ O.bW) ?_;clear O;intro J O))
   go_step3
   go_wp2;rw[Exit.Au];go_ret;rw[HN.F];exact⟨rfl,O.bW.drop⟩
 ·intro HP;go_wp2
  go_step3
  rename_i K hK
  exact hK _ _ (HP _ _ ⟨0,D,_,_,_,_,_,_,_,_,_,_,_,_,_,_,_,_,_,_,_,_,_,_,_,_,eG _,rfl,O,rfl⟩)
theorem Py {P:Program} {W:World} {L:List aA} {o:Oper} {a:Act} {b off n sz c:Nat} {vs:List Value} (h:∀u,Sat W u L->Rd u (.slice (some ⟨b,off,none⟩) n c) n sz vs) (T:TypeId) (y:Operand) (ho:o.op= .load T y) (ad:Nat) (hy:a.eval y= .pointer (some ⟨b,ad,none⟩)) (hT:jk P T=some false)
  (j:Nat) (hj:ad=off+j) {u:Value} (hu:vs[j]? =some u) (hn:0<n):∀w,Sat W w L->(execOp a.eval o).run P w= .ok (.value u) w:=
 fun w O=>fF (h w O) T y ho ad hy hT j hj hu hn
theorem ahA (O:Sat W w L) (l m:List UInt8) (v u:Value) (n:Nat) (hl:l.length=n) (hm:m.length=n) (I:∀w,Sat W w L->Rd w v n 1 (bv l)) (H:∀w,Sat W w L->Rd w u n 1 (bv m)) (hn:n<=1000000):
  Calls Tryz.prog 97 #[v,u] w fun e w'=>e= .returned (.bool (decide (l=m)))/\Sat W w' L:=by
 have HR1:=Z I;have HR2:=Z H;obtain⟨a1,c1,rfl,hc1,hc1',_,h15⟩:=I w O;obtain⟨a2,c2,rfl,hc2,hc2',_,h25⟩:=H w O;have H15:=Z h15;have H25:=Z h25;have HL:=Z hl;have HM:=Z hm;clear I H h15 h25 hl hm;have n1:(n:Int)<=1000000:=by omega
 go_enter Tryz.func97,Tryz.ntmps97;go_wp2;have H0:=Z O;go_loopw [13] (fun v wz=>∃k:Nat,v= .int .i64 k/\k<=n/\l.take k=m.take k/\Sat W wz L) (fun v _=>n-(yV v).toNat)
 case atStart=>exact⟨0,rfl,by omega,rfl,H0.F⟩
 case round=>
  clear O H0;obtain⟨k,rfl,hk,he,O⟩:=hrel
  by_cases hlt:k<n
  ·have k1:(k:Int)< (n:Int):=by omega
   obtain⟨b1,o1,rfl,_⟩:=H15.F (by omega);obtain⟨b2,o2,rfl,_⟩:=H25.F (by omega);have hx1:=aR (l:=l) (i:=k) (by rw[HL.F];exact hlt);have hx2:=aR (l:=m) (i:=k) (by rw[HM.F];exact hlt);generalize l[k]'(by rw[HL.F];exact hlt)=x at hx1;generalize m[k]'(by rw[HM.F];exact hlt)=y at hx2;have HB1:=Z (show(bv l)[k]? =some (.int .u8 (x.toNat:Int)) by simp[bv,hx1,u8]);have HB2:=Z (show(bv m)[k]? =some (.int .u8 (y.toNat:Int)) by simp[bv,hx2,u8]);have ay:=Z hlt
   by_cases hxy:x=y
   ·subst hxy;have HE:=Z (show l.take (k+1)=m.take (k+1) by rw[ik,ik,hx1,hx2,he]);clear hx1 hx2 he hlt;go_wp2
    (refine cB (pO [0,1,2]<|rO [3]<|pO [4,5,6]<|rO [7]<|pO [8]<| .e) [] O ?_;clear O;intro J O)
    repeat (first
     |(refine bG O ?_;go_frame)
     |(refine bR O ?_;(first
         |refine⟨_,Py HR1.F _ _ (by rfl) _ (by rfl) (aI (by rfl)) k (by omega) HB1.F (by omega),?_⟩
         |refine⟨_,Py HR2.F _ _ (by rfl) _ (by rfl) (aI (by rfl)) k (by omega) HB2.F (by omega),?_⟩);go_frame))
    refine bO ?_;go_wp2;exact⟨⟨k+1,by go_num,ay.F,HE.F,O⟩,by simp[yV];have:=ay.F;omega⟩
   ·have HF:=Z (show decide (l=m)=false from bf fun e=>by
     rw[e,hx2] at hx1
     exact hxy (ig hx1).symm)
    have e1:((x.toNat:Int) != (y.toNat:Int))=true:=by
     rw[bne_iff_ne];intro e;exact hxy (UInt8.toNat_inj.1 (by omega))
    clear hx1 hx2 he hlt hxy;go_wp2
    (refine cB (pO [0,1,2]<|rO [3]<|pO [4,5,6]<|rO [7]<|pO [8]<| .e) [] O ?_;clear O;intro J O)
    repeat (first
     |(refine bG O ?_;go_frame)
     |(refine bR O ?_;(first
         |refine⟨_,Py HR1.F _ _ (by rfl) _ (by rfl) (aI (by rfl)) k (by omega) HB1.F (by omega),?_⟩
         |refine⟨_,Py HR2.F _ _ (by rfl) _ (by rfl) (aI (by rfl)) k (by omega) HB2.F (by omega),?_⟩);go_frame))
    refine bO ?_;go_wp2;go_ret;rw[HF.F];exact⟨rfl,O⟩
  ·have k1:¬(k:Int)< (n:Int):=by omega
   have HT:=Z (show decide (l=m)=true from bL (by
    rw[dF (by rw[HL.F];omega),dF (by rw[HM.F];omega)] at he;exact he))
   clear hlt he;go_wp2;go_ret;rw[HT.F];exact⟨rfl,O⟩
/-! ### the header -/
def hd0 (g:G2) (k:Nat):List UInt8:=le g.length 1++(g.take k).flatMap fun x=>le x.1 2
theorem Y5 (g:G2):hd0 g 0=le g.length 1:=by simp[hd0]
theorem Y4 {g:G2} {k:Nat} {x:Int×List UInt8} (h:g[k]? =some x):hd0 g k++le x.1 2=hd0 g (k+1):=by
 unfold hd0;rw[ik,h,List.flatMap_append,dX];simp
theorem Y2 (g:G2):hd0 g g.length=Am g:=by unfold hd0 Am;rw[List.take_length]
theorem Y3 (g:G2) (k:Nat):(hd0 g k).length<=1+2*k:=by
 unfold hd0;rw[bP,fK,UF _ 2 _ (fun x _=>fK _ _),jr];omega
theorem ac6 (O:Sat W w L) (xs:List GW) (ao:Option Addr) (c:Nat) (hr:∀w,Sat W w L->yj w (.slice ao xs.length c) xs) (hb:xs.length<=20) (ha:∀x∈xs, -9223372036854775808<=x.at_/\x.at_<=9223372036854775807):
  Calls Tryz.prog 98 #[.slice ao xs.length c] w fun e w'=>∃v,e= .returned v/\Sat W w' (Sl 5 1 v 128 (bv (hdr (g2 xs)))::L):=by
 have HR:=Z hr;have HA:=Z ha;obtain⟨_,_,he,hc1,hc2,_,h5⟩:=(hr w O).1;obtain⟨rfl,rfl⟩:=gq he;have H5:=Z h5;clear hr h5 ha;obtain⟨g,hg⟩:=au (g2 xs);rw[hg];have HG:=Z hg;have fU:=Z (show g.length=xs.length by rw[<-hg,qp]);clear hg;have n1:(xs.length:Int)<=20:=by omega
 have n2:(xs.length:Int)<=(c:Int):=by omega
 have n3:min (xs.length:Int) 20=(xs.length:Int):=by omega
 have jh:=Z (O.kJ (E:=5) (sz:=1));have xS:=Z (Sc (g:=g) (by rw[fU.F];exact hb));have PG:=Z (Sb (g:=g) (by rw[fU.F];exact hb));have HZ:=Z (Y5 g);rw[fU.F] at HZ;go_enter Tryz.func98,Tryz.ntmps98
 go_wp2_with (first
  |(go_at_call 74;refine(qC (l:=[]) jh.F (xs.length:Nat) (by omega) (by omega) 1 (by omega) (by omega) (by simp)).mono ?_;clear O;rintro e J ⟨v1,rfl,O⟩))
 have H0:Hid (Sat W _ (Sl 5 1 v1 (hd0 g 0).length (bv (hd0 g 0))::L)):=Z (by rw[HZ.F];simpa using O);go_loopw [3,18] (fun v3 v18 wz=>∃k:Nat,v18= .int .i64 k/\k<=xs.length/\Sat W wz (Sl 5 1 v3 (hd0 g k).length (bv (hd0 g k))::L)) (fun _ v18 _=>xs.length-(yV v18).toNat)
 case atStart=>exact⟨0,rfl,by omega,H0.F⟩
 case round=>
  clear O H0;obtain⟨k,rfl,hk,O⟩:=hrel
  by_cases hl:k<xs.length
  ·have k1:(k:Int)< (xs.length:Int):=by omega
   obtain⟨b,off,rfl,_⟩:=H5.F (by omega);obtain⟨⟨xa,xv,xd⟩,V⟩:∃x,xs[k]? =some x:=⟨_,aR hl⟩
   obtain⟨ad,cd,rfl⟩:∃ad cd,xv= .slice ad xd.length cd:=(HR.F _ O.drop).slice V;obtain⟨r1,r2⟩:=HA.F _ (bJ V);dsimp only at r1 r2;have HX:=Z V;have HL:=Z hl;have iD:=Z (show hd0 g k++le xa 2=hd0 g (k+1) from Y4 (x:=(xa,xd)) (by rw[<-HG.F];exact EL V));have aM:=Z (Y3 g k);clear V hl
   go_wp2_with (first
    |(refine bN (nz (HR.F _ O.drop).1 (vU xs) _ _ (by rfl) _ (by rfl) (aI (by rfl)) (bz (by rfl)) k (by omega) HX.F (by omega)) ?_)
    |(refine dU O ?_;clear O;intro px J O;rw[aS] at O)
    |(refine eT (gw ⟨xa, .slice ad xd.length cd,xd⟩) O aa ?_ (hv:=(vV _ _));clear O;intro J O;dsimp only[aD] at O)
    |(refine bB O ?_ (hk:=aa))
    |(go_at_call 74;refine(Calls.Bu O (by repeat first|exact Has.z|apply Has.s) (fun hF=>qC hF xa (by omega) (by omega) 2 (by omega) (by omega) (by have:=aM.F;omega))).mono ?_;clear O;rintro e J ⟨v2,rfl,O⟩;dsimp only[aD,aN] at O))
   rw[iD.F] at O;exact⟨⟨k+1,by go_num,HL.F,O.drop⟩,by simp[yV];have:=HL.F;omega⟩
  ·have k1:¬(k:Int)< (xs.length:Int):=by omega
   obtain rfl:k=xs.length:=by omega
   have nH:=Z (show hd0 g xs.length=Am g by rw[<-fU.F];exact Y2 g);rw[nH.F] at O;have aM:=Z (show(Am g).length<=60 by rw[Sa,fU.F];omega);have nJ:=Z (Zo g);clear hl
   go_wp2_with (first
    |(go_at_call 75;refine(Kz O 60 aM.F (by omega)).mono ?_;clear O;rintro e J ⟨v3,rfl,O⟩;replace O:Sat W _ (Sl 5 1 v3 (qO g).length (bv (qO g))::L):=(by rw[xS.F];exact O))
    |(go_at_call 124;refine ak (akm (qO g) _ _ (O.dY aa)) ?_;rintro J rfl))
   have H1:=Z O;go_loopw [6,36] (fun v6 v36 wz=>∃k:Nat,v36= .int .i64 k/\k<=xs.length/\v6= .int .u32 (hsum g k:Nat)/\Sat W wz (Sl 5 1 v3 (qO g).length (bv (qO g))::L)) (fun _ v36 _=>xs.length-(yV v36).toNat)
   case atStart=>exact⟨0,rfl,by omega,by rw[nJ.F],H1.F⟩
   case round=>
    clear O H1;obtain⟨k,rfl,hk,rfl,O⟩:=hrel
    by_cases hl:k<xs.length
    ·have k1:(k:Int)< (xs.length:Int):=by omega
     obtain⟨b,off,rfl,_⟩:=H5.F (by omega);obtain⟨⟨xa,xv,xd⟩,V⟩:∃x,xs[k]? =some x:=⟨_,aR hl⟩
     obtain⟨ad,cd,rfl⟩:∃ad cd,xv= .slice ad xd.length cd:=(HR.F _ O.drop).slice V;have HX:=Z V;have HL:=Z hl;have ay:=Z (Zm g k);have iD:=Z (show hsum g (k+1)=qI (hsum g k) xd from Zn (x:=(xa,xd)) (by rw[<-HG.F];exact EL V));obtain⟨s,hs⟩:=au (hsum g k);rw[hs] at ay iD ⊢;clear V hl hs
     go_wp2_with (first
      |(refine bN (nz (HR.F _ O.drop).1 (vU xs) _ _ (by rfl) _ (by rfl) (aI (by rfl)) (bz (by rfl)) k (by omega) HX.F (by omega)) ?_)
      |(refine dU O ?_;clear O;intro px J O;rw[aS] at O)
      |(refine eT (gw ⟨xa, .slice ad xd.length cd,xd⟩) O aa ?_ (hv:=(vV _ _));clear O;intro J O;dsimp only[aD] at O)
      |(refine bB O ?_ (hk:=aa))
      |(go_at_call 125;refine ak (aau s ay.F xd _ _ ((HR.F _ O.drop.drop).2 _ (bJ HX.F))) ?_;rintro J rfl))
     exact⟨⟨k+1,by go_num,HL.F,by rw[iD.F],O.drop⟩,by simp[yV];have:=HL.F;omega⟩
    ·have k1:¬(k:Int)< (xs.length:Int):=by omega
     have QB:=Z (show hsum g k=BK g by rw[<-Zl,fU.F,show k=xs.length by omega]);rw[QB.F];have hlt:=Y7 g;obtain⟨s,hs⟩:=au (BK g);have Qd:=Z (show qO g++le (s:Int) 4=BJ g by rw[<-hs];rfl);rw[hs] at hlt ⊢;have s1:(s:Int)<4294967296:=by omega
     have Qe:=Z (show(BJ g).length<=128 by rw[PG.F];omega);have PM:=Z (show(qO g).length<=1000000 by rw[xS.F];omega);clear hl hs hlt
     go_wp2_with (first
      |(go_at_call 74;refine(qC O (s:Int) (by omega) (by omega) 4 (by omega) (by omega) PM.F).mono ?_;clear O;rintro e J ⟨v4,rfl,O⟩;rw[Qd.F] at O)
      |(go_at_call 75;refine(Kz O 128 Qe.F (by omega)).mono ?_;clear O;rintro e J ⟨v5,rfl,O⟩))
     go_ret;exact⟨_,rfl,O⟩
theorem Xk (g:G2):jA g=(kF g++[(2,hdr g)])++fC g:=by simp[jA]
theorem Xm {g:G2} {i:Nat} {x:Int×List UInt8} (h:g[i]? =some x):(kF g++[(2,hdr g)])[i]? =some (((3+i:Nat):Int),x.2):=by
 rw[xN (by rw[wm];exact(bZ.1 h).1),Hw h]
theorem Xl (g:G2):(kF g++[(2,hdr g)])[g.length]? =some (2,hdr g):=by
 rw[rP (by rw[wm];exact aZ _),wm,Nat.sub_self];rfl
theorem aks {n:Int} (hn:n<=1024) {xs:List GW} (h:gT n (g2 xs)=true):∀x∈xs, -9223372036854775808<=x.at_/\x.at_<=9223372036854775807:=fun x V=>by
 obtain⟨i,hi⟩:=List.mem_iff_getElem?.1 V;have:=Du (Aw h (EL hi)).1;dsimp only at this;omega
theorem aok {p k:Nat} {D:aG} (O:Sat W w (aP p D::L)) (hG:DG D k) (hk:k<=90000) (xs:List GW) (ao:Option Addr) (c:Nat) (hr:∀w,Sat W w L->yj w (.slice ao xs.length c) xs) (hb:xs.length<=1000000):
  Calls Tryz.prog 104 #[.pointer (some ⟨p,0,none⟩), .slice ao xs.length c] w fun e w'=>e= .returned (.int .i64 (jm D (g2 xs)).1)/\Sat W w' (aP p (jm D (g2 xs)).2::L):=by
 have HR:=Z hr;obtain⟨_,_,he,hc1,hc2,_,h5⟩:=(hr w O.drop).1;obtain⟨rfl,rfl⟩:=gq he;have H5:=Z h5;have HG:=Z hG;have jv:=Z (fun w (h:Sat W w (aP p D::L))=>ac3 h xs ao c (fun w h=>HR.F w h.drop) hb (D.blocks.length:Nat));have pE:=Z hG.ok.len;clear hr h5 hG
 cases hok:gT D.blocks.length (g2 xs)
 ·have HC:=Z (show jm D (g2 xs)=(1,D) by unfold jm;rw[hok];rfl);rw[HC.F];rw[hok] at jv;clear hok;go_enter Tryz.func104,Tryz.ntmps104
  go_wp2_with (first
   |(go_at_call 27;refine ak (zh O (n:=D.blocks.length) rfl) ?_;rintro J rfl)
   |(go_at_call 96;refine ak (jv.F _ O) ?_;clear O;intro J O))
  go_ret;exact⟨rfl,O⟩
 ·have HC:=Z (show jm D (g2 xs)=bH D (jA (g2 xs)) by unfold jm;rw[hok];rfl);have bq:=Z hok;have HLEN:=Z (Fp hok);have h20:xs.length<=20:=by have:=HLEN.F.2;rw[qp] at this;exact this
  rw[HC.F];rw[hok] at jv;clear hok;obtain⟨l,hl⟩:=au (kF (g2 xs)++[(2,hdr (g2 xs))]);have HL:=Z hl;have jO:=Z (show l.length=xs.length+1 by rw[<-hl];simp[wm,qp]);have HE:=Z (show jA (g2 xs)=l++fC (g2 xs) by rw[Xk,hl]);rw[HE.F];clear hl;go_enter Tryz.func104,Tryz.ntmps104
  go_wp2_with (first
   |(go_at_call 27;refine ak (zh O (n:=D.blocks.length) rfl) ?_;rintro J rfl)
   |(go_at_call 96;refine ak (jv.F _ O) ?_;clear O;intro J O))
  have H0:=Z O;go_loopw [16] (fun v wz=>∃(i:Nat) (D':aG),v= .int .i64 i/\i<=xs.length/\bH D (l.take i)=(0,D')/\Sat W wz (aP p D'::L)) (fun v _=>xs.length-(yV v).toNat)
  case atStart=>exact⟨0,D,rfl,by omega,rfl,H0.F⟩
  case round=>
   clear O H0;obtain⟨i,D',rfl,hi,hrun,O⟩:=hrel;have jP:=Z hrun;clear hrun
   by_cases hlt:i<xs.length
   ·obtain⟨b,off,rfl,_⟩:=H5.F (by omega);obtain⟨⟨xa,xv,xd⟩,V⟩:∃x,xs[i]? =some x:=⟨_,aR hlt⟩
    obtain⟨ad,cd,rfl⟩:∃ad cd,xv= .slice ad xd.length cd:=(HR.F _ O.drop).slice V;have HX:=Z V;have ay:=Z hlt;have i1:(i:Int)< (xs.length:Int):=by omega
    have i2:(i:Int)<20:=by omega
    have HN:=Z (Dz jP.F (by rw[<-HL.F];exact Xm (EL V)))
    have gW:=Z (fun(A:aA) w (h:Sat W w (aP p D'::A::L))=>(show Calls Tryz.prog 30 #[.pointer (some ⟨p,0,none⟩), .int .i64 (3+(i:Int)), .slice ad xd.length cd] w fun e w'=>e= .returned (.int .i64 (gp D' ((3+i:Nat):Int) xd.length))/\Sat W w' (aP p (fG D' ((3+i:Nat):Int) xd)::A::L) by
     have:=Li h (HG.F.step jP.F) (by omega) ((3+i:Nat):Int) (.slice ad xd.length cd) xd rfl (fun w h=>(HR.F w h.drop).2 _ (bJ V));rw[show(((3+i:Nat):Int))=3+(i:Int) by omega] at this ⊢
     exact this))
    dsimp only at HN;obtain⟨q,hq⟩:=au (gp D' ((3+i:Nat):Int) xd.length);rw[hq] at HN gW;clear V hlt hq
    by_cases h0:q=0
    ·subst h0
     go_wp2_with (first
      |(refine bN (nz (HR.F _ O.drop).1 (vU xs) _ _ (by rfl) _ (by rfl) (aI (by rfl)) (bz (by rfl)) i (by omega) HX.F (by omega)) ?_)
      |(refine dU O ?_;clear O;intro px J O;rw[aS] at O)
      |(refine eT (gw ⟨xa, .slice ad xd.length cd,xd⟩) O aa ?_ (hv:=(vV _ _));clear O;intro J O;dsimp only[aD] at O)
      |(refine bB O ?_ (hk:=aa))
      |(go_at_call 30;refine ak (gW.F _ _ O.bW) ?_;clear O;intro J O))
     exact⟨⟨i+1,_,by go_num,ay.F,HN.F,O.bW.drop⟩,by simp[yV];have:=ay.F;omega⟩
    ·have e0:(q != 0)=true:=bne_iff_ne.2 h0
     have HST:=Z (show bH D (l++fC (g2 xs))=(q,fG D' ((3+i:Nat):Int) xd) by
      have I:=OO (D:=D) (l:=l) (i:=i+1) (by rw[HN.F];exact h0)
      rw[wG,I,HN.F,if_neg h0])
     clear h0
     go_wp2_with (first
      |(refine bN (nz (HR.F _ O.drop).1 (vU xs) _ _ (by rfl) _ (by rfl) (aI (by rfl)) (bz (by rfl)) i (by omega) HX.F (by omega)) ?_)
      |(refine dU O ?_;clear O;intro px J O;rw[aS] at O)
      |(refine eT (gw ⟨xa, .slice ad xd.length cd,xd⟩) O aa ?_ (hv:=(vV _ _));clear O;intro J O;dsimp only[aD] at O)
      |(refine bB O ?_ (hk:=aa))
      |(go_at_call 30;refine ak (gW.F _ _ O.bW) ?_;clear O;intro J O))
     go_ret;rw[HST.F];exact⟨rfl,O.bW.drop⟩
   ·obtain rfl:i=xs.length:=by omega
    have HN:=Z (Dz jP.F (by rw[<-HL.F];have:=Xl (g2 xs);rw[qp] at this;exact this));have HT:=Z (show l.take (xs.length+1)=l from dF (by rw[jO.F];exact aZ _));rw[HT.F] at HN;have BL:(hdr (g2 xs)).length=128:=G9 HLEN.F.2;have xW:=Z (fun w (h:Sat W w (aP p D'::L))=>ac6 h xs ao c (fun w h=>HR.F w h.drop) h20 (aks (by have:=pE.F;omega) bq.F));have gW:=Z (fun(v:Value) w (h:Sat W w (aP p D'::Sl 5 1 v 128 (bv (hdr (g2 xs)))::L))=>Li h (HG.F.step jP.F) (by omega) 2 v (hdr (g2 xs)) (m:=128) BL (fun w h=>h.dY aa));obtain⟨q,hq⟩:=au (gp D' 2 (hdr (g2 xs)).length);dsimp only at HN;rw[hq] at HN gW;obtain⟨D2,hD2⟩:=au (fG D' 2 (hdr (g2 xs)));rw[hD2] at HN gW;have HG2:=Z (show DG D2 (k+xs.length+1) by rw[<-hD2];exact(HG.F.step jP.F).next _ _);clear hlt hq BL hD2
    by_cases h0:q=0
    ·subst h0;have tT:=Z (fun(A:aA) w (h:Sat W w (aP p D2::A::L))=>XI h HG2.F (by omega) xs ao c (fun w h=>HR.F w h.drop) h20);have HST:=Z (show bH D (l++fC (g2 xs))=bH D2 (fC (g2 xs)) by rw[wG,HN.F,if_pos rfl])
     go_wp2_with (first
      |(go_at_call 98;refine(xW.F _ O).mono ?_;clear O;rintro e J ⟨vh,rfl,O⟩)
      |(go_at_call 30;refine ak (gW.F _ _ O.bW) ?_;clear O;intro J O)
      |(go_at_call 99;refine ak (tT.F _ _ O) ?_;clear O;intro J O))
     go_ret;rw[HST.F];exact⟨rfl,O.bW.drop⟩
    ·have e0:(q != 0)=true:=bne_iff_ne.2 h0;have HST:=Z (show bH D (l++fC (g2 xs))=(q,D2) by rw[wG,HN.F,if_neg h0]);clear h0
     go_wp2_with (first
      |(go_at_call 98;refine(xW.F _ O).mono ?_;clear O;rintro e J ⟨vh,rfl,O⟩)
      |(go_at_call 30;refine ak (gW.F _ _ O.bW) ?_;clear O;intro J O))
     go_ret;rw[HST.F];exact⟨rfl,O.bW.drop⟩
/-! ### Recover -/
def grow (x:GW):aA:=Sl 5 1 x.val x.data.length (bv x.data)
theorem RU {xs:List GW} {v:Value} (h:Sat W w (Tb 129 2 gw v xs::St (xs.map grow)::L)):yj w v xs:=by
 refine⟨h.kK aa,fun x V=>?_⟩;obtain⟨i,hi⟩:=List.mem_iff_getElem?.1 V;obtain⟨L',H⟩:=h.KV (k:=1) (j:=i) (A:=grow x) rfl (by unfold Has;rw[kY,hi];rfl);exact Sat.dY (E:=5) (k:=0) H aa
theorem MB {D:aG} {n:Nat} (h:n<D.blocks.length):D.blocks[n]? =some (jZ D n):=by unfold jZ;rw[aR h];rfl
theorem ajS (D:aG):qx D<256:=by have:=Nb (jZ D 2) 0 1;simpa [qx] using this
theorem am8 {q E:Nat} {b:List UInt8} (h:Sat W w (Cs q E (bv b)::L)) (hb:b.length=128):Sat W w (Sl 5 1 (.slice (some ⟨q,0,none⟩) 128 128) b.length (bv b)::L):=by
 have:=Sat.pW (E:=E) (n:=128) (sz:=1) (cap:=128) (off:=0) (pre:=[]) (vs:=bv b) (rest:=[]) (by simpa using h) (aZ _) (by decide) (by simp[jR,hb]) rfl (by simp[jR,hb]);rw[hb];exact this.slE
theorem ajN {D:aG} {n i:Nat} (h:i<n):(jL D n)[i]? =some (((fV (jZ D 2) (1+2*i) 2:Nat):Int),jZ D (3+i)):=by simp[jL,h]
theorem ajP (D:aG) {n:Nat} {xs:List GW} (h:g2 xs=jL D n):∀x∈xs, -9223372036854775808<=x.at_/\x.at_<=9223372036854775807:=fun x V=>by
 obtain⟨i,hi⟩:=List.mem_iff_getElem?.1 V;have I:=EL hi;rw[h] at I;have hl:=(bZ.1 I).1;rw[J8] at hl;rw[ajN hl] at I;simp only[Option.some.injEq,Prod.mk.injEq] at I;have:=Nb (jZ D 2) (1+2*i) 2;have e:=I.1;omega
theorem RH (O:Sat W w L) (ao:Option Addr) (c:Nat) (l:List UInt8) {m:Nat} (hm:l.length=m) (hr:∀w,Sat W w L->Rd w (.slice ao m c) m 1 (bv l)) (a:Int) (t n:Nat) (ha:a=(t:Nat)) (hn:1<=n) (hn2:n<=7) (hl:m<=140737488355328) {r:Nat} (hr2:fV l t n=r):
  Calls Tryz.prog 95 #[.slice ao m c, .int .i64 a, .int .i64 n] w fun e w'=>∃ok,e= .returned (.tuple #[.int .i64 (r:Nat), .bool ok])/\w=w':=by
 subst hm hr2;exact xu O ao c l hr a t n ha hn hn2 hl
theorem ajT {D:aG} {k:Nat} {xs:List GW} {v:Value} (h:g2 xs=jL D k):g2 (xs++[⟨((fV (jZ D 2) (1+2*k) 2:Nat):Int),v,jZ D (3+k)⟩])=jL D (k+1):=by
 rw[Z5,<-h];simp[g2]
theorem ais (l:List GW) (h:∀x∈l,∃ao n c,x.val= .slice ao n c):∀u∈l.flatMap gw,u.oneCell'=true:=fun u hu=>by
 obtain⟨x,V,hu⟩:=mE.1 hu;obtain⟨ao,n,c,e⟩:=h x V;simp only[gw,e,oK,nE,or_false] at hu
 rcases hu with rfl|rfl<;>rfl
theorem abD {D:aG} {n:Nat} (h:qx D=n) (hn:20<n):mV D=false:=by
 unfold mV;rw[h,bf (by omega:¬n<=20)];rfl
theorem alL {D:aG} {n:Nat} {xs:List GW} (h:qx D=n) (hn:n<=20) (V:g2 xs=jL D n):mV D=(gT D.blocks.length (g2 xs)&&decide (hdr (g2 xs)=jZ D 2)):=by
 unfold mV;rw[h,bL hn,<-V];rfl
theorem BZ {D:aG} (h:mV D=false):o6 D=(0,D)/\yO D=false:=by unfold yO o6;rw[h];exact⟨rfl,rfl⟩
theorem alO {D:aG} {n:Nat} {xs:List GW} (h:mV D=true) (hl:qx D=n) (V:g2 xs=jL D n):o6 D=bH D (fC (g2 xs))/\yO D=decide ((bH D (fC (g2 xs))).1=0):=by
 have e:o6 D=bH D (fC (g2 xs)):=by unfold o6;rw[h,if_pos rfl,hl,<-V]
 exact⟨e,by unfold yO;rw[h,e];rfl⟩
theorem aoG {p k0:Nat} {D:aG} (O:Sat W w (aP p D::L)) (hG:DG D k0) (hk:k0<=90000) (hn:26<=D.blocks.length):
  Calls Tryz.prog 52 #[.pointer (some ⟨p,0,none⟩)] w fun e w'=>e= .returned (.tuple #[.bool (yO D), .int .i64 (o6 D).1])/\Sat W w' (aP p (o6 D).2::L):=by
 have HG:=Z hG;have HN:=Z hn;have pE:=Z hG.ok.len;clear hG;have HB2:=Z (MB (D:=D) (n:=2) (by omega));clear hn;obtain⟨b,hb⟩:=au (jZ D 2);rw[hb] at HB2;have mG:=Z hb;have aM:=Z (show fV b 0 1=qx D by rw[<-hb];rfl);have hlt:=ajS D;obtain⟨n,hn⟩:=au (qx D);rw[hn] at aM hlt;have Qh:=Z hn;clear hb hn;obtain⟨m,hm⟩:=au (min n 20);have hcase:((n:Int)<=20/\(m:Int)=n)∨((20:Int)< (n:Int)/\(m:Int)=20):=by omega
 have apO:m<=20:=by omega
 have n255:(n:Int)<256:=by omega
 clear hm hlt
 rcases hcase with⟨c1,c2⟩|⟨c1,c2⟩
 all_goals
  go_enter Tryz.func52,Tryz.ntmps52
  go_wp2_with (first
   |(go_at_call 53;refine(Oy O 2 b HB2.F pE.F).mono ?_;clear O;rintro e J ⟨q,rfl,Ak,O⟩;have Bb:=Z Ak;clear Ak)
   |(go_at_call 95;refine(RH O (some ⟨q,0,none⟩) 128 b Bb.F (fun w h=>h.jc (n:=128) aa (by decide) (by rw[jR,Bb.F])) 0 0 1 (by rfl) (by omega) (by omega) (by omega) aM.F).mono ?_;rintro e J ⟨ok1,rfl,rfl⟩))
  have H0:Hid (Sat W _ (Tb 129 2 gw (.slice none 0 0) ([])::St (([]).map grow)::Cs q 106 (bv b)::aP p D::L)):=Z ((Sat.sH (M:=[]) O).jb);go_loopw [8,27] (fun v8 v27 wz=>∃(i:Nat) (xs:List GW),v27= .int .i64 i/\i<=m/\g2 xs=jL D i/\Sat W wz (Tb 129 2 gw (v8) (xs)::St ((xs).map grow)::Cs q 106 (bv b)::aP p D::L)) (fun _ v27 _=>m-(yV v27).toNat)
  case atStart=>exact⟨0,[],rfl,by omega,rfl,H0.F⟩
  case round=>
   clear O H0;obtain⟨i,xs,rfl,hi,V,O⟩:=hrel;have HX:=Z V;have hxl:xs.length=i:=by have:=congrArg List.length V;rwa [qp,J8] at this
   clear V
   by_cases hl:i<m
   ·have i1:(i:Int)< (m:Int):=by omega
    have i2:(i:Int)<20:=by omega
    have HL:=Z hl;have eY:=Z hxl;have HD:=Z (MB (D:=D) (n:=3+i) (by have:=HN.F;omega));obtain⟨a,ha⟩:=au (fV b (1+2*i) 2);obtain⟨d,hd⟩:=au (jZ D (3+i));have iD:=Z (fun v=>(show g2 (xs++[⟨(a:Int),v,d⟩])=jL D (i+1) by rw[<-ha,<-hd,<-mG.F];exact ajT HX.F));rw[hd] at HD;have HAT:=Z ha
    have iB:=Z (fun w (M:List aA) (h:Sat W w (aP p D::M))=>(show Calls Tryz.prog 53 #[.pointer (some ⟨p,0,none⟩), .int .i64 (3+(i:Int))] w fun e w'=>∃q,e= .returned (.tuple #[.slice (some ⟨q,0,none⟩) 128 128, .int .i64 0])/\d.length=128/\Sat W w' (Cs q 106 (bv d)::aP p D::M) by
     have:=Oy h (3+i) d HD.F pE.F;rw[show(((3+i:Nat):Int))=3+(i:Int) by omega] at this
     exact this))
    clear hl ha hd hxl
    go_wp2_with (first
     |(go_at_call 95;refine(RH O (some ⟨q,0,none⟩) 128 b Bb.F (fun w h=>h.jc (n:=128) hz2 (by decide) (by rw[jR,Bb.F])) _ (1+2*i) 2 (by omega) (by omega) (by omega) (by omega) HAT.F).mono ?_;rintro e J ⟨ok1,rfl,rfl⟩)
     |(go_at_call 53;refine(iB.F _ _ (O.re [3])).mono ?_;clear O;rintro e J ⟨r,rfl,G7,O⟩;have PR:=Z G7;clear G7;replace O:=(am8 O PR.F).re [2,3,4,1,0])
     |(refine il [.agg (gw (⟨(a:Int), .slice (some ⟨r,0,none⟩) 128 128,d⟩:GW)).toArray] O ?_ (hc:=by intro v hv;rw[eD.1 hv];rfl);clear O;intro b1 J O;rw[kP] at O)
     |(refine aU ?_;refine zg (f:=gw) O _ _ _ _ (by rfl) _ _ (by rfl) (by rfl) (bS (by rfl)) (by rfl) (by decide) (dO (by rfl)) (by repeat first|exact Has.z|apply Has.s) [(⟨(a:Int), .slice (some ⟨r,0,none⟩) 128 128,d⟩:GW)] (by exact vU _) (by exact O.gZ (f:=gw) aa rfl) (by exact ais _ (fun x V=>by rw[eD.1 V];exact⟨_,_,_,rfl⟩)) (by simp;have:=eY.F;omega) (by simp;have:=eY.F;omega) ?_;clear O;intro uj c5 J hcap5 O;dsimp only[aD,aN] at O))
    refine⟨⟨i+1,_,by go_num,HL.F,iD.F (.slice (some ⟨r,0,none⟩) 128 128),?_⟩,by simp[yV];have:=HL.F;omega⟩;have h3:=(Sat.AO (O.drop.re [4,1])).bW;simp only[bP,dC] at h3;rw[lC];exact h3
   ·have i1:¬(i:Int)< (m:Int):=by omega
    by_cases h20:20<n
    ·have dx:=Z (BZ (abD Qh.F h20));have e20:decide ((20:Int)< (n:Int))=true:=bL (by omega);clear hl h20;go_wp2
     go_ret2
     rw[dx.F.1,dx.F.2];exact⟨rfl,O.drop.drop.drop⟩
    ·have hin:i=n:=by omega
     have QJ:=Z (show g2 xs=jL D n by rw[<-hin];exact HX.F);have eY:=Z (show xs.length<=20 by omega);have wV:=Z (alL Qh.F (by omega) QJ.F);have n20:¬(20:Int)< (n:Int):=by omega
     have e20:decide ((20:Int)< (n:Int))=false:=bf n20;obtain⟨ao,c,rfl,_⟩:=O.fA (k:=0) rfl;have jv:=Z (fun w (h:Sat W w (Tb 129 2 gw (.slice ao xs.length c) (xs)::St ((xs).map grow)::Cs q 106 (bv b)::aP p D::L))=>ac3 h xs ao c (fun w h=>RU h) (by have:=eY.F;omega) (D.blocks.length:Nat));clear hl h20 hin hxl
     cases hok:gT D.blocks.length (g2 xs)
     ·have dx:=Z (BZ (D:=D) (by rw[wV.F,hok];rfl));rw[hok] at jv;clear hok
      go_wp2_with (first
       |(go_at_call 27;refine ak (zh (O.re [3]) (n:=D.blocks.length) rfl) ?_;rintro J rfl)
       |(go_at_call 96;refine ak (jv.F _ O) ?_;clear O;intro J O))
      all_goals (go_ret2;rw[dx.F.1,dx.F.2];exact⟨rfl,O.drop.drop.drop⟩)
     ·have BL:(hdr (g2 xs)).length=128:=G9 (Fp hok).2;have xW:=Z (fun w (h:Sat W w (Tb 129 2 gw (.slice ao xs.length c) (xs)::St ((xs).map grow)::Cs q 106 (bv b)::aP p D::L))=>ac6 h xs ao c (fun w h=>RU h) eY.F (ajP D QJ.F));have qY:=Z (fun v w (h:Sat W w (Sl 5 1 v 128 (bv (hdr (g2 xs)))::Tb 129 2 gw (.slice ao xs.length c) (xs)::St ((xs).map grow)::Cs q 106 (bv b)::aP p D::L))=>ahA h (hdr (g2 xs)) b v (.slice (some ⟨q,0,none⟩) 128 128) 128 BL Bb.F (fun w h=>h.dY aa) (fun w h=>h.jc (n:=128) hz3 (by decide) (by rw[jR,Bb.F])) (by decide));rw[hok] at jv
      by_cases he:hdr (g2 xs)=b
      ·have JZ:mV D=true:=by rw[wV.F,hok,mG.F,bL he];rfl
       have nY:=Z (alO JZ Qh.F QJ.F);rw[bL he] at qY;have tT:=Z (fun v w (h:Sat W w (aP p D::Sl 5 1 v 128 (bv (hdr (g2 xs)))::Tb 129 2 gw (.slice ao xs.length c) xs::St (xs.map grow)::Cs q 106 (bv b)::L))=>XI h HG.F (by omega) xs ao c (fun w h=>RU h.drop) eY.F);obtain⟨z,hz⟩:=au ((bH D (fC (g2 xs))).1);rw[hz] at tT;have HZ:=Z hz;clear hok BL he JZ hz
       go_wp2_with (first
        |(go_at_call 27;refine ak (zh (O.re [3]) (n:=D.blocks.length) rfl) ?_;rintro J rfl)
        |(go_at_call 96;refine ak (jv.F _ O) ?_;clear O;intro J O)
        |(go_at_call 98;refine(xW.F _ O).mono ?_;clear O;rintro e J ⟨vh,rfl,O⟩)
        |(go_at_call 97;refine ak (qY.F _ _ O) ?_;clear O;intro J O)
        |(go_at_call 99;refine ak (tT.F _ _ (O.re [4])) ?_;clear O;intro J O))
       all_goals (go_ret2;rw[nY.F.1,nY.F.2,HZ.F];exact⟨by first|rfl|(congr 2;simp),(O.re [1,2,3,4]).drop.drop.drop.drop⟩)
      ·have dx:=Z (BZ (D:=D) (by rw[wV.F,mG.F,bf he];simp));rw[bf he] at qY;clear hok BL he
       go_wp2_with (first
        |(go_at_call 27;refine ak (zh (O.re [3]) (n:=D.blocks.length) rfl) ?_;rintro J rfl)
        |(go_at_call 96;refine ak (jv.F _ O) ?_;clear O;intro J O)
        |(go_at_call 98;refine(xW.F _ O).mono ?_;clear O;rintro e J ⟨vh,rfl,O⟩)
        |(go_at_call 97;refine ak (qY.F _ _ O) ?_;clear O;intro J O))
       all_goals (go_ret2;rw[dx.F.1,dx.F.2];exact⟨rfl,O.drop.drop.drop.drop⟩)
end Go.Proofs.YtjbiihbicknemaaGreat
