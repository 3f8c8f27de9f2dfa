/-
  Part of the proof of StoreWhole.
-/
import Derived.Test.YtjbiihbicknemaaGreatMIno
import Derived.Test.YtjbiihbicknemaaGreatMWlq
set_option linter.unusedSimpArgs false
set_option linter.unusedVariables false
set_option maxRecDepth 20000
set_option maxHeartbeats 40000000
namespace Go.Proofs.YtjbiihbicknemaaGreat
open Go.RowKit Go.Sep
variable {W w:World} {L:List aA}
attribute [local irreducible] Oper.wp wpList Calls Code.wp Sep.dR
theorem GK (A B:List UInt8) {v:Int} {n t:Nat} (h0:0<=v) (I:v<256 ^ n) (ht:t=A.length):((fV (A++(le v n++B)) t n:Nat):Int)=v:=by
 subst ht;unfold fV;rw[if_pos (by rw[bP,bP,fK];omega)];rw[List.drop_left,List.take_left' (fK v n)];obtain⟨m,rfl⟩:∃m:Nat,v=(m:Int):=⟨v.toNat,by omega⟩
 have H:m<256 ^ n:=by
  have e:((256:Int) ^ n)=((256 ^ n:Nat):Int):=by rw[Int.natCast_pow];rfl
  rw[e] at I;exact Int.ofNat_lt.1 I
 rw[K7 n m H]
theorem ahu {x:aL} {k:Nat} {p:Int} (h:x.ptrs[k]? =some p) (hl:x.ptrs.length=32):∃B,encI x=uu x k++(le p 2++B):=by
 have hk:=(bZ.1 h).1;refine⟨(x.ptrs.drop (k+1)).flatMap (le · 2)++List.replicate (128-75) 0,?_⟩;rw[<-JE x hl];unfold rG;rw[CX x (by omega)]
 have e:x.ptrs.take 32=x.ptrs.take k++(p::x.ptrs.drop (k+1)):=by
  rw[dF (by omega)]
  conv=>lhs;rw[<-rR k x.ptrs]
  congr 1;rw[List.drop_eq_getElem_cons hk];congr 1;have:=aR hk;rw[this] at h;exact ig h
 unfold uu;rw[e,List.flatMap_append,pY];simp only[dX]
theorem XX {x:aL} (V:kD x) {k:Nat} {p:Int} (h:x.ptrs[k]? =some p):((fV (encI x) (11+2*k) 2:Nat):Int)=p:=by
 obtain⟨B,hB⟩:=ahu h V.pl;have hp:=Fq V h;have hk:=(bZ.1 h).1;rw[hB];exact GK _ _ hp.1 (by omega) (by rw[CX x (by omega)])
theorem JF (x:aL) (h:x.ptrs.length=32):∃B,encI x=le x.kind 1++(le x.size 2++(le x.links 2++(le x.obj 3++(le x.node 3++B)))):=by
 refine⟨x.ptrs.flatMap (le · 2)++List.replicate (128-75) 0,?_⟩;rw[<-JE x h];unfold rG;rw[CX x (by omega)];unfold uu;rw[dF (by omega)];simp only[dX]
theorem XR {x:aL} (V:kD x):((fV (encI x) 0 1:Nat):Int)=x.kind:=by
 obtain⟨B,hB⟩:=JF x V.pl;have:=V.kd;rw[hB];exact GK [] _ this.1 (by omega) rfl
theorem XT {x:aL} (V:kD x):((fV (encI x) 1 2:Nat):Int)=x.size:=by
 obtain⟨B,hB⟩:=JF x V.pl;have:=V.sz;rw[hB];exact GK (le x.kind 1) _ this.1 (by omega) (by simp[fK])
theorem XU {x:aL} (V:kD x):((fV (encI x) 3 2:Nat):Int)=x.links:=by
 obtain⟨B,hB⟩:=JF x V.pl;have:=V.lk;rw[hB,<-dX];exact GK (le x.kind 1++le x.size 2) _ this.1 (by omega) (by simp[fK])
theorem XV {x:aL} (V:kD x):((fV (encI x) 5 3:Nat):Int)=x.obj:=by
 obtain⟨B,hB⟩:=JF x V.pl;have:=V.ob;rw[hB,<-dX,<-dX];exact GK (le x.kind 1++le x.size 2++le x.links 2) _ this.1 (by omega) (by simp[fK])
theorem XW {x:aL} (V:kD x):((fV (encI x) 8 3:Nat):Int)=x.node:=by
 obtain⟨B,hB⟩:=JF x V.pl;have:=V.nd;rw[hB,<-dX,<-dX,<-dX];exact GK (le x.kind 1++le x.size 2++le x.links 2++le x.obj 3) _ this.1 (by omega) (by simp[fK])
def upto (x:aL) (k:Nat):aL:=⟨x.kind,x.size,x.links,x.obj,x.node,x.ptrs.take k++List.replicate (32-k) 0⟩
theorem ac1 {x:aL} (h:x.ptrs.length=32) {k:Nat} {p:Int} (hp:x.ptrs[k]? =some p):(inv (upto x k)).set (5+k) (.int .i64 p)=inv (upto x (k+1)):=by
 have hk:=(bZ.1 hp).1;unfold inv upto;dsimp only;rw[List.set_append_right _ _ (by simp)];congr 1;unfold pv;rw[show 5+k - [Value.int .i64 x.kind, .int .i64 x.size, .int .i64 x.links, .int .i64 x.obj, .int .i64 x.node].length=k by simp];rw[lC,lC,List.set_append_right _ _ (by simp;omega)];rw[ik,hp,Option.toList_some,lC,dX];congr 1;rw[qa,jr,show k-min k x.ptrs.length=0 by omega,show 32-k=(32-(k+1))+1 by omega,List.replicate_succ];rfl
theorem acZ {x:aL} (h:x.ptrs.length=32):upto x 32=x:=by
 unfold upto;rw[dF (by omega),Nat.sub_self,List.replicate_zero,kv]
theorem ac0 {x:aL} (h:x.ptrs.length=32) {k:Nat} (hk:k<=32):(inv (upto x k)).length=37:=by
 rw[fe];unfold upto;simp;omega
theorem ac2 (x:aL):(((((inv bC).set 0 (.int .i64 x.kind)).set 1 (.int .i64 x.size)).set 2 (.int .i64 x.links)).set 3 (.int .i64 x.obj)).set 4 (.int .i64 x.node)=inv (upto x 0):=rfl
theorem Hq (O:Sat W w L) {b:List UInt8} (hb:b.length=128) (ao:Option Addr) (c:Nat) (hr:∀w,Sat W w L->Rd w (.slice ao 128 c) 128 1 (bv b)) {a v:Int} {t n:Nat} (ha:a=(t:Nat)) (hn:1<=n) (hn2:n<=7) (hv:((fV b t n:Nat):Int)=v):
  Calls Tryz.prog 95 #[.slice ao 128 c, .int .i64 a, .int .i64 n] w fun e w'=>∃ok,e= .returned (.tuple #[.int .i64 v, .bool ok])/\w=w':=by
 subst hv;exact RH O ao c b hb hr a t n ha hn hn2 (by omega) rfl
def IgI (W:World) (L:List aA) (x:aL) (p2 p4:Nat) (v42:Value) (wz:World):Prop:=
 ∃k:Nat,v42= .int .i64 (k:Int)/\k<=32/\Sat W wz (Cs p4 78 (inv (upto x k))::Cs p2 78 (inv bC)::L)
theorem ajg (O:Sat W w L) (x:aL) (V:kD x) (ao:Option Addr) (c:Nat) (hr:∀w L',Sat W w (L'++L)->Rd w (.slice ao 128 c) 128 1 (bv (encI x))):
  Calls Tryz.prog 55 #[.slice ao 128 c] w fun e w'=>e= .returned (.tuple #[.agg (inv x).toArray, .bool true])/\Sat W w' L:=by
 have HZ:=Z (show nU Tryz.prog 78=some (some (.agg (inv bC).toArray)) by kernel_rfl);have HR:=Z hr;have HX:=Z V;have hbl:=CY x V.pl;have PW:=Z (fun w A B (h:Sat W w (A::B::L))=>Hq h hbl ao c (fun w h=>hr w [_,_] h) (a:=0) (t:=0) (n:=1) rfl (by decide) (by decide) (XR V));have FW:=Z (fun w A B (h:Sat W w (A::B::L))=>Hq h hbl ao c (fun w h=>hr w [_,_] h) (a:=1) (t:=1) (n:=2) rfl (by decide) (by decide) (XT V));have I5:=Z (fun w A B (h:Sat W w (A::B::L))=>Hq h hbl ao c (fun w h=>hr w [_,_] h) (a:=3) (t:=3) (n:=2) rfl (by decide) (by decide) (XU V));have PX:=Z (fun w A B (h:Sat W w (A::B::L))=>Hq h hbl ao c (fun w h=>hr w [_,_] h) (a:=5) (t:=5) (n:=3) rfl (by decide) (by decide) (XV V));have PY:=Z (fun w A B (h:Sat W w (A::B::L))=>Hq h hbl ao c (fun w h=>hr w [_,_] h) (a:=8) (t:=8) (n:=3) rfl (by decide) (by decide) (XW V));have P6:=Z (fun w A B (h:Sat W w (A::B::L)) k p (hp:x.ptrs[k]? =some p) (a:Int) (ha:a=((11+2*k:Nat):Int))=>Hq h hbl ao c (fun w h=>hr w [_,_] h) (a:=a) (t:=11+2*k) (n:=2) ha (by decide) (by decide) (XX V hp));have eX:=Z V.pl;have Eg:=Z (ac2 x);have QG:=Z (acZ V.pl);have CK:=Z (fun k (h:k<=32)=>ac0 V.pl h);have Jk:=Z (fun k p (h:x.ptrs[k]? =some p)=>ac1 V.pl h);clear V hr hbl;obtain⟨zv,hz⟩:=au (inv bC);have fQ:=Z (show zv.length=37 by rw[<-hz];rfl);rw[hz] at HZ Eg;go_enter Tryz.func55,Tryz.ntmps55
 go_wp2_with (first
  |(refine dU (show Sat W _ L from O) ?_ (hz:=HZ.F);clear O;intro p2 J O;rw[aS] at O)
  |(refine dU (show Sat W _ (_::L) from O) ?_ (hz:=HZ.F);clear O;intro p4 J O;rw[aS] at O)
  |(go_at_call 95;refine(PW.F _ _ _ O).mono ?_;rintro e J ⟨ok1,rfl,rfl⟩)
  |(go_at_call 95;refine(FW.F _ _ _ O).mono ?_;rintro e J ⟨ok1,rfl,rfl⟩)
  |(go_at_call 95;refine(I5.F _ _ _ O).mono ?_;rintro e J ⟨ok1,rfl,rfl⟩)
  |(go_at_call 95;refine(PX.F _ _ _ O).mono ?_;rintro e J ⟨ok1,rfl,rfl⟩)
  |(go_at_call 95;refine(PY.F _ _ _ O).mono ?_;rintro e J ⟨ok1,rfl,rfl⟩)
  |(refine iA O aa ?_ (hb:=by(try simp only[gV]);rw[fQ.F];decide);clear O;intro J O;rw[aD] at O))
 rw[Eg.F] at O;have H0:=Z O;clear O HZ Eg;go_loopw [42] (fun v42 wz=>IgI W L x p2 p4 v42 wz) (fun v42 _=>32-(intOf v42).toNat)
 case atStart=>exact⟨0,rfl,by decide,by rw[hz];exact H0.F⟩
 case round=>
  clear H0;obtain⟨k,rfl,hk,O⟩:=hrel;rw[hz] at O
  by_cases hlt:k<32
  ·have k1:(k:Int)<32:=by omega
   have ay:=Z hlt;obtain⟨p,hp⟩:∃p,x.ptrs[k]? =some p:=⟨_,aR (by have:=eX.F;omega)⟩
   have HP:=Z hp;clear hp hlt hk
   go_wp2_with (first
    |(go_at_call 95;refine(P6.F _ _ _ O k p HP.F _ (by omega)).mono ?_;rintro e J ⟨ok1,rfl,rfl⟩)
    |(refine iA O aa ?_ (hb:=by rw[CK.F k (Nat.le_of_lt ay.F)];have:=ay.F;omega);clear O;intro J O;rw[aD,Jk.F k p HP.F] at O))
   exact⟨⟨k+1,by go_num,ay.F,by rw[hz];exact O⟩,by have:=ay.F;simp[intOf];omega⟩
  ·obtain rfl:k=32:=by omega
   rw[QG.F] at O;have HP:=Z (fun w A B (h:Sat W w (A::B::L))=>Hr h x HX.F);have HI1:=Z (inv_one x);have dI:=Z (show(inv x).length=37 by rw[fe,eX.F]);obtain⟨d,hd⟩:=au (encI x);have e9:(d==d)=true:=by simp
   obtain⟨iv,dA⟩:=au (inv x);rw[hd] at HR HP;rw[dA] at O HP HI1 dI;clear hlt hk hd hz
   go_wp2_with (first
    |(refine dm O aa iv ?_ (hvs:=by rw[kz,dF (by rw[dI.F];exact aZ _)]) (hb:=dI.F))
    |(refine dm O hz1 iv ?_ (hvs:=by rw[kz,dF (by rw[dI.F];exact aZ _)]) (hb:=dI.F))
    |(go_at_call 32;refine(HP.F _ _ _ O).mono ?_;clear O;rintro e J ⟨v2,rfl,O⟩)
    |(refine aU ?_;refine ou _ _ _ (by rfl) _ (by rfl) jI (l:=d) (by first|exact HR.F _ [_,_,_] O|exact O.dY aa) ?_)
    |(refine kW iv O hz2 ?_ (hv:=HI1.F) (hn:=by rw[dI.F];exact bz (by rfl)) (hb:=by rw[dI.F,fQ.F];exact aZ _);clear O;intro J O;dsimp only[aD,aN] at O;rw[List.take_zero,iP,oJ (by rw[dI.F,fQ.F];exact aZ _),kv] at O))
   refine Ae O rfl (by rfl) (aI (by rfl)) (bz (by rfl)) hz2 dI.F rfl ?_;exact⟨by rw[dA];rfl,O.drop.drop.drop⟩
def lJ (b:Nat) (n:Nat):Bool:=decide (n<74) || decide (b<=n)
def Cm (b k:Nat) (n:Nat):Bool:=decide (n<k)&&lJ b n
theorem aoh (b k:Nat):upd (Cm b k) k (lJ b k)=Cm b (k+1):=by
 funext n;unfold upd Cm
 by_cases h:n=k
 ·subst h;rw[if_pos rfl,bL (by omega:n<n+1),Bool.true_and]
 ·rw[if_neg h]
  by_cases H:n<k
  ·rw[bL H,bL (by omega:n<k+1)]
  ·rw[bf H,bf (by omega:¬n<k+1)]
theorem aoi (b:Nat):bv (cO (Cm b 0))=bv (zeros 128):=by
 congr 1
theorem aog (b:Nat):cO (Cm b 1024)=cO (lJ b):=aae fun n hn=>by unfold Cm;rw[bL hn,Bool.true_and]
def afh (W:World) (L:List aA) (b:Nat) (v3 v6:Value) (wz:World):Prop:=∃k:Nat,v6= .int .i64 (k:Int)/\k<=1024/\Sat W wz (IsMap v3 (Cm b k)::L)
theorem Q5 (O:Sat W w L) (b:Nat) (hb:b<=1100):
  Calls Tryz.prog 26 #[.int .i64 (b:Int)] w fun e w'=>∃v,e= .returned v/\Sat W w' (IsMap v (lJ b)::L):=by
 have hbi:(b:Int)<=1100:=by omega
 go_enter Tryz.func26,Tryz.ntmps26
 go_wp2_with (refine aU ?_;refine mk O _ _ _ (by rfl) 128 128 _ _ (by rfl) (by rfl) (bS (by rfl)) (by omega) (by omega) (by omega) ?_;clear O;intro pb J O;rw[zA] at O)
 have H0:Hid (Sat W J (IsMap (.slice (some ⟨pb,0,none⟩) 128 128) (Cm b 0)::L)):=by
  unfold IsMap;rw[aoi];exact Z (Sat.pW (pre:=[]) (rest:=[]) (by simpa using O) (aZ _) (by decide) (by simp[zeros,bv]) rfl (by simp[zeros,bv]))
 go_loopw [6] (fun v6 wz=>afh W L b (.slice (some ⟨pb,0,none⟩) 128 128) v6 wz) (fun v6 _=>1024-(intOf v6).toNat)
 case atStart=>exact⟨0,rfl,eG _,H0.F⟩
 case round=>
  clear O H0;obtain⟨k,rfl,hk,O⟩:=hrel
  by_cases hlt:k<1024
  ·have k1:(k:Int)<1024:=by omega
   have ay:=Z hlt;have HB:=Z (fun w (h:Sat W w (IsMap (.slice (some ⟨pb,0,none⟩) 128 128) (Cm b k)::L))=>Gp h k hlt (lJ b k));have HE:=Z (aoh b k);obtain⟨u,hu⟩:=au (lJ b k)
   have hu2:(decide ((k:Int)<74) || decide ((b:Int)<=(k:Int)))=u:=by
    rw[<-hu];unfold lJ;congr 1
    ·exact decide_eq_decide.2 (by omega)
    ·exact decide_eq_decide.2 (by omega)
   rw[hu] at HB HE;clear hlt hk hu
   by_cases h74:(k:Int)<74
   ·rw[bL h74,Bool.true_or] at hu2;subst hu2;have e1:decide ((k:Int)<74)=true:=bL h74
    go_wp2_with (go_at_call 28;refine ak (HB.F _ O) ?_;clear O;intro J O)
    rw[HE.F] at O;exact⟨⟨k+1,by go_num,ay.F,O⟩,by simp[intOf];have:=ay.F;omega⟩
   ·rw[bf h74,Bool.false_or] at hu2;have e1:decide ((k:Int)<74)=false:=bf h74;have e2:=hu2;have e3:decide (b<=k)=u:=by rw[<-hu2];exact decide_eq_decide.2 (by omega)
    have HB2:=Z (fun w h=>show Calls Tryz.prog 28 #[.slice (some ⟨pb,0,none⟩) 128 128, .int .i64 (k:Int), .bool (decide (b<=k))] w _ from by rw[e3];exact HB.F w h);clear e3
    go_wp2_with (go_at_call 28;refine ak (HB2.F _ O) ?_;clear O;intro J O)
    rw[HE.F] at O;exact⟨⟨k+1,by go_num,ay.F,O⟩,by simp[intOf];have:=ay.F;omega⟩
  ·obtain rfl:k=1024:=by omega
   have hS2:Sat W wr (IsMap (.slice (some ⟨pb,0,none⟩) 128 128) (lJ b)::L):=by
    unfold IsMap at*
    rwa [aog] at O
   clear O hlt hk;go_wp2;go_ret;exact⟨_,rfl,hS2⟩
structure Lv (D:aG) (B:List (List UInt8)) (k:Nat):Prop where
 bl:D.blocks=B
 left:D.left= -1
 dead:D.dead=false
 ok:DG D k
theorem Lv.mono {D:aG} {B:List (List UInt8)} {k m:Nat} (h:Lv D B k) (hm:k<=m):Lv D B m:=⟨h.bl,h.left,h.dead,h.ok.mono hm⟩
theorem Lv.len {D:aG} {B:List (List UInt8)} {k:Nat} (h:Lv D B k):B.length<=1024:=by rw[<-h.bl];exact h.ok.ok.len
theorem Lv.wrote {D:aG} {B:List (List UInt8)} {k:Nat} (h:Lv D B k) {n:Nat} (hn:n<B.length) (b:List UInt8):Lv (D.wrote n b) (B.set n b) (k+1) where
 bl:=by show D.blocks.set n b=_;rw[h.bl]
 left:=by show(if 0<D.left then D.left-1 else D.left)= -1;rw[h.left];rfl
 dead:=h.dead
 ok:=by
  have:=h.ok;refine⟨⟨?_,?_,?_⟩,?_,?_,?_⟩
  ·show(D.blocks.set n b).length<=1024;rw[gV];exact this.ok.len
  ·show D.base.length<=(D.blocks.set n b).length;rw[gV];exact this.ok.base
  ·show ∀x∈D.writes++[(n,b)],x.1< (D.blocks.set n b).length;intro x V;rw[gV]
   rcases gy.1 V with V|V
   ·exact this.ok.at_ x V
   ·rw[eD.1 V,h.bl];exact hn
  ·show -1<=(if 0<D.left then D.left-1 else D.left);rw[h.left];decide
  ·show(if 0<D.left then D.left-1 else D.left)<=_;rw[h.left];decide
  ·show(D.writes++[(n,b)]).length<=_;rw[bP];have:=this.wr;simp;omega
theorem Lv.new {n:Nat} (H:n<=1024):Lv (aG.new (n:Int)) (List.replicate n (zeros 128)) 0 where
 bl:=by show List.replicate ((n:Int)).toNat _=_;rw[fu]
 left:=rfl
 dead:=rfl
 ok:=⟨⟨(by show(List.replicate ((n:Int)).toNat _).length<=1024;rw[kZ];omega),eG _,fun _ h=>nomatch h⟩,(show(-1:Int)<= -1 by decide),(show(-1:Int)<=9223372036854775807 by decide),eG _⟩
theorem yx {p k:Nat} {D:aG} {B:List (List UInt8)} (O:Sat W w (aP p D::L)) (hl:Lv D B k) (hk:k<=1000000) {a:Int} {n:Nat} (ha:a=(n:Int)) (hn:n<B.length) (v:Value) (b:List UInt8) (hb:∀w,Sat W w L->Rd w v 128 1 (bv b)):
  Calls Tryz.prog 30 #[.pointer (some ⟨p,0,none⟩), .int .i64 a,v] w fun e w'=>e= .returned (.int .i64 0)/\Sat W w' (aP p (D.wrote n b)::L):=by
 subst ha;have I:=hl.left;have H:=hl.ok.wr;exact ado O n v b hb hl.dead (by rw[hl.bl];exact hn) (by rw[I];decide) (by rw[I];decide) (by rw[I];decide) (by omega) (by rw[hl.bl];exact hl.len)
theorem JD {p k:Nat} {D:aG} {B:List (List UInt8)} (O:Sat W w (aP p D::L)) (hl:Lv D B k) {a:Int} {n:Nat} (ha:a=(n:Int)) {b:List UInt8} (hb:B[n]? =some b):
  Calls Tryz.prog 53 #[.pointer (some ⟨p,0,none⟩), .int .i64 a] w fun e w'=>∃q,e= .returned (.tuple #[.slice (some ⟨q,0,none⟩) 128 128, .int .i64 0])/\Sat W w' (Cs q 106 (bv b)::aP p D::L):=by
 subst ha;refine(Oy O n b (by rw[hl.bl];exact hb) (by rw[hl.bl];exact hl.len)).mono ?_;rintro e w' ⟨q,I,_,H⟩;exact⟨q,I,H⟩
def kI (B:List (List UInt8)) (l:G2):List (List UInt8):=l.foldl (fun B x=>B.set x.1.toNat x.2) B
theorem Az (l:G2):∀B,(kI B l).length=B.length:=by
 induction l with
 |nil=>intro B;rfl
 |cons x l ih=>intro B;show(kI (B.set _ _) l).length=_;rw[ih,gV]
theorem TF (B:List (List UInt8)) (l m:G2):kI B (l++m)=kI (kI B l) m:=List.foldl_append ..
theorem KD (l:G2) {j:Nat} (h:∀x∈l,x.1.toNat≠j):∀B,(kI B l)[j]? =B[j]? :=by
 induction l with
 |nil=>intro B;rfl
 |cons x l ih=>
  intro B;show(kI (B.set _ _) l)[j]? =_
  rw[ih (fun y hy=>h y (List.mem_cons_of_mem _ hy)),List.getElem?_set_ne (h x (List.mem_cons_self ..))]
theorem amN (l:G2):∀ {D:aG} {B:List (List UInt8)} {k:Nat},Lv D B k->(∀x∈l,0<=x.1/\x.1<B.length/\x.2.length=128)->∃D',bH D l=(0,D')/\Lv D' (kI B l) (k+l.length):=by
 induction l with
 |nil=>intro D B k h _;exact⟨D,rfl,h⟩
 |cons x l ih=>
  intro D B k h V;obtain⟨I,H,h3⟩:=V x (List.mem_cons_self ..);have hn:x.1.toNat<B.length:=by omega
  have hb:¬bad B.length x.1 128:=by unfold bad;omega
  have hc:gp D x.1 x.2.length=0:=by
   unfold gp;rw[h.dead,h.left,h.bl,h3,if_neg (by decide),if_neg hb,if_neg (by decide)]
  have hnx:fG D x.1 x.2=D.wrote x.1.toNat x.2:=by
   unfold fG;rw[h.dead,h.left,h.bl,h3,if_neg (by decide),if_neg hb,if_neg (by decide)]
  obtain⟨D',hr,hl⟩:=ih (h.wrote hn x.2) (fun y hy=>by rw[gV];exact V y (List.mem_cons_of_mem _ hy));refine⟨D',?_,?_⟩
  ·show(if gp D x.1 x.2.length=0 then bH (fG D x.1 x.2) l else _)=_;rw[if_pos hc,hnx,hr]
  ·rw[fB,show k+(l.length+1)=k+1+l.length by omega];exact hl
def jU:aL:=⟨2,0,1,1,0,List.replicate 32 0⟩
theorem N7:kD jU where
 pl:=rfl
 zero h:=absurd h (by decide)
 kd:=by decide
 sz:=by decide
 lk:=by decide
 ob:=by decide
 Dr _:=by decide
 nd:=by decide
 dir _:=⟨rfl,rfl,fun k _=>by show(0:Int)<=(k:Int)*128;omega⟩
 pt k p h hp:=absurd (List.eq_of_mem_replicate (bJ h)) hp
 Dj j k p _ h _:=List.eq_of_mem_replicate (bJ h)
def sD (i:Nat):aL:=if i=0 then jU else bC
theorem Tq (i:Nat):kD (sD i):=by
 unfold sD
 split
 ·exact N7
 ·exact Dt
def U0 (n:Nat):Nat->Bool:=upd (lJ n) 74 true
def GG (n:Nat):List (List UInt8):=(((List.replicate n (zeros 128)).set 2 (zeros 128)).set 1 (cO (U0 n))).set 74 (gL [] 0)
def xq (n:Nat):Nat->List (List UInt8)
 |0=>GG n
 |k+1=>(xq n k).set (26+k) (encI (sD k))
theorem qL (n:Nat):∀k,(xq n k).length=n
 |0=>by unfold xq GG;simp
 |k+1=>by rw[xq,gV,qL n k]
def vE (n:Nat):di:=⟨n,74,74,0,0,1,0⟩
theorem Ik {n:Nat} (I:160<=n) (H:n<=1024):eQ (vE n)=true:=by
 unfold eQ vE bI;simp;omega
def sW (n:Nat):List (List UInt8):=(xq n 48).set 0 (encS (vE n))
theorem Yl {n:Nat} (h:160<=n):∀(k i:Nat),k<=48->i<k->(xq n k)[26+i]? =some (encI (sD i))
 |0,i,_,hi=>by omega
 |k+1,i,hk,hi=>by
  rw[xq]
  by_cases e:i=k
  ·subst e;rw[List.getElem?_set_self (by rw[qL];omega)]
  ·rw[List.getElem?_set_ne (by omega)];exact Yl h k i (by omega) (by omega)
theorem M7 (n:Nat) {j:Nat} (hj:j<26∨74<=j):∀k,k<=48->(xq n k)[j]? =(GG n)[j]?
 |0,_=>rfl
 |k+1,hk=>by
  rw[xq,List.getElem?_set_ne (by omega)];exact M7 n hj k (by omega)
theorem GI (n:Nat):(sW n).length=n:=by unfold sW;rw[gV,qL]
theorem ahM {n:Nat} (h:160<=n):(sW n)[0]? =some (encS (vE n)):=by
 unfold sW;rw[List.getElem?_set_self (by rw[qL];omega)]
theorem ahQ {n:Nat} (h:160<=n) {i:Nat} (hi:i<48):(sW n)[26+i]? =some (encI (sD i)):=by
 unfold sW;rw[List.getElem?_set_ne (by omega)];exact Yl h 48 i (aZ _) hi
theorem ahN {n:Nat} (h:160<=n):(sW n)[1]? =some (cO (U0 n)):=by
 unfold sW;rw[List.getElem?_set_ne (by omega),M7 n (by omega) 48 (aZ _)];unfold GG;rw[List.getElem?_set_ne (by omega),List.getElem?_set_self (by simp;omega)]
theorem ahO {n:Nat} (h:160<=n):(sW n)[2]? =some (zeros 128):=by
 unfold sW;rw[List.getElem?_set_ne (by omega),M7 n (by omega) 48 (aZ _)];unfold GG;rw[List.getElem?_set_ne (by omega),List.getElem?_set_ne (by omega),List.getElem?_set_self (by simp;omega)]
theorem ahP {n:Nat} (h:160<=n):(sW n)[74]? =some (gL [] 0):=by
 unfold sW;rw[List.getElem?_set_ne (by omega),M7 n (by omega) 48 (aZ _)];unfold GG;rw[List.getElem?_set_self (by simp;omega)]
structure iH (X:List aL):Prop where
 len:X.length=48
 ok:∀x∈X,kD x
theorem iH.fl {X:List aL} (h:iH X):∀x∈X,(inv x).length=37:=fun x V=>by rw[fe,(h.ok x V).pl]
theorem iH.mK {X:List aL} (h:iH X):(X.flatMap inv).length=1776:=by rw[BD h.fl,h.len]
def bU (pd:Nat) (s:di) (fv:Value) (X:List aL) (TW:Value) (last:Int):List Value:=
 (.pointer (some ⟨pd,0,none⟩)::sv s)++(fv::(X.flatMap inv++[TW, .int .i64 last]))
theorem mU (s:di):(sv s).length=7:=rfl
theorem vD {pd:Nat} {s:di} {fv:Value} {X:List aL} {r:Value} {last:Int} (h:iH X):(bU pd s fv X r last).length=1787:=by
 unfold bU;rw[bP,fB,mU,fB,bP,h.mK];rfl
theorem Cg {pd:Nat} {s:di} {fv:Value} {X:List aL} {r:Value} {last:Int} {k:Nat} (h:k<8):(bU pd s fv X r last)[k]? =(Value.pointer (some ⟨pd,0,none⟩)::sv s)[k]? :=by
 unfold bU;rw[xN (by rw[fB,mU];omega)]
theorem O6 {pd:Nat} {s:di} {fv:Value} {X:List aL} {r:Value} {last:Int} :(bU pd s fv X r last)[8]? =some fv:=rfl
theorem O8 {pd:Nat} {s:di} {fv:Value} {X:List aL} {r:Value} {last:Int} (h:iH X):(bU pd s fv X r last)[1785]? =some r:=by
 unfold bU;rw[rP (by rw[fB,mU];omega),fB,mU];show(fv::(X.flatMap inv++[r, .int .i64 last]))[1776+1]? =_
 rw[xO,rP (by rw[h.mK];omega),h.mK];rfl
theorem Uk {pd:Nat} {s:di} {fv:Value} {X:List aL} {r:Value} {last:Int} (h:iH X):(bU pd s fv X r last)[1786]? =some (.int .i64 last):=by
 unfold bU;rw[rP (by rw[fB,mU];omega),fB,mU];show(fv::(X.flatMap inv++[r, .int .i64 last]))[1777+1]? =_
 rw[xO,rP (by rw[h.mK];omega),h.mK];rfl
theorem O7 {pd:Nat} {s:di} {fv:Value} {X:List aL} {r:Value} {last:Int} (h:iH X) {i:Nat} {x:aL} (V:X[i]? =some x):((bU pd s fv X r last).drop (9+i*37)).take 37=inv x:=by
 have hi:=(bZ.1 V).1;have e:bU pd s fv X r last=(.pointer (some ⟨pd,0,none⟩)::sv s++[fv])++(X.flatMap inv++[r, .int .i64 last]):=by unfold bU;simp
 rw[e,List.drop_append,oJ (by rw[bP,fB,mU,dC];omega),iP];rw[show 9+i*37-(Value.pointer (some ⟨pd,0,none⟩)::sv s++[fv]).length=i*37 by rw[bP,fB,mU,dC];omega];rw[zn V,dX,dX];have h3:=EK h.fl (Nat.le_of_lt hi);rw[List.drop_append_of_le_length (by rw[h3];exact aZ _),oJ (by rw[h3];exact aZ _),iP];rw[List.take_append_of_le_length (by rw[h.fl x (bJ V)];exact aZ _),dF (by rw[h.fl x (bJ V)];exact aZ _)]
theorem Pb {pd:Nat} {s:di} {fv:Value} {X:List aL} {r:Value} {last:Int} :((bU pd s fv X r last).drop 1).take 7=sv s:=rfl
theorem KW {pd:Nat} {s s':di} {fv:Value} {X:List aL} {r:Value} {last:Int} :(bU pd s fv X r last).take 1++sv s'++(bU pd s fv X r last).drop 8=bU pd s' fv X r last:=rfl
theorem O9 {pd:Nat} {s:di} {fv zo:Value} {X:List aL} {r:Value} {last:Int} :(bU pd s fv X r last).set 8 zo=bU pd s zo X r last:=rfl
theorem Um {pd:Nat} {s:di} {fv:Value} {X:List aL} {r r':Value} {last:Int} (h:iH X):(bU pd s fv X r last).set 1785 r'=bU pd s fv X r' last:=by
 unfold bU;rw[List.set_append_right _ _ (by rw[fB,mU];omega),fB,mU];show _++(fv::(X.flatMap inv++[r, .int .i64 last])).set (1776+1) r'=_;rw[aN,List.set_append_right _ _ (by rw[h.mK];omega),h.mK];rfl
theorem Ul {pd:Nat} {s:di} {fv:Value} {X:List aL} {r:Value} {last last':Int} (h:iH X):(bU pd s fv X r last).set 1786 (.int .i64 last')=bU pd s fv X r last':=by
 unfold bU;rw[List.set_append_right _ _ (by rw[fB,mU];omega),fB,mU];show _++(fv::(X.flatMap inv++[r, .int .i64 last])).set (1777+1) _=_;rw[aN,List.set_append_right _ _ (by rw[h.mK];omega),h.mK];rfl
theorem anz {pd:Nat} {s:di} {fv:Value} {X:List aL} {r:Value} {last:Int} (h:iH X) {i:Nat} (hi:i<48) (y:aL) (hy:y.ptrs.length=32):
  (bU pd s fv X r last).take (9+i*37)++inv y++(bU pd s fv X r last).drop (9+i*37+37)=bU pd s fv (X.set i y) r last:=by
 obtain⟨x,V⟩:∃x,X[i]? =some x:=⟨_,aR (by rw[h.len];exact hi)⟩
 have hil:i<X.length:=by rw[h.len];exact hi
 have e:∀X:List aL,bU pd s fv X r last=(.pointer (some ⟨pd,0,none⟩)::sv s++[fv])++(X.flatMap inv++[r, .int .i64 last]):=by intro X;unfold bU;simp
 have h9:(Value.pointer (some ⟨pd,0,none⟩)::sv s++[fv]).length=9:=by rw[bP,fB,mU];rfl
 have h3:=EK h.fl (Nat.le_of_lt hil);have hxl:=h.fl x (bJ V);have hx2:(X.set i y)[i]? =some y:=by rw[List.getElem?_set_self hil]
 rw[e,e,List.take_append,List.drop_append,h9];rw[dF (by rw[h9];omega),oJ (by rw[h9];omega),iP];rw[show 9+i*37-9=i*37 by omega,show 9+i*37+37-9=i*37+37 by omega];rw[zn hx2,List.take_set_of_le (aZ i),List.drop_set_of_lt (by omega)];have hs:=zn (f:=inv) V
 have t1:(X.flatMap inv++[r, .int .i64 last]).take (i*37)=(X.take i).flatMap inv:=by
  rw[hs,dX,dX,List.take_append_of_le_length (by rw[h3];exact aZ _),dF (by rw[h3];exact aZ _)]
 have t2:(X.flatMap inv++[r, .int .i64 last]).drop (i*37+37)=(X.drop (i+1)).flatMap inv++[r, .int .i64 last]:=by
  rw[hs,dX];exact List.drop_left' (by rw[bP,h3,hxl])
 rw[t1,t2];simp only[dX]
structure w9 (n:Nat) (g:G2):Prop where
 lo:1<=g.length
 hi:g.length<=20
 ok:gT n g=true
 gU:∀x∈g,(0<=x.1/\x.1<n/\x.2.length=128)/\(x.1<2∨26<=x.1)
 nd:(g.map (·.1)).Nodup
theorem Tp {n:Nat} {g:G2} (lo:1<=g.length) (hi:g.length<=20) (gU:∀x∈g,(0<=x.1/\x.1<n/\x.2.length=128)/\(x.1<2∨26<=x.1)) (nd:(g.map (·.1)).Nodup):w9 n g where
 lo:=lo
 hi:=hi
 gU:=gU
 nd:=nd
 ok:=by
  rw[Tn lo hi];unfold wC;rw[jV];intro i hi;rw[jD] at hi;have V:g[i]? =some g[i]:=aR hi
  rw[Tm V];obtain⟨⟨I,H,h3⟩,h4⟩:=gU _ (List.getElem_mem hi)
  have hw:okW n g[i]=true:=by
   unfold okW;rw[bL h3,bL I,bL H]
   rcases h4 with h4|h4
   ·rw[bf (show ¬2<=(g[i]).1 by omega)];rfl
   ·rw[bf (show ¬(g[i]).1<26 by omega)];simp
  have ht:twice g i (g[i]).1=false:=by
   unfold twice;rw[List.any_eq_false];intro y hy h;obtain⟨j,hj⟩:=jJ hy;have hji:j<i:=by have:=(bZ.1 hj).1;simp at this;omega
   rw[List.getElem?_take_of_lt hji] at hj
   have e:(g.map (·.1))[j]? =(g.map (·.1))[i]? :=by
    rw[kY,kY,hj,V];have:=eq_of_beq h;simp[this]
   have:=(List.getElem?_inj (by simp;omega) nd).1 e;omega
  rw[hw,ht];rfl
def oV (B:List (List UInt8)) (g:G2):List (List UInt8):=kI B (jA g)
theorem qK (B:List (List UInt8)) (g:G2):(oV B g).length=B.length:=Az _ _
theorem ajR {g:G2} {x:Int×List UInt8} (h:x∈kF g) (hl:∀x∈g,x.2.length=128):3<=x.1/\x.1<3+g.length/\x.2.length=128:=by
 unfold kF at h;obtain⟨i,hi,rfl⟩:=rQ.1 h;rw[jD] at hi;refine⟨by dsimp only;omega,by dsimp only;omega,?_⟩;dsimp only;rw[kY,aR hi];exact hl _ (List.getElem_mem hi)
theorem Rc {B:List (List UInt8)} {g:G2} (hB:26<=B.length):(oV B g)[2]? =some (zeros 128):=by
 unfold oV jA fC;rw[show kF g++(2,hdr g)::(g++[(2,zeros 128)])=(kF g++(2,hdr g)::g)++[(2,zeros 128)] by simp,TF];show((kI B (kF g++(2,hdr g)::g)).set 2 (zeros 128))[2]? =_
 rw[List.getElem?_set_self (by rw[Az];omega)]
theorem ak9 (l:G2) {j:Nat} :∀ {B C:List (List UInt8)},B.length=C.length->B[j]? =C[j]? ->(kI B l)[j]? =(kI C l)[j]? :=by
 induction l with
 |nil=>intro B C _ h;exact h
 |cons x l ih=>
  intro B C hl h;show(kI (B.set _ _) l)[j]? =(kI (C.set _ _) l)[j]?
  refine ih (by rw[gV,gV,hl]) ?_;rw[yX,yX,hl,h]
theorem Re {B:List (List UInt8)} {g:G2} (hg:w9 B.length g) {j:Nat} (hj:j<2∨26<=j):(oV B g)[j]? =(kI B g)[j]? :=by
 have hlen:∀x∈g,x.2.length=128:=fun x V=>(hg.gU x V).1.2.2
 unfold oV jA fC;rw[show kF g++(2,hdr g)::(g++[(2,zeros 128)])=(kF g++[(2,hdr g)])++(g++[(2,zeros 128)]) by simp,TF,TF];show((kI (kI B (kF g++[(2,hdr g)])) g).set 2 (zeros 128))[j]? =_
 rw[List.getElem?_set_ne (by omega)];refine ak9 g (Az _ _) ?_;refine KD _ (fun x V=>?_) B
 rcases gy.1 V with V|V
 ·have:=ajR V hlen;have:=hg.hi;omega
 ·rw[eD.1 V];show(2:Int).toNat≠j;have:(2:Int).toNat=2:=rfl;omega
theorem ak8 (l:G2):∀ {B:List (List UInt8)},(l.map (·.1)).Nodup->(∀x∈l,0<=x.1)->∀ {j:Nat} {d:List UInt8},((j:Int),d)∈l->j<B.length->(kI B l)[j]? =some d:=by
 induction l with
 |nil=>intro B _ _ j d h;exact absurd h (nE)
 |cons x l ih=>
  intro B hn h0 j d hm hj;obtain⟨V,hn⟩:=List.nodup_cons.1 hn;show(kI (B.set x.1.toNat x.2) l)[j]? =some d
  rcases oK.1 hm with e|hm
  ·subst e
   rw[KD l (j:=j) (fun y hy e=>V (by
    have I:=h0 y (List.mem_cons_of_mem _ hy);have H:y.1=(j:Int):=by omega
    exact rQ.2 ⟨y,hy,H⟩)) _]
   show(B.set ((j:Int)).toNat d)[j]? =some d
   rw[fu,List.getElem?_set_self hj]
  ·exact ih hn (fun y hy=>h0 y (List.mem_cons_of_mem _ hy)) hm (by rw[gV];exact hj)
theorem EE {B:List (List UInt8)} {g:G2} (hg:w9 B.length g) {j:Nat} {d:List UInt8} (hm:((j:Int),d)∈g):(oV B g)[j]? =some d:=by
 obtain⟨⟨I,H,h3⟩,h4⟩:=hg.gU _ hm;dsimp only at I H h3 h4;rw[Re hg (by omega)];exact ak8 g hg.nd (fun x V=>(hg.gU x V).1.1) hm (by omega)
theorem CU {B:List (List UInt8)} {g:G2} (hg:w9 B.length g) {j:Nat} (hj:j<2∨26<=j) (h:∀x∈g,x.1.toNat≠j):(oV B g)[j]? =B[j]? :=by
 rw[Re hg hj];exact KD g h B
end Go.Proofs.YtjbiihbicknemaaGreat
