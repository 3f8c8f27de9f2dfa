/-
  Part of the proof of StoreWhole.
-/
import Derived.Test.YtjbiihbicknemaaGreatMOpn
set_option linter.unusedSimpArgs false
set_option linter.unusedVariables false
set_option maxRecDepth 20000
set_option maxHeartbeats 40000000
namespace Go.Proofs.YtjbiihbicknemaaGreat
open Go.RowKit Go.Sep
variable {W w:World} {L:List aA}
attribute [local irreducible] Oper.wp wpList Calls Code.wp Sep.dR
theorem Rz {U:Nat->Bool} {b p:Nat} :p∈bT U b↔p<b/\U p=false:=by simp[bT]
theorem Yo (U:Nat->Bool) (b:Nat) {p:Nat} (h:p∈bT U b):p<b:=(Rz.1 h).1
theorem Yp (U:Nat->Bool) (b:Nat):(bT U b).Nodup:=List.filter_sublist.nodup List.nodup_range
def mP (U:Nat->Bool) (l:List Nat):Nat->Bool:=l.foldl (fun U g=>upd U g false) U
def tq (U:Nat->Bool) (l:List Nat):Nat->Bool:=l.foldl (fun U g=>upd U g true) U
theorem ZW (l:List Nat):∀(U:Nat->Bool) (p:Nat),mP U l p=(U p&& !l.contains p):=by
 induction l with
 |nil=>intro U p;simp[mP]
 |cons g l ih=>
  intro U p;show mP (upd U g false) l p=_;rw[ih]
  by_cases h:p=g
  ·subst h;simp[upd]
  ·simp[upd,h]
theorem aas (l:List Nat):∀(U:Nat->Bool) (p:Nat),tq U l p=(U p || l.contains p):=by
 induction l with
 |nil=>intro U p;simp[tq]
 |cons g l ih=>
  intro U p;show tq (upd U g true) l p=_;rw[ih]
  by_cases h:p=g
  ·subst h;simp[upd]
  ·simp[upd,h]
theorem ZX {U:Nat->Bool} {l:List Nat} {i g:Nat} (h:l[i]? =some g):upd (mP U (l.take i)) g false=mP U (l.take (i+1)):=by
 rw[ik,h];simp[mP,List.foldl_append]
theorem aat {U:Nat->Bool} {l:List Nat} {i g:Nat} (h:l[i]? =some g):upd (tq U (l.take i)) g true=tq U (l.take (i+1)):=by
 rw[ik,h];simp[tq,List.foldl_append]
structure Ba (U:Nat->Bool) (b:Nat) (gone:List Nat):Prop where
 gU:∀g∈gone,74<=g/\g<b/\U g=true
 nd:gone.Nodup
theorem Ba.nil (U:Nat->Bool) (b:Nat):Ba U b []:=⟨fun g h=>absurd h (nE),List.nodup_nil⟩
theorem Ba.still {U:Nat->Bool} {b:Nat} {gone:List Nat} (h:Ba U b gone) {i g:Nat} (hg:gone[i]? =some g):mP U (gone.take i) g=true:=by
 rw[ZW,(h.gU g (bJ hg)).2.2]
 have:¬g∈gone.take i:=fun hm=>by
  obtain⟨j,hj⟩:=jJ hm;have hji:j<i:=by have:=(bZ.1 hj).1;simp at this;omega
  rw[List.getElem?_take_of_lt hji] at hj;have:=(List.getElem?_inj (by have:=(bZ.1 hj).1;omega) h.nd).1 (hj.trans hg.symm);omega
 simp[this]
def PlG (W:World) (L:List aA) (U:Nat->Bool) (gone taken:List Nat) (vt vm v36:Value) (wz:World):Prop:=
 ∃i:Nat,v36= .int .i64 (i:Int)/\i<=gone.length/\Sat W wz (IsMap vm (mP U (gone.take i))::Ir vt taken::L)
def PlT (W:World) (L:List aA) (U:Nat->Bool) (taken:List Nat) (vt vm v62:Value) (wz:World):Prop:=
 ∃i:Nat,v62= .int .i64 (i:Int)/\i<=taken.length/\Sat W wz (IsMap vm (tq U (taken.take i))::Ir vt taken::L)
def Mj (W:World) (L:List aA) (U:Nat->Bool) (taken:List Nat) (e:Ending) (w':World):Prop:=∃v v',e= .returned (.tuple #[v,v', .bool true])/\Sat W w' (Ir v taken::IsMap v' (tq U taken)::L)
def iV (n:Nat) (v:Value):Nat:=n-(intOf v).toNat
theorem fZ {n i:Nat} (h:i<n):iV n (.int .i64 ((i+1:Nat):Int))<iV n (.int .i64 (i:Int)):=by
 unfold iV;show n-(((i+1:Nat):Int)).toNat<n-((i:Int)).toNat;rw[fu,fu];omega
theorem aj3 {W:World} {L:List aA} {v:Value} {U:Nat->Bool} :∀w,Sat W w (IsMap v U::L)->Rd w v 128 1 (bv (cO U)):=fun w h=>qy aa w [] h
theorem abl (O:Sat W w L) (U:Nat->Bool) (p off c b n:Nat) (hb:b<=1024) (h0:0<b) (hn:n<=(bT U b).length) (hr:∀w L',Sat W w (L'++L)->Rd w (.slice (some ⟨p,off,none⟩) 128 c) 128 1 (bv (cO U)))
  (gone:List Nat) (ag:Option Addr) (cg:Nat) (hgr:∀w L',Sat W w (L'++L)->Rd w (.slice ag gone.length cg) gone.length 1 (iv gone)) (hg:Ba U b gone) (hgl:gone.length<=2000):
  Calls Tryz.prog 60 #[.slice (some ⟨p,off,none⟩) 128 c, .int .i64 (b:Int), .int .i64 (n:Int), .slice ag gone.length cg] w fun e w'=>Mj W L (mP U gone) ((bT U b).take n) e w':=by
 have HT:=Z (acI O U p off c b n hb h0 hn hr);have HR:=Z hr;have uO:=Z hgr;have HG:=Z hg;obtain⟨_,_,he,hc1,hc2,_,h5⟩:=hgr w [] O;obtain⟨rfl,rfl⟩:=gq he;have H5:=Z h5;have lT:=Z (show((bT U b).take n).length<=1024 by have:=JK U b;rw[jr];omega);have Jj:=Z (show ∀g∈(bT U b).take n,g<1024 from fun g hg=>by have:=Yo U b (List.mem_of_mem_take hg);omega);have HB:=Z (show(b:Int)<=1024 by omega);obtain⟨taken,ht⟩:=au ((bT U b).take n);rw[ht] at HT lT Jj ⊢;have gli:(gone.length:Int)<=9223372036854775807:=by omega
 clear ht hr hgr hg h5 hc1 hc2 hb h0 hn hgl;go_enter Tryz.func60,Tryz.ntmps60
 go_wp2_with (first
  |(go_at_call 66;refine HT.F.mono ?_;clear O;rintro e J ⟨vt,rfl,O⟩;obtain⟨at_,ct,rfl,_⟩:=O.mg aa)
  |(refine aU ?_;refine ap (O.kJ (E:=5) (sz:=1)) _ _ _ _ (by rfl) _ _ (by rfl) (by rfl) (bS (by rfl)) (by rfl) (by omega) (dO (by rfl)) aa (by exact .inl (HR.F _ [_] O)) (uk _) (by omega) (by omega) ?_;clear O;intro vm J O;rw[aD] at O))
 have hS2:=(show ∀w,Sat W w (Sl 5 1 vm (0+128) ([]++bv (cO U))::Ir (.slice at_ taken.length ct) taken::L)->Sat W w (IsMap vm (mP U (gone.take 0))::Ir (.slice at_ taken.length ct) taken::L) from fun w h=>by unfold IsMap;exact h) _ O;have H0:=Z hS2;have xw:=hS2;unfold IsMap at xw;obtain⟨yE,mo,mc,rfl,_⟩:=xw.kV (k:=0) rfl (by decide);clear O hS2 xw;go_loopw [36] (fun v36 wz=>PlG W L U gone taken (.slice at_ taken.length ct) (.slice (some ⟨yE,mo,none⟩) 128 mc) v36 wz) (fun v36 _=>iV gone.length v36)
 case atStart=>exact⟨0,rfl,eG _,H0.F⟩
 case round=>
  clear H0;obtain⟨i,rfl,hi,O⟩:=hrel
  by_cases hlt:i<gone.length
  ·have k1:(i:Int)< (gone.length:Int):=by omega
   have ay:=Z hlt;obtain⟨g,hg⟩:∃g,gone[i]? =some g:=⟨_,aR hlt⟩
   obtain⟨I,H,_⟩:=HG.F.gU g (bJ hg);have hb:=HB.F;have HU:=Z (Ps O (mP U (gone.take i)) yE mo mc g (by omega) aj3);rw[HG.F.still hg] at HU;have HS:=Z (Gp O g (by omega) false);rw[ZX hg] at HS;obtain⟨gb,go_,rfl,_⟩:=H5.F (by omega);have HX:=Z (qw hg);have iB:=Z (uO.F _ [_,_] O);have e1:decide ((g:Int)<74)=false:=bf (by omega);have e2:decide ((b:Int)<=(g:Int))=false:=bf (by omega);have e3:decide (b<=g)=false:=bf (by omega);have e4:decide (g<74)=false:=bf (by omega);clear hg I H hlt hi O hb
   go_wp2_with (first
    |(refine bN (fF iB.F _ _ (by rfl) _ (by rfl) (aI (by rfl)) i (by omega) HX.F (by have:=ay.F;omega)) ?_)
    |(go_at_call 100;refine HU.F.mono ?_;rintro e J ⟨rfl,rfl⟩)
    |(go_at_call 28;refine HS.F.mono ?_;rintro e J ⟨rfl,O⟩))
   exact⟨⟨i+1,by go_num,ay.F,O⟩,fZ ay.F⟩
  ·obtain rfl:i=gone.length:=by omega
   have k1:¬(gone.length:Int)< (gone.length:Int):=by omega
   rw[List.take_length] at O;have tli:(taken.length:Int)<=9223372036854775807:=by have:=lT.F;omega
   clear hlt hi;go_wp2;have H1:=Z ((show ∀w,Sat W w (IsMap (.slice (some ⟨yE,mo,none⟩) 128 mc) (mP U gone)::Ir (.slice at_ taken.length ct) taken::L)->Sat W w (IsMap (.slice (some ⟨yE,mo,none⟩) 128 mc) (tq (mP U gone) (taken.take 0))::Ir (.slice at_ taken.length ct) taken::L) from fun _ h=>h) _ O);obtain⟨_,_,he,_,_,_,h5⟩:=O.oG hz1;obtain⟨rfl,rfl⟩:=gq he;have H6:=Z h5;clear O h5;go_loopw [62] (fun v62 wz=>PlT W L (mP U gone) taken (.slice at_ taken.length ct) (.slice (some ⟨yE,mo,none⟩) 128 mc) v62 wz) (fun v62 _=>iV taken.length v62)
   case atStart=>exact⟨0,rfl,eG _,H1.F⟩
   case round=>
    clear H1;obtain⟨i,rfl,hi,O⟩:=hrel
    by_cases hlt:i<taken.length
    ·have k2:(i:Int)< (taken.length:Int):=by omega
     have ay:=Z hlt;obtain⟨g,hg⟩:∃g,taken[i]? =some g:=⟨_,aR hlt⟩
     have I:=Jj.F g (bJ hg);have HS:=Z (Gp O g (by omega) true);rw[aat hg] at HS;obtain⟨tb,Pm,rfl,_⟩:=H6.F (by omega);have HX:=Z (qw hg);have iB:=Z (O.oG hz1);clear hg I hlt hi O
     go_wp2_with (first
      |(refine bN (fF iB.F _ _ (by rfl) _ (by rfl) (aI (by rfl)) i (by omega) HX.F (by have:=ay.F;omega)) ?_)
      |(go_at_call 28;refine HS.F.mono ?_;rintro e J ⟨rfl,O⟩))
     exact⟨⟨i+1,by go_num,ay.F,O⟩,fZ ay.F⟩
    ·obtain rfl:i=taken.length:=by omega
     have k2:¬(taken.length:Int)< (taken.length:Int):=by omega
     rw[List.take_length] at O;clear hlt hi;go_wp2
     go_ret3
     exact⟨_,_,rfl,O.bW⟩
theorem akZ (O:Sat W w L) (U:Nat->Bool) (p off c b n:Nat) (hb:b<=1024) (h0:0<b) (hn:(bT U b).length<n) (hr:∀w L',Sat W w (L'++L)->Rd w (.slice (some ⟨p,off,none⟩) 128 c) 128 1 (bv (cO U))) (gv:Value):
  Calls Tryz.prog 60 #[.slice (some ⟨p,off,none⟩) 128 c, .int .i64 (b:Int), .int .i64 (n:Int),gv] w fun e w'=>e= .returned (.tuple #[.slice none 0 0, .slice none 0 0, .bool false])/\Sat W w' L:=by
 have HT:=Z (acM O U p off c b n hb h0 hn hr);clear hr hb h0 hn;go_enter Tryz.func60,Tryz.ntmps60
 go_wp2_with (go_at_call 66;refine HT.F.mono ?_;clear O;rintro e J ⟨rfl,O⟩)
 go_ret3
 exact⟨rfl,O⟩
def df (S:aK) (l:List bM):List bM:=S.recs++l
def jB (S:aK) (l:List bM):List bM:=(df S l).drop (S.recs.length-S.last)
def gG (S:aK) (l:List bM):Nat:=(l.length+S.last-1) / 15
def kX (S:aK) (l:List bM):List Nat:=(bT S.U S.sup.blocks.toNat).take (gG S l)
def eZ (S:aK) (l:List bM):List Nat:=S.sup.tail.toNat::kX S l
def iM (bs:List Nat) (i:Nat):Nat:=bs[i]?.getD 0
def wF (bs:List Nat) (rest:List bM) (j:Nat):G2:=(List.range j).map fun i=>(((iM bs i:Nat):Int),gL (chunk rest i) (jo bs i))
def nA (S:aK) (l:List bM) (shown:Bool):di:= {S.sup with records:=(((df S l).length:Nat):Int),shown:=if shown then(((df S l).length:Nat):Int) else S.sup.shown}
def gD (S:aK) (l:List bM) (shown:Bool):di:=if l=[] then nA S l shown else {nA S l shown with tail:=((iM (eZ S l) (gG S l):Nat):Int)}
def pq (S:aK) (l:List bM):G2:=if l=[] then [] else wF (eZ S l) (jB S l) (gG S l+1)
def mi (S:aK) (l:List bM):Nat->Bool:=tq S.U (kX S l)
def tL (S:aK) (l:List bM):G2:=pq S l++(if kX S l=[] then [] else [(1,cO (mi S l))])
def kM (S:aK) (l:List bM) (shown:Bool):G2:=tL S l++[(0,encS (gD S l shown))]
def zy (S:aK) (l:List bM):Nat:=if l=[] then S.last else(chunk (jB S l) (gG S l)).length
def aK.grown (S:aK) (l:List bM) (shown:Bool):aK:= {S with sup:=gD S l shown,U:=mi S l,recs:=df S l,last:=zy S l}
noncomputable def qN (S:aK) (l:List bM):Bool:= !(l.all mq) || (!decide ((Gr.new.jl (df S l)).2=(df S l).length) || decide (60<l.length))
noncomputable def jd (S:aK) (D:aG) (l:List bM) (shown:Bool):Int×aK×aG:=
 if qN S l=true then(1,S,D)
 else if(bT S.U S.sup.blocks.toNat).length<gG S l then(2,S,D)
 else if nA S l shown=S.sup then(0,S,D)
 else((jm D (kM S l shown)).1,(if(jm D (kM S l shown)).1=0 then S.grown l shown else S),(jm D (kM S l shown)).2)
theorem KC (bs:List Nat) (rest:List bM) (j:Nat):(wF bs rest j).length=j:=by simp[wF]
theorem akX (bs:List Nat) (rest:List bM) (j:Nat):wF bs rest (j+1)=wF bs rest j++[(((iM bs j:Nat):Int),gL (chunk rest j) (jo bs j))]:=by simp[wF,List.range_succ]
theorem abk {bs:List Nat} {rest:List bM} {j:Nat} {x:Int×List UInt8} (h:x∈wF bs rest j):∃i,i<j/\x=(((iM bs i:Nat):Int),gL (chunk rest i) (jo bs i)):=by
 unfold wF at h;obtain⟨i,hi,rfl⟩:=rQ.1 h;exact⟨i,jD.1 hi,rfl⟩
section
variable {B:List (List UInt8)} {S:aK} {gs:List Nat} {l:List bM}
theorem bA.bl (h:bA B S gs):S.sup.blocks.toNat=B.length:=by rw[h.blocks,fu]
theorem bA.BH (h:bA B S gs):∃m,gs.length=m+1/\gs[m]? =some S.sup.tail.toNat:=by
 have hp:0<gs.length:=List.length_pos_iff.2 h.ne;refine⟨gs.length-1,by omega,?_⟩;rw[h.tail,fu,List.getLast_eq_getElem];exact aR _
theorem bA.Dg (h:bA B S gs):S.last<=15:=by
 have:=h.last;have:=h.high;have:=List.length_pos_iff.2 h.ne;omega
def eO (S:aK) (gs:List Nat) (l:List bM):List Nat:=gs++kX S l
theorem bA.taken (h:bA B S gs) (hf:gG S l<=(bT S.U S.sup.blocks.toNat).length):(kX S l).length=gG S l:=by
 unfold kX;rw[jr];omega
theorem bA.acO (h:bA B S gs) {p:Nat} (hp:p∈kX S l):74<=p/\p<B.length/\p∉dE S.aB++gs:=by
 have I:=List.mem_of_mem_take hp;rw[h.bl] at I;obtain⟨H,h3⟩:=Rz.1 I;rw[h.u] at h3;unfold iW lJ at h3;simp at h3;refine⟨by omega,H,?_⟩;rw[gy];intro hm
 rcases hm with hm|hm
 ·exact h3.2.1 hm
 ·exact h3.2.2 hm
theorem bA.anM (h:bA B S gs):(kX S l).Nodup:=(List.take_sublist _ _).nodup (Yp _ _)
theorem bA.RN (h:bA B S gs) (hf:gG S l<=(bT S.U S.sup.blocks.toNat).length):(eO S gs l).length=gs.length+gG S l:=by
 unfold eO;rw[bP,h.taken hf]
theorem bA.Ew (h:bA B S gs) {m:Nat} (hm:gs.length=m+1) (i:Nat):(eO S gs l)[m+i]? =(eZ S l)[i]? :=by
 obtain⟨m',I,H⟩:=h.BH;obtain rfl:m'=m:=by omega
 unfold eO eZ
 cases i with
 |zero=>rw[xN (by omega),Nat.add_zero,H];rfl
 |succ i=>rw[rP (by omega),xO,show m'+(i+1)-gs.length=i by omega]
theorem bA.MI (h:bA B S gs) {m:Nat} (hm:gs.length=m+1) (i:Nat):jo (eO S gs l) (m+i)=jo (eZ S l) i:=by
 unfold jo;rw[show m+i+1=m+(i+1) by omega,h.Ew hm]
theorem ML (l:List bM) (m i:Nat):chunk (l.drop (15*m)) i=chunk l (m+i):=by
 unfold chunk;rw[List.drop_drop,show 15*m+15*i=15*(m+i) by omega]
theorem bA.rest (h:bA B S gs) {m:Nat} (hm:gs.length=m+1):jB S l=(df S l).drop (15*m):=by
 unfold jB;have:=h.last;have:=h.low;rw[show S.recs.length-S.last=15*m by rw[hm] at*;omega]
theorem bA.lens (h:bA B S gs) {m:Nat} (hm:gs.length=m+1):S.recs.length=15*m+S.last/\S.last<=15:=by
 have:=h.last;have:=h.low;have:=h.high;rw[hm] at*;omega
theorem Ab:(df S l).length=S.recs.length+l.length:=by unfold df;rw[bP]
theorem bA.af2 (h:bA B S gs) (hl:l.length<=60):(df S l).length<=15420:=by
 have:=h.Ai;have:=h.high;rw[Ab];omega
theorem acC (shown:Bool):(gD S l shown).blocks=S.sup.blocks:=by unfold gD;split<;>rfl
theorem acD (shown:Bool):(gD S l shown).head=S.sup.head:=by unfold gD;split<;>rfl
theorem acE (shown:Bool):(gD S l shown).records=(((df S l).length:Nat):Int):=by unfold gD;split<;>rfl
theorem NT (h:S.last<=15):gG S []=0:=by unfold gG;simp;omega
theorem bA.RX (h:bA B S gs) (hf:gG S l<=(bT S.U S.sup.blocks.toNat).length) (shown:Bool) {m:Nat} (hm:gs.length=m+1):∃t,(eO S gs l)[m+gG S l]? =some t/\(gD S l shown).tail=(t:Int):=by
 have hb:=h.Ew (l:=l) hm (gG S l);have hbl:gG S l< (eZ S l).length:=by unfold eZ;rw[fB,h.taken hf];omega
 rw[aR hbl] at hb;refine⟨_,hb,?_⟩;unfold gD
 split
 ·rename_i hl
  subst hl;have h0:=NT h.Dg;obtain⟨m',I,H⟩:=h.BH;have:0<=S.sup.tail:=by rw[h.tail];omega
  show S.sup.tail=_;simp only[h0];show S.sup.tail=((S.sup.tail.toNat:Nat):Int);omega
 ·show((iM (eZ S l) (gG S l):Nat):Int)=_;unfold iM;rw[aR hbl];rfl
theorem bA.EN (h:bA B S gs) {p:Nat} (hp:p∈eO S gs l):74<=p/\p<B.length:=by
 unfold eO at hp
 rcases gy.1 hp with hp|hp
 ·exact h.gU p (nD _ hp)
 ·have:=h.acO hp;exact⟨this.1,this.2.1⟩
theorem bA.RO (h:bA B S gs):(dE S.aB++eO S gs l).Nodup:=by
 unfold eO;rw[<-dX,lZ];refine⟨h.nd,h.anM,fun a ha b hb e=>?_⟩;subst e;exact(h.acO hb).2.2 ha
theorem bA.RV (h:bA B S gs) (hl:l.length<=60) (hf:gG S l<=(bT S.U S.sup.blocks.toNat).length) (shown:Bool):eQ (gD S l shown)=true:=by
 obtain⟨m,hm,_⟩:=h.BH;obtain⟨t,ht,ht2⟩:=h.RX hf shown hm;have htm:=h.EN (bJ ht);have hal:=h.af2 hl;have hs:=h.sup;have hrc:=h.recs;have hlen:S.recs.length<=(df S l).length:=by rw[Ab];omega
 have e1:=acC (S:=S) (l:=l) shown;have e2:=acD (S:=S) (l:=l) shown;have e3:=acE (S:=S) (l:=l) shown;have e4:(gD S l shown).next=S.sup.next:=by unfold gD;split<;>rfl
 have e5:(gD S l shown).cZ=S.sup.cZ:=by unfold gD;split<;>rfl
 have e6:(gD S l shown).shown=if shown then(((df S l).length:Nat):Int) else S.sup.shown:=by unfold gD;split<;>rfl
 have hb:=h.blocks;unfold eQ bI at hs ⊢;simp only[ed,decide_eq_true_eq] at hs ⊢;rw[e1,e2,e3,e4,e5,e6,ht2];obtain⟨⟨⟨⟨⟨⟨⟨a1,a2⟩,a3,a4⟩,a5,a6⟩,a7,a8⟩,a9⟩,Wp,xc⟩,a12,QV⟩:=hs;refine⟨⟨⟨⟨⟨⟨⟨a1,a2⟩,a3,a4⟩,by omega,by omega⟩,?_⟩,by omega⟩,Wp,xc⟩,a12,QV⟩
 cases shown
 ·simp;omega
 ·simp
theorem bA.RL (h:bA B S gs) (hl:l.length<=60) (hf:gG S l<=(bT S.U S.sup.blocks.toNat).length) (shown:Bool):w9 B.length (kM S l shown):=by
 obtain⟨m,hm,hmt⟩:=h.BH;have hll:=h.Dg;have hm5:gG S l<=4:=by unfold gG;omega
 have hn1:=h.n1
 have GZ:∀i,i<gG S l+1->74<=iM (eZ S l) i/\iM (eZ S l) i<B.length:=fun i hi=>by
  have hb:=h.Ew (l:=l) hm i;have hbl:i< (eZ S l).length:=by unfold eZ;rw[fB,h.taken hf];omega
  rw[aR hbl] at hb;have:=h.EN (bJ hb);unfold iM;rw[aR hbl];exact this
 have hinj:∀i j,i<gG S l+1->j<gG S l+1->iM (eZ S l) i=iM (eZ S l) j->i=j:=fun i j hi hj e=>by
  have hb:=h.Ew (l:=l) hm i;have hb2:=h.Ew (l:=l) hm j;have hbl:i< (eZ S l).length:=by unfold eZ;rw[fB,h.taken hf];omega
  have Nn:j< (eZ S l).length:=by unfold eZ;rw[fB,h.taken hf];omega
  unfold iM at e;rw[aR hbl] at hb e;rw[aR Nn] at hb2 e;have e2:(eZ S l)[i]=(eZ S l)[j]:=e;have:=(List.getElem?_inj (by rw[h.RN hf];omega) (lZ.1 h.RO).2.1).1 (hb.trans ((congrArg some e2).trans hb2.symm));omega
 have hw0:∀x∈pq S l,∃i,i<gG S l+1/\x=(((iM (eZ S l) i:Nat):Int),gL (chunk (jB S l) i) (jo (eZ S l) i)):=fun x V=>by
  unfold pq at V
  split at V
  ·exact absurd V nE
  ·exact abk V
 have hl0:(pq S l).length<=gG S l+1:=by
  unfold pq
  split
  ·simp
  ·rw[KC];exact aZ _
 have hl1:(tL S l).length<=gG S l+2:=by
  unfold tL;rw[bP]
  split<;>simp<;>omega
 refine Tp ?_ ?_ ?_ ?_
 ·unfold kM;rw[bP];simp
 ·unfold kM;rw[bP,dC];omega
 ·intro x V;unfold kM tL at V
  rcases gy.1 V with V|V
  ·rcases gy.1 V with V|V
   ·obtain⟨i,hi,rfl⟩:=hw0 x V;have:=GZ i hi;refine⟨⟨by dsimp only;omega,by dsimp only;omega,?_⟩, .inr (by dsimp only;omega)⟩;dsimp only;exact vT _ (by rw[um];omega)
   ·split at V
    ·exact absurd V nE
    ·rw[eD.1 V];exact⟨⟨(show(0:Int)<=1 by decide),(show(1:Int)<_ by omega),uC _⟩, .inl (show(1:Int)<2 by decide)⟩
  ·rw[eD.1 V];exact⟨⟨Int.le_refl _,(show(0:Int)<_ by omega),oD _⟩, .inl (show(0:Int)<2 by decide)⟩
 ·unfold kM tL;rw[lC,lC,lZ,lZ];refine⟨⟨?_,?_,?_⟩,by simp,?_⟩
  ·unfold pq
   split
   ·simp
   ·unfold wF;rw[List.map_map];rw[List.nodup_iff_pairwise_ne,List.pairwise_map];refine List.Pairwise.imp_of_mem ?_ (List.nodup_iff_pairwise_ne.1 List.nodup_range);intro a b ha hb hab e;dsimp only[Function.comp] at e;exact hab (hinj a b (jD.1 ha) (jD.1 hb) (by omega))
  ·split<;>simp
  ·intro a ha b hb e;subst e;obtain⟨x,V,rfl⟩:=rQ.1 ha;obtain⟨i,hi,rfl⟩:=hw0 x V;have:=GZ i hi
   split at hb
   ·exact absurd hb nE
   ·rw[List.map_singleton,eD] at hb;dsimp only at hb;omega
  ·intro a ha b hb e;subst e;rw[List.map_singleton,eD] at hb;dsimp only at hb
   rcases gy.1 ha with ha|ha
   ·obtain⟨x,V,rfl⟩:=rQ.1 ha;obtain⟨i,hi,rfl⟩:=hw0 x V;have:=GZ i hi;dsimp only at hb;omega
   ·split at ha
    ·exact absurd ha nE
    ·rw[List.map_singleton,eD] at ha;dsimp only at ha;omega
end
section
variable {B:List (List UInt8)} {S:aK} {gs:List Nat} {l:List bM}
theorem RS (h:qN S l=false):l.all mq=true/\(Gr.new.jl (df S l)).2=(df S l).length/\l.length<=60:=by
 unfold qN at h;simp only[Bool.or_eq_false_iff,Bool.not_eq_false',decide_eq_true_eq,decide_eq_false_iff_not] at h;exact⟨h.1,h.2.1,by have:=h.2.2;omega⟩
theorem anJ (h:S.last<=15):kX S []=[]:=by unfold kX;rw[NT h,List.take_zero]
theorem NS {shown:Bool} {x:Int×List UInt8} (h:x∈kM S l shown):(l≠[]/\∃i,i<gG S l+1/\x=(((iM (eZ S l) i:Nat):Int),gL (chunk (jB S l) i) (jo (eZ S l) i)))∨(kX S l≠[]/\x=(1,cO (mi S l)))∨x=(0,encS (gD S l shown)):=by
 unfold kM tL pq at h
 rcases gy.1 h with h|h
 ·rcases gy.1 h with h|h
  ·split at h
   ·exact absurd h nE
   ·rename_i hl
    exact .inl ⟨hl,abk h⟩
  ·split at h
   ·exact absurd h nE
   ·rename_i ht
    exact .inr (.inl ⟨ht,eD.1 h⟩)
 ·exact .inr (.inr (eD.1 h))
theorem agF {a b:List bM} {i:Nat} (h:15*(i+1)<=a.length):chunk (a++b) i=chunk a i:=by
 unfold chunk;rw[List.drop_append_of_le_length (by omega),List.take_append_of_le_length (by rw[yY];omega)]
theorem bA.bin (h:bA B S gs) (hf:gG S l<=(bT S.U S.sup.blocks.toNat).length) {m:Nat} (hm:gs.length=m+1) {i:Nat} (hi:i<gG S l+1):(eO S gs l)[m+i]? =some (iM (eZ S l) i):=by
 have hbl:i< (eZ S l).length:=by unfold eZ;rw[fB,h.taken hf];omega
 rw[h.Ew hm,aR hbl];unfold iM;rw[aR hbl];rfl
theorem bA.grow (h:bA B S gs) (hb:qN S l=false) (hf:gG S l<=(bT S.U S.sup.blocks.toNat).length) (shown:Bool):bA (oV B (kM S l shown)) (S.grown l shown) (eO S gs l):=by
 obtain⟨hr,hg,hl⟩:=RS hb;obtain⟨m,hm,hmt⟩:=h.BH;obtain⟨hlen,Hl⟩:=h.lens hm;have hgr:=h.RL hl hf shown;have hn1:=h.n1;have hgl:=h.RN hf;have htl:=h.taken hf;have zt:gG S l=(l.length+S.last-1) / 15:=rfl;have hal:=Ab (S:=S) (l:=l);have hnd:=(lZ.1 (h.RO (l:=l))).2.1
 have hlow:∀x∈kM S l shown,x.1=0∨x.1=1∨ ∃i,i<gG S l+1/\x.1=((iM (eZ S l) i:Nat):Int)/\74<=iM (eZ S l) i:=fun x V=>by
  rcases NS V with⟨_,i,hi,rfl⟩|⟨_,rfl⟩|rfl
  ·exact .inr (.inr ⟨i,hi,rfl,(h.EN (bJ (h.bin hf hm hi))).1⟩)
  ·exact .inr (.inl rfl)
  ·exact .inl rfl
 have hb2:(oV B (kM S l shown))[2]? =some (zeros 128):=Rc (by omega)
 exact
  {n1:=by rw[qK];exact h.n1
   n2:=by rw[qK];exact h.n2
   x:=h.x
   sup:=h.RV hl hf shown
   blocks:=by rw[qK];exact(acC shown).trans h.blocks
   ne:=by unfold eO;simp[h.ne]
   head:=by
    show(gD S l shown).head=_;rw[acD,h.head];unfold eO;rw[List.head_append_of_ne_nil h.ne]
   tail:=by
    obtain⟨t,I,H⟩:=h.RX hf shown hm;show(gD S l shown).tail=_;rw[H,List.getLast_eq_getElem];have h3:m+gG S l< (eO S gs l).length:=by omega
    rw[aR h3] at I;rw[<-ig I];congr 2;omega
   recs:=acE shown
   low:=by show 15*((eO S gs l).length-1)<=(df S l).length;omega
   high:=by show(df S l).length<=15*(eO S gs l).length;omega
   last:=by
    show zy S l=(df S l).length-15*((eO S gs l).length-1);unfold zy
    split
    ·rename_i hl0
     subst hl0;have:=NT Hl;simp at hal;omega
    ·rw[h.rest hm,ML,um];omega
   zK:=by
    show(df S l).all mq=true;unfold df;rw[List.all_append,h.zK,hr];rfl
   gr:=hg
   gU:=fun p hp=>by
    rw[qK]
    rcases gy.1 hp with hp|hp
    ·exact h.gU p (nC _ hp)
    ·exact h.EN hp
   nd:=h.RO
   u:=by
    show mi S l=_;funext p;unfold mi;rw[aas,h.u,qK];show _=iW B.length (dE S.aB++eO S gs l) p;unfold iW eO;rw[<-dX];rw[Bool.or_assoc];congr 1
    cases I:((dE S.aB++gs)++kX S l).contains p
    ·rw[List.contains_eq_mem,decide_eq_false_iff_not] at I;rw[Bool.or_eq_false_iff,List.contains_eq_mem,List.contains_eq_mem,decide_eq_false_iff_not,decide_eq_false_iff_not];exact⟨fun V=>I (nC _ V),fun V=>I (nD _ V)⟩
    ·rw[List.contains_eq_mem,decide_eq_true_eq] at I;rw[Bool.or_eq_true,List.contains_eq_mem,List.contains_eq_mem,decide_eq_true_eq,decide_eq_true_eq];exact gy.1 I
   b0:=EE hgr (j:=0) (by unfold kM;exact nD _ (eD.2 rfl))
   b1:=by
    show _=some (cO (mi S l))
    by_cases ht:kX S l=[]
    ·rw[CU hgr (by omega) (fun x V=>by
      rcases NS V with⟨_,i,hi,rfl⟩|⟨H,_⟩|rfl
      ·have:=(h.EN (bJ (h.bin hf hm hi))).1;dsimp only;omega
      ·exact absurd ht H
      ·exact(by decide:(0:Int).toNat≠1))]
     rw[h.b1];unfold mi;rw[ht];rfl
    ·exact EE hgr (j:=1) (by unfold kM tL;rw[if_neg ht];exact nC _ (nD _ (eD.2 rfl)))
   b2:=hb2
   bi:=fun i x V=>by
    have apM:i<48:=by have:=(bZ.1 V).1;have hx2:=h.x.len;show i<48;rw[<-hx2];exact this
    rw[CU hgr (by omega) (fun y hy=>by
     rcases hlow y hy with I|I|⟨j,_,I,H⟩<;>rw[I]
     ·show(0:Int).toNat≠_;have:(0:Int).toNat=0:=rfl;omega
     ·have:(1:Int).toNat=1:=rfl;omega
     ·omega)]
    exact h.bi i x V
   bg:=fun i g hg'=>by
    show _=some (gL (chunk (df S l) i) (jo (eO S gs l) i));have hgm:=h.EN (bJ hg');have hil:=(bZ.1 hg').1
    by_cases hl0:l=[]
    ·subst hl0;have ht:=anJ Hl;have e1:eO S gs []=gs:=by unfold eO;rw[ht,kv]
     have e2:df S []=S.recs:=kv _;rw[e1] at hg' ⊢;rw[e2]
     rw[CU hgr (by omega) (fun y hy=>by
      rcases NS hy with⟨I,_⟩|⟨I,_⟩|rfl
      ·exact absurd rfl I
      ·exact absurd ht I
      ·show(0:Int).toNat≠_;have:(0:Int).toNat=0:=rfl
       omega)]
     exact h.bg i g hg'
    ·by_cases him:i<m
     ·have hgi:gs[i]? =some g:=by
       unfold eO at hg';rw[xN (by omega)] at hg';exact hg'
      rw[CU hgr (by omega) (fun y hy=>by
       rcases NS hy with⟨_,j,hj,rfl⟩|⟨_,rfl⟩|rfl
       ·dsimp only;rw[fu];intro e;have I:=h.bin hf hm hj;rw[e] at I;have:=(List.getElem?_inj hil hnd).1 (hg'.trans I.symm);omega
       ·have:(1:Int).toNat=1:=rfl;dsimp only;omega
       ·show(0:Int).toNat≠_;have:(0:Int).toNat=0:=rfl
        omega)]
      rw[h.bg i g hgi];unfold df;rw[agF (by omega)];congr 2;unfold jo eO;rw[xN (by omega)]
     ·obtain⟨j,rfl⟩:∃j,i=m+j:=⟨i-m,by omega⟩;have hj:j<gG S l+1:=by omega
      have I:=h.bin hf hm hj;have hgj:g=iM (eZ S l) j:=ig (hg'.symm.trans I)
      have hmem:((g:Int),gL (chunk (jB S l) j) (jo (eZ S l) j))∈kM S l shown:=by
       unfold kM tL pq;rw[if_neg hl0,hgj];exact nC _ (nC _ (rQ.2 ⟨j,jD.2 hj,rfl⟩))
      rw[EE hgr hmem,h.rest hm,ML,h.MI hm]}
theorem amh (h:bA B S gs):(jB S l).length=S.last+l.length:=by
 obtain⟨m,hm,_⟩:=h.BH;have:=h.lens hm;rw[h.rest hm,yY,Ab];omega
theorem bA.YP (h:bA B S gs) (hb:qN S l=false) (hf:gG S l<=(bT S.U S.sup.blocks.toNat).length) {i:Nat} (hi:i<gG S l+1):Proofs.YtjbiihbicknemaaGreat.jM (chunk (jB S l) i) (Proofs.YtjbiihbicknemaaGreat.jo (eZ S l) i)=true:=by
 obtain⟨hr,_,_⟩:=RS hb;obtain⟨m,hm,_⟩:=h.BH
 have I:(chunk (jB S l) i).all mq=true:=by
  rw[jV];intro x V;have H:=List.mem_of_mem_drop (List.mem_of_mem_drop (List.mem_of_mem_take V));unfold df at H
  rcases gy.1 H with H|H
  ·exact jV.1 h.zK x H
  ·exact jV.1 hr x H
 have H:tu (Proofs.YtjbiihbicknemaaGreat.jo (eZ S l) i)=true:=by
  rw[<-h.MI hm];unfold Proofs.YtjbiihbicknemaaGreat.jo
  cases hg:(eO S gs l)[m+i+1]? with
  |none=>rfl
  |some g=>
   have:=h.EN (bJ hg);have:=h.n2;unfold tu bI;simp;omega
 unfold Proofs.YtjbiihbicknemaaGreat.jM;rw[I,H,bL (by rw[um];omega)];rfl
end
structure Grown (B:List (List UInt8)) (S:aK) (gs:List Nat) (l:List bM) (shown:Bool) (B':List (List UInt8)) (S':aK) (gs':List Nat):Prop where
 ok:bA B' S' gs'
 len:B'.length=B.length
 recs:S'.recs=S.recs++l
 aB:S'.aB=S.aB
 Ai:gs'.length=gs.length+gG S l
 shown:S'.sup.shown=if shown then(((S.recs++l).length:Nat):Int) else S.sup.shown
 next:S'.sup.next=S.sup.next
 cZ:S'.sup.cZ=S.sup.cZ
 blocks:S'.sup.blocks=S.sup.blocks
 keep:∀p∈dE S.aB,B'[p]? =B[p]?
def ap9 (n j:Nat):List bM:=(List.range j).map fun i:Nat=>⟨1,2,1+(n:Int)+(i:Int)⟩
end Go.Proofs.YtjbiihbicknemaaGreat
