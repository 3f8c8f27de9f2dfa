/-
  Part of the proof of StoreWhole.
-/
import Derived.Test.YtjbiihbicknemaaGreatMGra
set_option linter.unusedSimpArgs false
set_option linter.unusedVariables false
set_option maxRecDepth 20000
set_option maxHeartbeats 40000000
namespace Go.Proofs.YtjbiihbicknemaaGreat
open Go.RowKit Go.Sep
variable {W w:World} {L:List aA}
open Go.Sep
def Ia (k o:Int):Bool:=decide (1<=k)&&decide (k<=5)&&decide (1<=o)&&decide (o<=16777215)
theorem Dm {k o:Int} (h:k<1∨5<k∨o<1∨16777215<o):Ia k o=false:=by
 unfold Ia
 cases I:decide (1<=k)<;>cases H:decide (k<=5)<;>cases h3:decide (1<=o)<;>cases h4:decide (o<=16777215)<;>try rfl
 simp only[decide_eq_true_eq] at I H h3 h4;omega
theorem aaD {k o:Int} (I:1<=k) (H:k<=5) (h3:1<=o) (h4:o<=16777215):Ia k o=true:=by
 unfold Ia;rw[bL I,bL H,bL h3,bL h4];rfl
def Gr.count (G:Gr) (k o:Int):Nat:=(G.N.filter (Gr.same k o)).length
def Gr.xD (G:Gr) (k o:Int):dZ:=⟨k,o,G.count k o+1,0,0,false⟩
def Gr.plus (G:Gr) (k o:Int):Gr:=⟨G.N++[G.xD k o],G.E⟩
def Gr.si (G:Gr) (k o:Int):Bool:=Ia k o&&decide (G.N.length<4096)
def Gr.pF (G:Gr) (k o:Int):Gr:=if G.si k o then G.plus k o else G
def Gr.ui (G:Gr) (k o:Int):Int:=if G.si k o then(G.N.length:Int) else 0
def Gr.ry (G:Gr) (k o:Int):Int:=if Ia k o then(if G.N.length<4096 then 0 else 5) else 1
theorem SK {k o:Int} :∀ {l:List dZ} {j i:Nat},Gr.lastOf k o l j=some i->∃n x,i=j+n/\l[n]? =some x/\Gr.same k o x=true/\(l.drop (n+1)).filter (Gr.same k o)=[]
 |[],_,_,h=>by cases h
 |x::l,j,i,h=>by
  unfold Gr.lastOf at h
  cases H:Gr.lastOf k o l (j+1) with
  |some m=>
   rw[H] at h;obtain rfl:m=i:=by simpa using h
   obtain⟨n,y,h3,h4,h5,h6⟩:=SK H;exact⟨n+1,y,by omega,h4,h5,h6⟩
  |none=>
   rw[H] at h
   cases h3:Gr.same k o x with
   |false=>simp[h3] at h
   |true=>
    simp only[h3,if_true,Option.some.injEq] at h;refine⟨0,x,by omega,rfl,h3,?_⟩;exact SI H
where
 SI {k o:Int} :∀ {l:List dZ} {j:Nat},Gr.lastOf k o l j=none->l.filter (Gr.same k o)=[]
 |[],_,_=>rfl
 |x::l,j,h=>by
  unfold Gr.lastOf at h
  cases H:Gr.lastOf k o l (j+1) with
  |some m=>rw[H] at h;cases h
  |none=>
   rw[H] at h
   cases h3:Gr.same k o x with
   |true=>simp[h3] at h
   |false=>rw[List.filter_cons_of_neg (by simp[h3])];exact SI H
theorem Gr.ajy {G:Gr} {k o:Int} (h:G.latest k o=none):G.count k o=0:=by
 unfold Gr.count;rw[SK.SI h];rfl
theorem Gr.ajz {G:Gr} (hG:G.Ok) {k o:Int} {i:Nat} (h:G.latest k o=some i):∃x,G.N[i]? =some x/\x.zN=G.count k o/\i<G.N.length:=by
 obtain⟨n,x,I,H,h3,h4⟩:=SK h;rw[Nat.zero_add] at I;subst I;refine⟨x,H,?_,(bZ.1 H).1⟩;rw[hG.DL i x H];have hs:x.kind=k/\x.obj=o:=by simpa [Gr.same] using h3
 rw[hs.1,hs.2];unfold Gr.count
 conv=>rhs;rw[<-rR (i+1) G.N,List.filter_append,h4,kv]
theorem Gr.count_le (G:Gr) (k o:Int):G.count k o<=G.N.length:=List.length_filter_le _ _
theorem ZR (k o:Int) (y:dZ):∀(l:List dZ) (j:Nat),Gr.lastOf k o (l++[y]) j=if Gr.same k o y then some (j+l.length) else Gr.lastOf k o l j
 |[],j=>by simp[Gr.lastOf]
 |x::l,j=>by
  rw[dB];unfold Gr.lastOf;rw[ZR k o y l (j+1)]
  cases Gr.same k o y with
  |true=>simp;omega
  |false=>rfl
theorem Gr.ak1 (G:Gr) (k o:Int):(G.plus k o).nO=fun q=>if q=(k,o) then some (G.N.length+1) else G.nO q:=by
 funext q;obtain⟨a,b⟩:=q;unfold Gr.nO Gr.latest Gr.plus;rw[ZR];have e:Gr.same a b (G.xD k o)=decide (k=a/\o=b):=by rw[Bool.decide_and];rfl
 rw[e];simp only[Nat.zero_add,Prod.mk.injEq]
 by_cases h:k=a/\o=b
 ·rw[if_pos (by simpa using h),if_pos ⟨h.1.symm,h.2.symm⟩];rfl
 ·rw[if_neg (by simpa using h),if_neg (fun H=>h ⟨H.1.symm,H.2.symm⟩)]
theorem Gr.ak3 {G:Gr} (hG:G.Ok) (k o:Int):(G.plus k o).ku=G.ku++[[]]:=by
 have e:∀n,(G.plus k o).ups n=G.ups n:=fun n=>by
  have hl:(n,G.N.length)∉G.E:=fun h=>by have:=(hG.low _ h).2;simp at this
  show(List.range (G.N++[G.xD k o]).length).filter (fun j=>decide ((n,j)∈G.E))=(List.range G.N.length).filter fun j=>decide ((n,j)∈G.E)
  rw[bP,dC,List.range_succ,List.filter_append,List.filter_cons_of_neg (by simpa using hl),List.filter_nil,kv]
 unfold Gr.ku;rw[show(G.plus k o).ups=G.ups from funext e];rw[show(G.plus k o).N.length=G.N.length+1 by simp[Gr.plus],List.range_succ,lC];congr 1;simp only[jN,List.map_nil,Gr.ups];congr 1;apply List.filter_eq_nil_iff.2;intro m _ h;have:=(hG.low _ (of_decide_eq_true h)).1;simp at this
theorem Gr.ak0 {G:Gr} (hG:G.Ok) (k o:Int):(G.plus k o).kE=G.kE++[[]]:=by
 have e:∀n,(G.plus k o).oz n=G.oz n:=fun n=>by
  have hl:(G.N.length,n)∉G.E:=fun h=>by have:=(hG.low _ h).1;simp at this
  show(List.range (G.N++[G.xD k o]).length).filter (fun j=>decide ((j,n)∈G.E))=(List.range G.N.length).filter fun j=>decide ((j,n)∈G.E)
  rw[bP,dC,List.range_succ,List.filter_append,List.filter_cons_of_neg (by simpa using hl),List.filter_nil,kv]
 unfold Gr.kE;rw[show(G.plus k o).oz=G.oz from funext e];rw[show(G.plus k o).N.length=G.N.length+1 by simp[Gr.plus],List.range_succ,lC];congr 1;simp only[jN,List.map_nil,Gr.oz];congr 1;apply List.filter_eq_nil_iff.2;intro m _ h;have:=(hG.low _ (of_decide_eq_true h)).2;simp at this
theorem Gr.ak2 {G:Gr} (hG:G.Ok) {k o:Int} (h:G.N.length<4096):(G.plus k o).Ok where
 len:=by simp[Gr.plus];omega
 low:=fun e he=>by have:=hG.low e he;simp[Gr.plus];omega
 BB:=hG.BB
 one:=hG.one
 marks:=fun x V=>by
  simp only[Gr.plus,gy,eD] at V
  rcases V with V|rfl
  ·exact hG.marks x V
  ·exact⟨show 0<256 by decide,show 0<256 by decide⟩
 DL:=fun i x V=>by
  simp only[Gr.plus] at V ⊢
  rcases Nat.lt_trichotomy i G.N.length with hi|hi|hi
  ·rw[xN hi] at V;rw[List.take_append_of_le_length (by omega)];exact hG.DL i x V
  ·subst hi;rw[rP (aZ _),Nat.sub_self] at V;obtain rfl:G.xD k o=x:=by simpa using V
   rw[dF (by simp),List.filter_append];simp[Gr.xD,Gr.same,Gr.count]
  ·rw[qE (by simp;omega)] at V;cases V
theorem Gr.afX {G:Gr} (hG:G.Ok) (k o:Int):(G.pF k o).Ok:=by
 unfold Gr.pF
 split
 ·rename_i h
  simp only[Gr.si,ed,decide_eq_true_eq] at h;exact ak2 hG h.2
 ·exact hG
theorem Gr.Ib:Gr.new.Ok where
 len:=by simp[Gr.new]
 low:=by simp[Gr.new]
 BB:=by simp[Gr.new]
 one:=by simp[Gr.new]
 marks:=by simp[Gr.new]
 DL:=by simp[Gr.new]
theorem Gr.UI {G:Gr} (hG:G.Ok) {N:List dZ} (hN:N.map (fun x=>(x.kind,x.obj))=G.N.map (fun x=>(x.kind,x.obj))) (hv:N.map dZ.zN=G.N.map dZ.zN) (hm:∀x∈N,x.mark<256/\x.clear<256):(G.rJ N).Ok where
 len:=by have:=congrArg List.length hN;simp at this;simp only[Gr.rJ];rw[this];exact hG.len
 low:=by have:=congrArg List.length hN;simp at this;simp only[Gr.rJ];rw[this];exact hG.low
 BB:=hG.BB
 one:=hG.one
 marks:=hm
 DL:=fun i x V=>by
  simp only[Gr.rJ] at V ⊢;have I:(N.map (fun x=>(x.kind,x.obj)))[i]? =some (x.kind,x.obj):=by simp[V]
  have H:(N.map dZ.zN)[i]? =some x.zN:=by simp[V]
  rw[hN] at I;rw[hv] at H;simp only[kY,Option.map_eq_some_iff] at I H;obtain⟨y,hy,hy2⟩:=I;obtain⟨y',hy',hy3⟩:=H;rw[hy] at hy';cases hy';simp only[Prod.mk.injEq] at hy2;have:=hG.DL i y hy;rw[hy3,hy2.1,hy2.2] at this;rw[this]
  have hf:∀l:List dZ,(l.filter (Gr.same x.kind x.obj)).length=((l.map (fun x=>(x.kind,x.obj))).filter (fun p=>decide (p.1=x.kind)&&decide (p.2=x.obj))).length:=fun l=>by
   rw[List.filter_map,qa];rfl
  rw[hf,hf,List.map_take,List.map_take,hN]
theorem aaZ {a t:Nat} (ha:a<256) (ht:t<8):a |||2 ^ t<256:=by
 have H:2 ^ t<2 ^ 8:=Nat.pow_lt_pow_right (by decide) ht;exact Nat.or_lt_two_pow (n:=8) ha H
theorem aah {N:List dZ} {i:Nat} {x y:dZ} (V:N[i]? =some x) (hk:y.zN=x.zN):(N.set i y).map dZ.zN=N.map dZ.zN:=by
 apply List.ext_getElem?;intro j;simp only[kY,yX]
 by_cases h:i=j
 ·subst h;have:=(bZ.1 V).1;rw[if_pos rfl,if_pos this,V];simp[hk]
 ·simp[h]
theorem ME {G:Gr} {n s:Int} (h:sU G n s=true):G.is n=true/\s.toNat<8:=by
 simp only[sU,ed,decide_eq_true_eq] at h;exact⟨h.1.1,by omega⟩
theorem Gr.aj4 {G:Gr} (hG:G.Ok) (n s:Int):(G.uD n s).Ok:=by
 unfold Gr.uD
 split
 ·rename_i h
  obtain⟨I,H⟩:=ME h;obtain⟨k,rfl,hk⟩:=Gr.xB I;have V:=aR hk;rw[Gr.Ie V,fu];refine UI hG (NM V rfl rfl) (aah V rfl) fun y hy=>?_
  rcases List.mem_or_eq_of_mem_set hy with hy|rfl
  ·exact hG.marks y hy
  ·have:=hG.marks _ (bJ V);exact⟨aaZ this.1 H,this.2⟩
 ·exact hG
theorem Gr.agG {G:Gr} (hG:G.Ok) (n s:Int):(G.uo n s).Ok:=by
 unfold Gr.uo
 split
 ·rename_i h
  obtain⟨I,H⟩:=ME h;obtain⟨k,rfl,hk⟩:=Gr.xB I;have V:=aR hk;rw[Gr.Ie V,fu];refine UI hG (NM V rfl rfl) (aah V rfl) fun y hy=>?_
  rcases List.mem_or_eq_of_mem_set hy with hy|rfl
  ·exact hG.marks y hy
  ·have:=hG.marks _ (bJ V);exact⟨this.1,aaZ this.2 H⟩
 ·exact hG
theorem Gr.ajV {G:Gr} (hG:G.Ok) (a b:Int):(G.sF a b).Ok:=by
 unfold Gr.sF
 split
 ·refine UI hG (aa1 _ _ _) ?_ fun y hy=>?_
  ·apply List.ext_getElem?;intro i;rw[kY,Dv,kY]
   cases G.N[i]? with
   |none=>rfl
   |some y=>simp only[Option.map_some];split<;>rfl
  ·obtain⟨i,hi⟩:=List.mem_iff_getElem?.1 hy;rw[Dv] at hi;obtain⟨x,V,rfl⟩:=Option.map_eq_some_iff.1 hi;have:=hG.marks x (bJ V)
   split<;>exact this
 ·exact hG
attribute [local irreducible] Oper.wp wpList Calls Code.wp Sep.dR Sep.fJ
attribute [local irreducible] dQ
theorem dQ.plus {p:Nat} {G:Gr} (hG:G.Ok) {k o:Int} {vn vu vd:Value} {gJ iE:List Value} {me ml:Nat} (hu:gJ.length=G.ku.length) (hd:iE.length=G.kE.length)
  (h:Sat W w (Cs p 202 [vn,vu,vd, .map (some me), .map (some ml)]::Tb 214 6 nv vn (G.N++[G.xD k o])::Tb 88 1 eF vu (gJ++[.slice none 0 0])::St (List.zipWith iU gJ G.ku)::
   Tb 88 1 eF vd (iE++[.slice none 0 0])::St (List.zipWith iU iE G.kE)::Mp ek bw me G.pI::Mp ek nw ml (fun q=>if q=(k,o) then some (G.N.length+1) else G.nO q)::L)):Sat W w (dQ p (G.plus k o)::L):=by
 refine dQ.mk (vn:=vn) (vu:=vu) (vd:=vd) (me:=me) (ml:=ml) ?_;rw[Gr.ak3 hG,Gr.ak0 hG,Gr.ak1];rw[II 88 0,II 88 0] at h;have H:=ZI (h.re [3,2]);have h3:=Sat.AO (H.re [0,1]);rw[<-adv iU hu] at h3;have h4:=ZI (h3.re [5,4]);have h5:=Sat.AO (h4.re [0,1]);rw[<-adv iU hd] at h5;have h6:=Sat.KS (by simp[hd]) (h5.re [1,0]);have h7:=Sat.KS (by simp[hu]) (h6.re [2,1]);exact h7.re [2,3,0,1]
theorem dQ.Oc {p:Nat} {G:Gr} (h:Sat W w (dQ p G::L)):∃vn vu vd gJ iE me ml,gJ.length=G.ku.length/\iE.length=G.kE.length/\
  Sat W w (Cs p 202 [vn,vu,vd, .map (some me), .map (some ml)]::Tb 214 6 nv vn G.N::Tb 88 1 eF vu gJ::St (List.zipWith iU gJ G.ku)::
   Tb 88 1 eF vd iE::St (List.zipWith iU iE G.kE)::Mp ek bw me G.pI::Mp ek nw ml G.nO::L):=by
 obtain⟨vn,vu,vd,me,ml,hO⟩:=dQ.open h
 obtain⟨gJ,hu,H⟩:=(hO.re [2]).ab7;obtain⟨iE,hd,h3⟩:=(H.re [4]).ab7;rw[II 0 88,II 0 88] at h3;exact⟨vn,vu,vd,gJ,iE,me,ml,hu,hd,h3.re [4,5,2,3,0,1]⟩
theorem yN (v:Value):∀u∈[v].flatMap eF,u=v:=by intro u hu;simpa [eF] using hu
theorem afZ {p:Nat} {G:Gr} (O:Sat W w (dQ p G::L)) (hG:G.Ok) (k o:Int):
  Calls Tryz.prog 126 #[.pointer (some ⟨p,0,none⟩), .int .i64 k, .int .i64 o] w fun e w'=>e= .returned (.tuple #[.int .i64 (G.ui k o), .int .i64 (G.ry k o)])/\Sat W w' (dQ p (G.pF k o)::L):=by
 by_cases I:k<1
 ·skip
  have HF:=Z (Dm (k:=k) (o:=o) (by omega));unfold Gr.ui Gr.ry Gr.pF Gr.si;rw[HF.F];go_enter Tryz.func126,Tryz.ntmps126;go_wp2
  go_ret2
  exact⟨rfl,O⟩
 have e1:decide (k<1)=false:=bf I
 by_cases H:5<k
 ·have e2:decide (5<k)=true:=bL H;have HF:=Z (Dm (k:=k) (o:=o) (by omega));unfold Gr.ui Gr.ry Gr.pF Gr.si;rw[HF.F];go_enter Tryz.func126,Tryz.ntmps126;go_wp2
  go_ret2
  exact⟨rfl,O⟩
 have e2:decide (5<k)=false:=bf H
 by_cases h3:o<1
 ·have e3:decide (o<1)=true:=bL h3;have HF:=Z (Dm (k:=k) (o:=o) (by omega));unfold Gr.ui Gr.ry Gr.pF Gr.si;rw[HF.F];go_enter Tryz.func126,Tryz.ntmps126;go_wp2
  go_ret2
  exact⟨rfl,O⟩
 have e3:decide (o<1)=false:=bf h3
 by_cases h4:16777215<o
 ·have e4:decide (16777215<o)=true:=bL h4;have HF:=Z (Dm (k:=k) (o:=o) (by omega));unfold Gr.ui Gr.ry Gr.pF Gr.si;rw[HF.F];go_enter Tryz.func126,Tryz.ntmps126;go_wp2
  go_ret2
  exact⟨rfl,O⟩
 have e4:decide (16777215<o)=false:=bf h4;have HK:=Z (aaD (k:=k) (o:=o) (by omega) (by omega) (by omega) (by omega));clear I H h3 h4;obtain⟨vn,vu,vd,gJ,iE,me,ml,hu,hd,hO⟩:=dQ.Oc O;obtain⟨CS,cn,rfl,_⟩:=hO.fA (k:=1) rfl;obtain⟨Mx,cu,rfl,_⟩:=hO.fA (k:=2) rfl;obtain⟨Mv,cd,rfl,_⟩:=hO.fA (k:=4) rfl
 by_cases h5:4096<=G.N.length
 ·have f1:decide (4096<=G.N.length)=true:=bL h5;have f2:decide (4096<=(G.N.length:Int))=true:=bL (by omega);have HF:=Z (show G.si k o=false by unfold Gr.si;rw[HK.F,bf (by omega)];rfl);unfold Gr.ui Gr.ry Gr.pF;rw[HF.F,HK.F];go_enter Tryz.func126,Tryz.ntmps126
  go_wp2_with (refine bB hO ?_ (hk:=aa))
  go_ret2
  exact⟨rfl,O⟩
 have f1:decide (4096<=G.N.length)=false:=bf h5;have f2:decide (4096<=(G.N.length:Int))=false:=bf (by omega);have HF:=Z (show G.si k o=true by unfold Gr.si;rw[HK.F,bL (by omega)];rfl);have HL:=Z (show G.N.length<4096 by omega);have i1:(G.N.length:Int)<4096:=by omega
 have HU:=Z hu;have HD:=Z hd;have vQ:=Z (show gJ.length<4096 by rw[hu,Gr.K8];omega);have HD2:=Z (show iE.length<4096 by rw[hd,Gr.Rq];omega);clear h5 hu hd O;have O:=hO;clear hO;unfold Gr.ui Gr.ry Gr.pF;rw[HF.F,HK.F,if_pos rfl,if_pos rfl,if_pos rfl,if_pos HL.F]
 cases hl:G.latest k o with
 |none=>
  have HV:=Z (show yJ nw (.int .i64 0) (G.nO (k,o))= .int .i64 0 by unfold Gr.nO;rw[hl];rfl);have HN:=Z (show G.xD k o=⟨k,o,1,0,0,false⟩ by unfold Gr.xD;rw[Gr.ajy hl]);clear hl;go_enter Tryz.func126,Tryz.ntmps126
  go_wp2_with (first
  |(refine bB O ?_)
  |(refine dU O ?_;clear O;intro px J O;rw[aS] at O)
  |(refine eT (nv ⟨k,o,1,0,0,false⟩) O aa ?_ (hv:=by exact Td _);clear O;intro J O;dsimp only[aD] at O)
  |(refine bN (FC O _ _ _ false (by rfl) (by rfl) (k,o) (by rfl) NK NG (Co (by rfl)) BO) ?_;rw[if_neg (by decide),HV.F]))
  (refine ll (pO [0,1,2,3,4,5]<|rO [6,7]<|pO [10,11,12]<|rO [13]<|pO [16,17,18]<|rO [19]<| .n 8 14 20 (.n 9 14 20 (.m 14 20 (.m 15 20 (aO [20]<|aO [21]<|pO [22,23]<| .e) (aO [15]<|aO [21]<|pO [22,23]<| .e)) (aO [14]<|aO [15]<|aO [21]<|pO [22,23]<| .e)) (.m 9 20 (.m 15 20 (aO [20]<|aO [21]<|pO [22,23]<| .e) (aO [15]<|aO [21]<|pO [22,23]<| .e)) (aO [9]<|aO [15]<|aO [21]<|pO [22,23]<| .e)) (.m 9 14 (aO [14]<|aO [15]<|aO [21]<|pO [22,23]<| .e) (aO [9]<|aO [15]<|aO [21]<|pO [22,23]<| .e))) (.m 8 20 (.m 9 20 (.m 15 20 (aO [20]<|aO [21]<|pO [22,23]<| .e) (aO [15]<|aO [21]<|pO [22,23]<| .e)) (aO [9]<|aO [15]<|aO [21]<|pO [22,23]<| .e)) (aO [8]<|aO [9]<|aO [15]<|aO [21]<|pO [22,23]<| .e)) (.m 8 14 (.m 9 14 (aO [14]<|aO [15]<|aO [21]<|pO [22,23]<| .e) (aO [9]<|aO [15]<|aO [21]<|pO [22,23]<| .e)) (aO [8]<|aO [9]<|aO [15]<|aO [21]<|pO [22,23]<| .e))) [24,27,30] O (fun _ h=>h.take2) ?_;clear O;intro J O)
  repeat (first
   |(refine bG O ?_;go_frame)
   |(refine bR O ?_;(first
     |refine qV ?_
     |refine⟨_,Ll _ _ (by rfl) _ _ (by rfl) (aI (by rfl)) (bz (by rfl)) (by repeat first|exact Has.z|apply Has.s) (vs:=nv (⟨k,o,1,0,0,false⟩:dZ)) (by rfl) (by rfl),?_⟩);go_frame))
  revert O;apply Ca (aO [24]<|pO [25,26]<|aO [27]<|pO [28,29]<|aO [30]<| .e) (fun(b8 b14 b20:Nat) (v63 v69 v75:Value) w'=>Sat W w' (Cs px 214 (nv (⟨k,o,1,0,0,false⟩:dZ))::Cs p 202 [.slice CS G.N.length cn, .slice Mx gJ.length cu, .slice Mv iE.length cd, .map (some me), .map (some ml)]::Tb 214 6 nv v63 (G.N++[(⟨k,o,1,0,0,false⟩:dZ)])::Tb 88 1 eF v69 (gJ++[.slice none 0 0])::St (List.zipWith iU gJ G.ku)::Tb 88 1 eF v75 (iE++[.slice none 0 0])::St (List.zipWith iU iE G.kE)::Mp ek bw me G.pI::Mp ek nw ml G.nO::L)) ([Cs px 214 (nv (⟨k,o,1,0,0,false⟩:dZ)),Cs p 202 [.slice CS G.N.length cn, .slice Mx gJ.length cu, .slice Mv iE.length cd, .map (some me), .map (some ml)]])
  case I=>
   intro hJ O
   repeat' (first
    |(refine bG O ?_;go_frame)
      |(refine bY fun K hK=>?_;(first|(refine dst 62 ?_;refine mJ [.agg (nv (⟨k,o,1,0,0,false⟩:dZ)).toArray] O ?_ (hc:=by intro v hv;rw[eD.1 hv];rfl);clear O;intro b8 J O;rw[kP] at O)|(refine dst 63 ?_;refine qJ (f:=nv) O _ _ _ _ (by rfl) _ _ (by rfl) (by rfl) (bS (by rfl)) (by rfl) (by decide) (dO (by rfl)) (by repeat (first|exact aa|apply Has.s)) [(⟨k,o,1,0,0,false⟩:dZ)] (by intro x V;rfl) (by exact O.gZ (f:=nv) (x:=(⟨k,o,1,0,0,false⟩:dZ)) (by repeat (first|exact aa|apply Has.s)) rfl) (by exact Ff _) (by have:=HL.F;rw[dC];omega) (by have:=HL.F;rw[dC];omega) ?_;clear O;intro v63 J O;dsimp only[aD,aN] at O)|(refine dst 68 ?_;refine mJ [.slice none 0 0] O ?_ (hc:=by simp[Value.cells]);clear O;intro b14 J O;rw[jC rfl] at O)|(refine dst 69 ?_;refine qJ (f:=eF) O _ _ _ _ (by rfl) _ _ (by rfl) (by rfl) (bS (by rfl)) (by rfl) (by decide) (dO (by rfl)) (by repeat (first|exact aa|apply Has.s)) [.slice none 0 0] (by intro x V;rfl) (by exact O.gZ (f:=eF) (x:= .slice none 0 0) (by repeat (first|exact aa|apply Has.s)) rfl) (by intro u hu;rw[yN _ u hu];rfl) (by have:=vQ.F;rw[dC];omega) (by have:=vQ.F;rw[dC];omega) ?_;clear O;intro v69 J O;dsimp only[aD,aN] at O)|(refine dst 74 ?_;refine mJ [.slice none 0 0] O ?_ (hc:=by simp[Value.cells]);clear O;intro b20 J O;rw[jC rfl] at O)|(refine dst 75 ?_;refine qJ (f:=eF) O _ _ _ _ (by rfl) _ _ (by rfl) (by rfl) (bS (by rfl)) (by rfl) (by decide) (dO (by rfl)) (by repeat (first|exact aa|apply Has.s)) [.slice none 0 0] (by intro x V;rfl) (by exact O.gZ (f:=eF) (x:= .slice none 0 0) (by repeat (first|exact aa|apply Has.s)) rfl) (by intro u hu;rw[yN _ u hu];rfl) (by have:=HD2.F;rw[dC];omega) (by have:=HD2.F;rw[dC];omega) ?_;clear O;intro v75 J O;dsimp only[aD,aN] at O));refine hK.up O ?_;clear hK K;go_frame)
      |(refine Cc ?_ ?_<;>(intro K hK;(first|(refine dst 62 ?_;refine mJ [.agg (nv (⟨k,o,1,0,0,false⟩:dZ)).toArray] O ?_ (hc:=by intro v hv;rw[eD.1 hv];rfl);clear O;intro b8 J O;rw[kP] at O)|(refine dst 63 ?_;refine qJ (f:=nv) O _ _ _ _ (by rfl) _ _ (by rfl) (by rfl) (bS (by rfl)) (by rfl) (by decide) (dO (by rfl)) (by repeat (first|exact aa|apply Has.s)) [(⟨k,o,1,0,0,false⟩:dZ)] (by intro x V;rfl) (by exact O.gZ (f:=nv) (x:=(⟨k,o,1,0,0,false⟩:dZ)) (by repeat (first|exact aa|apply Has.s)) rfl) (by exact Ff _) (by have:=HL.F;rw[dC];omega) (by have:=HL.F;rw[dC];omega) ?_;clear O;intro v63 J O;dsimp only[aD,aN] at O)|(refine dst 68 ?_;refine mJ [.slice none 0 0] O ?_ (hc:=by simp[Value.cells]);clear O;intro b14 J O;rw[jC rfl] at O)|(refine dst 69 ?_;refine qJ (f:=eF) O _ _ _ _ (by rfl) _ _ (by rfl) (by rfl) (bS (by rfl)) (by rfl) (by decide) (dO (by rfl)) (by repeat (first|exact aa|apply Has.s)) [.slice none 0 0] (by intro x V;rfl) (by exact O.gZ (f:=eF) (x:= .slice none 0 0) (by repeat (first|exact aa|apply Has.s)) rfl) (by intro u hu;rw[yN _ u hu];rfl) (by have:=vQ.F;rw[dC];omega) (by have:=vQ.F;rw[dC];omega) ?_;clear O;intro v69 J O;dsimp only[aD,aN] at O)|(refine dst 74 ?_;refine mJ [.slice none 0 0] O ?_ (hc:=by simp[Value.cells]);clear O;intro b20 J O;rw[jC rfl] at O)|(refine dst 75 ?_;refine qJ (f:=eF) O _ _ _ _ (by rfl) _ _ (by rfl) (by rfl) (bS (by rfl)) (by rfl) (by decide) (dO (by rfl)) (by repeat (first|exact aa|apply Has.s)) [.slice none 0 0] (by intro x V;rfl) (by exact O.gZ (f:=eF) (x:= .slice none 0 0) (by repeat (first|exact aa|apply Has.s)) rfl) (by intro u hu;rw[yN _ u hu];rfl) (by have:=HD2.F;rw[dC];omega) (by have:=HD2.F;rw[dC];omega) ?_;clear O;intro v75 J O;dsimp only[aD,aN] at O));refine hK.up O ?_;clear hK K;go_frame))
      |(refine abQ ?_ ?_ ?_<;>(intro K hK;(first|(refine dst 62 ?_;refine mJ [.agg (nv (⟨k,o,1,0,0,false⟩:dZ)).toArray] O ?_ (hc:=by intro v hv;rw[eD.1 hv];rfl);clear O;intro b8 J O;rw[kP] at O)|(refine dst 63 ?_;refine qJ (f:=nv) O _ _ _ _ (by rfl) _ _ (by rfl) (by rfl) (bS (by rfl)) (by rfl) (by decide) (dO (by rfl)) (by repeat (first|exact aa|apply Has.s)) [(⟨k,o,1,0,0,false⟩:dZ)] (by intro x V;rfl) (by exact O.gZ (f:=nv) (x:=(⟨k,o,1,0,0,false⟩:dZ)) (by repeat (first|exact aa|apply Has.s)) rfl) (by exact Ff _) (by have:=HL.F;rw[dC];omega) (by have:=HL.F;rw[dC];omega) ?_;clear O;intro v63 J O;dsimp only[aD,aN] at O)|(refine dst 68 ?_;refine mJ [.slice none 0 0] O ?_ (hc:=by simp[Value.cells]);clear O;intro b14 J O;rw[jC rfl] at O)|(refine dst 69 ?_;refine qJ (f:=eF) O _ _ _ _ (by rfl) _ _ (by rfl) (by rfl) (bS (by rfl)) (by rfl) (by decide) (dO (by rfl)) (by repeat (first|exact aa|apply Has.s)) [.slice none 0 0] (by intro x V;rfl) (by exact O.gZ (f:=eF) (x:= .slice none 0 0) (by repeat (first|exact aa|apply Has.s)) rfl) (by intro u hu;rw[yN _ u hu];rfl) (by have:=vQ.F;rw[dC];omega) (by have:=vQ.F;rw[dC];omega) ?_;clear O;intro v69 J O;dsimp only[aD,aN] at O)|(refine dst 74 ?_;refine mJ [.slice none 0 0] O ?_ (hc:=by simp[Value.cells]);clear O;intro b20 J O;rw[jC rfl] at O)|(refine dst 75 ?_;refine qJ (f:=eF) O _ _ _ _ (by rfl) _ _ (by rfl) (by rfl) (bS (by rfl)) (by rfl) (by decide) (dO (by rfl)) (by repeat (first|exact aa|apply Has.s)) [.slice none 0 0] (by intro x V;rfl) (by exact O.gZ (f:=eF) (x:= .slice none 0 0) (by repeat (first|exact aa|apply Has.s)) rfl) (by intro u hu;rw[yN _ u hu];rfl) (by have:=HD2.F;rw[dC];omega) (by have:=HD2.F;rw[dC];omega) ?_;clear O;intro v75 J O;dsimp only[aD,aN] at O));refine hK.up O ?_;clear hK K;go_frame))
      |(refine Cb ?_;exact hJ b8 b14 b20 v63 v69 v75 _ O.drop.drop.drop))
  intro b8 b14 b20 v63 v69 v75 J O;obtain⟨xe,c1,he1,_⟩:=O.fA (k:=2) rfl;obtain⟨sS,c2,he2,_⟩:=O.fA (k:=3) rfl;obtain⟨Wv,c3,JU,_⟩:=O.fA (k:=5) rfl;rw[bP,dC] at he1 he2 JU;subst he1 he2 JU
  repeat (first
   |(refine bG O ?_;go_frame)
   |(refine bY fun K hK=>?_;(refine st O _ _ _ (by rfl) _ _ (by rfl) _ (by first|exact sV|exact rA (by rfl)) (by rfl) (bz (by rfl)) (by repeat first|exact Has.z|apply Has.s) (by exact Nat.le_of_ble_eq_true rfl) ?_;clear O;intro J O;dsimp only[List.set] at O);refine hK.gu O ?_;clear hK K;go_frame))
  refine bO ?_;go_wp2
  (refine cB (pO [0,1,2]<|rO [3]<|pO [4,5,6,7,8,9]<|rO [10]<|pO [11]<|aO [12]<| .e) [12] O ?_;clear O;intro J O)
  repeat (first
   |(refine bG O ?_;go_frame)
   |(refine bR O ?_;(refine qV ?_);go_frame)
   |(refine bY fun K hK=>?_;(refine Kk (ke:=ek) (ve:=nw) O _ _ _ _ (.inl (by rfl)) (by rfl) (k,o) (by rfl) (G.N.length+1) (by rfl) NK NG BO ?_;clear O;intro J O;dsimp only[List.set] at O);refine hK.go O ?_;clear hK K;go_frame))
  refine bO ?_
  go_wp2_with (refine bB O ?_)
  go_ret2
  refine⟨rfl,dQ.plus hG HU.F HD.F (me:=me) (ml:=ml) (by rw[HN.F];exact O.drop)⟩
 |some i=>
  have HV:=Z (show yJ nw (.int .i64 0) (G.nO (k,o))= .int .i64 ((i:Int)+1) by unfold Gr.nO;rw[hl];rfl);obtain⟨⟨x1,x2,x3,x4,x5,x6⟩,V,hv,hi⟩:=Gr.ajz hG hl;have HX:=Z V;dsimp only at hv;have HN:=Z (show G.xD k o=⟨k,o,x3+1,0,0,false⟩ by unfold Gr.xD;rw[<-hv]);have hx3:(x3:Int)<4097:=by have:=Gr.count_le G k o;have:=HL.F;omega
  have j1:(i:Int)< (G.N.length:Int):=by omega
  have j2:(i:Int)<4096:=by have:=HL.F;omega
  have e5:decide ((0:Int)< (i:Int)+1)=true:=bL (by omega);obtain⟨bn,off,c,he,_⟩:=O.pX (k:=1) rfl (by omega);obtain⟨rfl,rfl⟩:=gq he;clear hl V hv hi;go_enter Tryz.func126,Tryz.ntmps126
  go_wp2_with (first
  |(refine bB O ?_)
  |(refine dU O ?_;clear O;intro px J O;rw[aS] at O)
  |(refine eT (nv ⟨k,o,1,0,0,false⟩) O aa ?_ (hv:=by exact Td _);clear O;intro J O;dsimp only[aD] at O)
  |(refine bN (FC O _ _ _ false (by rfl) (by rfl) (k,o) (by rfl) NK NG (Co (by rfl)) BO) ?_;rw[if_neg (by decide),HV.F])
  |(refine aU ?_;refine mh O _ _ (by rfl) _ _ (by rfl) (aI (by rfl)) hz2 i 2 (by omega) HX.F (by rfl) ?_)
  |(refine iA O aa ?_ (v:=(.int .i64 ((x3+1:Nat):Int))) (hy:=by rfl);clear O;intro J O;dsimp only[aD] at O))
  have hS1:Sat W _ (Cs px 214 (nv ⟨k,o,x3+1,0,0,false⟩)::_):=O;clear O;have O:=hS1;clear hS1
  (refine ll (pO [0,1,2,3,4,5]<|rO [6,7]<|pO [10,11,12]<|rO [13]<|pO [16,17,18]<|rO [19]<| .n 8 14 20 (.n 9 14 20 (.m 14 20 (.m 15 20 (aO [20]<|aO [21]<|pO [22,23]<| .e) (aO [15]<|aO [21]<|pO [22,23]<| .e)) (aO [14]<|aO [15]<|aO [21]<|pO [22,23]<| .e)) (.m 9 20 (.m 15 20 (aO [20]<|aO [21]<|pO [22,23]<| .e) (aO [15]<|aO [21]<|pO [22,23]<| .e)) (aO [9]<|aO [15]<|aO [21]<|pO [22,23]<| .e)) (.m 9 14 (aO [14]<|aO [15]<|aO [21]<|pO [22,23]<| .e) (aO [9]<|aO [15]<|aO [21]<|pO [22,23]<| .e))) (.m 8 20 (.m 9 20 (.m 15 20 (aO [20]<|aO [21]<|pO [22,23]<| .e) (aO [15]<|aO [21]<|pO [22,23]<| .e)) (aO [9]<|aO [15]<|aO [21]<|pO [22,23]<| .e)) (aO [8]<|aO [9]<|aO [15]<|aO [21]<|pO [22,23]<| .e)) (.m 8 14 (.m 9 14 (aO [14]<|aO [15]<|aO [21]<|pO [22,23]<| .e) (aO [9]<|aO [15]<|aO [21]<|pO [22,23]<| .e)) (aO [8]<|aO [9]<|aO [15]<|aO [21]<|pO [22,23]<| .e))) [24,27,30] O (fun _ h=>h.take2) ?_;clear O;intro J O)
  repeat (first
   |(refine bG O ?_;go_frame)
   |(refine bR O ?_;(first
     |refine qV ?_
     |refine⟨_,Ll _ _ (by rfl) _ _ (by rfl) (aI (by rfl)) (bz (by rfl)) (by repeat first|exact Has.z|apply Has.s) (vs:=nv (⟨k,o,x3+1,0,0,false⟩:dZ)) (by rfl) (by rfl),?_⟩);go_frame))
  revert O;apply Ca (aO [24]<|pO [25,26]<|aO [27]<|pO [28,29]<|aO [30]<| .e) (fun(b8 b14 b20:Nat) (v63 v69 v75:Value) w'=>Sat W w' (Cs px 214 (nv (⟨k,o,x3+1,0,0,false⟩:dZ))::Cs p 202 [.slice (some ⟨bn,off,none⟩) G.N.length cn, .slice Mx gJ.length cu, .slice Mv iE.length cd, .map (some me), .map (some ml)]::Tb 214 6 nv v63 (G.N++[(⟨k,o,x3+1,0,0,false⟩:dZ)])::Tb 88 1 eF v69 (gJ++[.slice none 0 0])::St (List.zipWith iU gJ G.ku)::Tb 88 1 eF v75 (iE++[.slice none 0 0])::St (List.zipWith iU iE G.kE)::Mp ek bw me G.pI::Mp ek nw ml G.nO::L)) ([Cs px 214 (nv (⟨k,o,x3+1,0,0,false⟩:dZ)),Cs p 202 [.slice (some ⟨bn,off,none⟩) G.N.length cn, .slice Mx gJ.length cu, .slice Mv iE.length cd, .map (some me), .map (some ml)]])
  case I=>
   intro hJ O
   repeat' (first
    |(refine bG O ?_;go_frame)
      |(refine bY fun K hK=>?_;(first|(refine dst 62 ?_;refine mJ [.agg (nv (⟨k,o,x3+1,0,0,false⟩:dZ)).toArray] O ?_ (hc:=by intro v hv;rw[eD.1 hv];rfl);clear O;intro b8 J O;rw[kP] at O)|(refine dst 63 ?_;refine qJ (f:=nv) O _ _ _ _ (by rfl) _ _ (by rfl) (by rfl) (bS (by rfl)) (by rfl) (by decide) (dO (by rfl)) (by repeat (first|exact aa|apply Has.s)) [(⟨k,o,x3+1,0,0,false⟩:dZ)] (by intro x V;rfl) (by exact O.gZ (f:=nv) (x:=(⟨k,o,x3+1,0,0,false⟩:dZ)) (by repeat (first|exact aa|apply Has.s)) rfl) (by exact Ff _) (by have:=HL.F;rw[dC];omega) (by have:=HL.F;rw[dC];omega) ?_;clear O;intro v63 J O;dsimp only[aD,aN] at O)|(refine dst 68 ?_;refine mJ [.slice none 0 0] O ?_ (hc:=by simp[Value.cells]);clear O;intro b14 J O;rw[jC rfl] at O)|(refine dst 69 ?_;refine qJ (f:=eF) O _ _ _ _ (by rfl) _ _ (by rfl) (by rfl) (bS (by rfl)) (by rfl) (by decide) (dO (by rfl)) (by repeat (first|exact aa|apply Has.s)) [.slice none 0 0] (by intro x V;rfl) (by exact O.gZ (f:=eF) (x:= .slice none 0 0) (by repeat (first|exact aa|apply Has.s)) rfl) (by intro u hu;rw[yN _ u hu];rfl) (by have:=vQ.F;rw[dC];omega) (by have:=vQ.F;rw[dC];omega) ?_;clear O;intro v69 J O;dsimp only[aD,aN] at O)|(refine dst 74 ?_;refine mJ [.slice none 0 0] O ?_ (hc:=by simp[Value.cells]);clear O;intro b20 J O;rw[jC rfl] at O)|(refine dst 75 ?_;refine qJ (f:=eF) O _ _ _ _ (by rfl) _ _ (by rfl) (by rfl) (bS (by rfl)) (by rfl) (by decide) (dO (by rfl)) (by repeat (first|exact aa|apply Has.s)) [.slice none 0 0] (by intro x V;rfl) (by exact O.gZ (f:=eF) (x:= .slice none 0 0) (by repeat (first|exact aa|apply Has.s)) rfl) (by intro u hu;rw[yN _ u hu];rfl) (by have:=HD2.F;rw[dC];omega) (by have:=HD2.F;rw[dC];omega) ?_;clear O;intro v75 J O;dsimp only[aD,aN] at O));refine hK.up O ?_;clear hK K;go_frame)
      |(refine Cc ?_ ?_<;>(intro K hK;(first|(refine dst 62 ?_;refine mJ [.agg (nv (⟨k,o,x3+1,0,0,false⟩:dZ)).toArray] O ?_ (hc:=by intro v hv;rw[eD.1 hv];rfl);clear O;intro b8 J O;rw[kP] at O)|(refine dst 63 ?_;refine qJ (f:=nv) O _ _ _ _ (by rfl) _ _ (by rfl) (by rfl) (bS (by rfl)) (by rfl) (by decide) (dO (by rfl)) (by repeat (first|exact aa|apply Has.s)) [(⟨k,o,x3+1,0,0,false⟩:dZ)] (by intro x V;rfl) (by exact O.gZ (f:=nv) (x:=(⟨k,o,x3+1,0,0,false⟩:dZ)) (by repeat (first|exact aa|apply Has.s)) rfl) (by exact Ff _) (by have:=HL.F;rw[dC];omega) (by have:=HL.F;rw[dC];omega) ?_;clear O;intro v63 J O;dsimp only[aD,aN] at O)|(refine dst 68 ?_;refine mJ [.slice none 0 0] O ?_ (hc:=by simp[Value.cells]);clear O;intro b14 J O;rw[jC rfl] at O)|(refine dst 69 ?_;refine qJ (f:=eF) O _ _ _ _ (by rfl) _ _ (by rfl) (by rfl) (bS (by rfl)) (by rfl) (by decide) (dO (by rfl)) (by repeat (first|exact aa|apply Has.s)) [.slice none 0 0] (by intro x V;rfl) (by exact O.gZ (f:=eF) (x:= .slice none 0 0) (by repeat (first|exact aa|apply Has.s)) rfl) (by intro u hu;rw[yN _ u hu];rfl) (by have:=vQ.F;rw[dC];omega) (by have:=vQ.F;rw[dC];omega) ?_;clear O;intro v69 J O;dsimp only[aD,aN] at O)|(refine dst 74 ?_;refine mJ [.slice none 0 0] O ?_ (hc:=by simp[Value.cells]);clear O;intro b20 J O;rw[jC rfl] at O)|(refine dst 75 ?_;refine qJ (f:=eF) O _ _ _ _ (by rfl) _ _ (by rfl) (by rfl) (bS (by rfl)) (by rfl) (by decide) (dO (by rfl)) (by repeat (first|exact aa|apply Has.s)) [.slice none 0 0] (by intro x V;rfl) (by exact O.gZ (f:=eF) (x:= .slice none 0 0) (by repeat (first|exact aa|apply Has.s)) rfl) (by intro u hu;rw[yN _ u hu];rfl) (by have:=HD2.F;rw[dC];omega) (by have:=HD2.F;rw[dC];omega) ?_;clear O;intro v75 J O;dsimp only[aD,aN] at O));refine hK.up O ?_;clear hK K;go_frame))
      |(refine abQ ?_ ?_ ?_<;>(intro K hK;(first|(refine dst 62 ?_;refine mJ [.agg (nv (⟨k,o,x3+1,0,0,false⟩:dZ)).toArray] O ?_ (hc:=by intro v hv;rw[eD.1 hv];rfl);clear O;intro b8 J O;rw[kP] at O)|(refine dst 63 ?_;refine qJ (f:=nv) O _ _ _ _ (by rfl) _ _ (by rfl) (by rfl) (bS (by rfl)) (by rfl) (by decide) (dO (by rfl)) (by repeat (first|exact aa|apply Has.s)) [(⟨k,o,x3+1,0,0,false⟩:dZ)] (by intro x V;rfl) (by exact O.gZ (f:=nv) (x:=(⟨k,o,x3+1,0,0,false⟩:dZ)) (by repeat (first|exact aa|apply Has.s)) rfl) (by exact Ff _) (by have:=HL.F;rw[dC];omega) (by have:=HL.F;rw[dC];omega) ?_;clear O;intro v63 J O;dsimp only[aD,aN] at O)|(refine dst 68 ?_;refine mJ [.slice none 0 0] O ?_ (hc:=by simp[Value.cells]);clear O;intro b14 J O;rw[jC rfl] at O)|(refine dst 69 ?_;refine qJ (f:=eF) O _ _ _ _ (by rfl) _ _ (by rfl) (by rfl) (bS (by rfl)) (by rfl) (by decide) (dO (by rfl)) (by repeat (first|exact aa|apply Has.s)) [.slice none 0 0] (by intro x V;rfl) (by exact O.gZ (f:=eF) (x:= .slice none 0 0) (by repeat (first|exact aa|apply Has.s)) rfl) (by intro u hu;rw[yN _ u hu];rfl) (by have:=vQ.F;rw[dC];omega) (by have:=vQ.F;rw[dC];omega) ?_;clear O;intro v69 J O;dsimp only[aD,aN] at O)|(refine dst 74 ?_;refine mJ [.slice none 0 0] O ?_ (hc:=by simp[Value.cells]);clear O;intro b20 J O;rw[jC rfl] at O)|(refine dst 75 ?_;refine qJ (f:=eF) O _ _ _ _ (by rfl) _ _ (by rfl) (by rfl) (bS (by rfl)) (by rfl) (by decide) (dO (by rfl)) (by repeat (first|exact aa|apply Has.s)) [.slice none 0 0] (by intro x V;rfl) (by exact O.gZ (f:=eF) (x:= .slice none 0 0) (by repeat (first|exact aa|apply Has.s)) rfl) (by intro u hu;rw[yN _ u hu];rfl) (by have:=HD2.F;rw[dC];omega) (by have:=HD2.F;rw[dC];omega) ?_;clear O;intro v75 J O;dsimp only[aD,aN] at O));refine hK.up O ?_;clear hK K;go_frame))
      |(refine Cb ?_;exact hJ b8 b14 b20 v63 v69 v75 _ O.drop.drop.drop))
  intro b8 b14 b20 v63 v69 v75 J O;obtain⟨xe,c1,he1,_⟩:=O.fA (k:=2) rfl;obtain⟨sS,c2,he2,_⟩:=O.fA (k:=3) rfl;obtain⟨Wv,c3,JU,_⟩:=O.fA (k:=5) rfl;rw[bP,dC] at he1 he2 JU;subst he1 he2 JU
  repeat (first
   |(refine bG O ?_;go_frame)
   |(refine bY fun K hK=>?_;(refine st O _ _ _ (by rfl) _ _ (by rfl) _ (by first|exact sV|exact rA (by rfl)) (by rfl) (bz (by rfl)) (by repeat first|exact Has.z|apply Has.s) (by exact Nat.le_of_ble_eq_true rfl) ?_;clear O;intro J O;dsimp only[List.set] at O);refine hK.gu O ?_;clear hK K;go_frame))
  refine bO ?_;go_wp2
  (refine cB (pO [0,1,2]<|rO [3]<|pO [4,5,6,7,8,9]<|rO [10]<|pO [11]<|aO [12]<| .e) [12] O ?_;clear O;intro J O)
  repeat (first
   |(refine bG O ?_;go_frame)
   |(refine bR O ?_;(refine qV ?_);go_frame)
   |(refine bY fun K hK=>?_;(refine Kk (ke:=ek) (ve:=nw) O _ _ _ _ (.inl (by rfl)) (by rfl) (k,o) (by rfl) (G.N.length+1) (by rfl) NK NG BO ?_;clear O;intro J O;dsimp only[List.set] at O);refine hK.go O ?_;clear hK K;go_frame))
  refine bO ?_
  go_wp2_with (refine bB O ?_)
  go_ret2
  refine⟨rfl,dQ.plus hG HU.F HD.F (me:=me) (ml:=ml) (by rw[HN.F];exact O.drop)⟩
end Go.Proofs.YtjbiihbicknemaaGreat
