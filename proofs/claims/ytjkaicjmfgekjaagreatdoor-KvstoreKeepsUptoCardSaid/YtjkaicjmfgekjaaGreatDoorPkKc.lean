/-
  Kc, Kd, Ke, Kf
-/
import Derived.Test.YtjkaicjmfgekjaaGreatDoorPkCq
import Derived.Test.YtjkaicjmfgekjaaGreatDoorPkApp
import Derived.Test.YtjkaicjmfgekjaaGreatDoorPkCell
set_option linter.all false
set_option maxRecDepth 100000
set_option maxHeartbeats 4000000
namespace Go.Proofs.YtjkaicjmfgekjaaGreatDoor
open Go.Proofs.Tryz
attribute [local irreducible] RD RS AA RL RA RT Cz Ai AC DQ Cp BH Bz B4 Cb D4 Cj itemsN BW AO Br BK Gr AP A4 Ar Ck As A1 Ay
section
def AW (s:ByteArray):List UInt8:=Aq s.size++s.data.toList
def A5 (d:Ag):List UInt8:=Aq d.node.toNat++Aq d.life.toNat++Aq d.count.toNat
def Gm (l:List Ag):List UInt8:=Aq l.length++l.flatMap A5
def EM (p:Nat):Nat->List UInt8
 |0=>[]
 |k+1=>EM p k++[UInt8.ofNat (p/2^(8*k))]
def AK (x:Aj):List UInt8:=AW x.item++Aq x.dot.node.toNat++Aq x.dot.life.toNat++Aq x.dot.count.toNat++Aq x.qty.toNat++EM x.price.toNat 8
def Lb (l:List Aj):List UInt8:=Aq l.length++l.flatMap AK
def Ds (ms:List Ab)(cl:List Ag):List UInt8:=Gm (ms.map Ab.d)++Gm cl
def VQ (d:Ag):Prop:=(0<=d.node∧d.node<4611686018427387904)∧(0<=d.life∧d.life<4611686018427387904)∧0<=d.count∧d.count<4611686018427387904
theorem Cq {n:Int}(h0:0<=n)(h:n<4611686018427387904):(Aq n.toNat).length<=9:=A6 Zo
theorem Lc {d:Ag}(h:VQ d):(A5 d).length<=27:=by
 have h1:=Cq h.1.1 h.1.2
 have h2:=Cq h.2.1.1 h.2.1.2
 have h3:=Cq h.2.2.1 h.2.2.2
 simp only[A5,Aab];omega
theorem IA (p:Nat):∀k,(EM p k).length=k
 |0=>rfl
 |k+1=>by rw[EM,Aab,IA p k];rfl
theorem D5 {α : Type} {f : α -> List UInt8} {m : Nat} : ∀ {l : List α}, (∀ x ∈ l, (f x).length <= m) -> (l.flatMap f).length <= m * l.length
  | [], _ => by simp
  | x :: l, h => by
    have h1 := h x Zs
    have h2 := D5 (f := f) (l := l) fun y hy => h y (by simp [hy])
    rw [AaV, Aab, Aaj, Nat.mul_succ]; omega
theorem IB {α:Type}{f:α->List UInt8}{l:List α}{i:Nat}{x:α}(h:l[i]? =some x):(l.take (i+1)).flatMap f=(l.take i).flatMap f++f x:=by
 obtain⟨hj,rfl⟩:=List.getElem?_eq_some_iff.1 h
 rw[AaL hj,Ach];simp
theorem Vf {α β:Type}{f:α->β}{l:List α}{i:Nat}{x:α}(h:l[i]? =some x):(l.take (i+1)).map f=(l.take i).map f++[f x]:=by
 obtain⟨hj,rfl⟩:=List.getElem?_eq_some_iff.1 h
 rw[AaL hj,Aam];rfl
theorem I9 {α:Type}{l:List α}{i:Nat}{x:α}(h:l[i]? =some x):x∈l:=Aan h
theorem Ld {l:List Ag}(h:∀d∈l,VQ d)(hl:l.length<=1048576):(Gm l).length<=9+27*l.length:=by
 have h1:=A6 (n:=l.length) Zo
 have h2:=D5 (f:=A5) (m:=27) fun x hx=>Lc (h x hx)
 rw[Gm,Aab];omega
theorem Vg (p:Nat):EM p 0=[]:=rfl
theorem OK (p k:Nat):EM p (k+1)=EM p k++[UInt8.ofNat (p/2^(8*k))]:=rfl
def entN (x:Aj):Prop:=VQ x.dot∧(0<=x.qty∧x.qty<4611686018427387904)∧(0<=x.price∧x.price<18446744073709551616)∧x.item.size<=32
theorem HY {x:Aj}(h:entN x):(AK x).length<=85:=by
 have h1:=Cq h.1.1.1 h.1.1.2
 have h2:=Cq h.1.2.1.1 h.1.2.1.2
 have h3:=Cq h.1.2.2.1 h.1.2.2.2
 have h4:=Cq h.2.1.1 h.2.1.2
 have h5:=A6 (n:=x.item.size) (by have:=h.2.2.2;omega)
 have h6:=h.2.2.2
 have h7:x.item.data.toList.length=x.item.size:=by rw[Aay];rfl
 simp only[AK,AW,Aab,IA,h7];omega
theorem fQ.entN {ms:List Ab}{cl:List Ag}{pre:List Aj}{x:Aj}(h:fQ ms cl pre x)(hX:Ew ms cl)(hp:0<=x.price∧x.price<18446744073709551616):entN x:=by
 have h1:=h.qty
 have h2:=h.name
 have h3:x.item.size<=32:=by
  rw[AP,Aao,decide_eq_true_eq]at h2
  exact h2.1.2
 have h4:=hX.cov h.cov
 unfold AC at h4
 refine⟨⟨?_,?_,?_⟩,?_,hp,h3⟩<;>omega
theorem AC.nn {d:Ag}(h:AC d):VQ d:=by unfold AC at h;unfold VQ;omega
theorem HF (a:Option Addr)(xs:List UInt8)(c:Nat)(n:Int)(w:World)(hs:Av w a xs)(hl:xs.length<=1073741824)(h0:0<=n)(hn:n<4611686018427387904):Calls prog 122 #[.slice a xs.length c,.int .i64 n] w (AN fun v w'=>∃a' c',v= .slice a' (xs++Aq n.toNat).length c'∧Af w' 5 a' c' (xs++Aq n.toNat)∧(∀b,own a' b->w.heap.size<=b)∧Ap w w'):=by
 have h:=R8 a xs c n.toNat w hs hl Zo
 rwa[AaQ h0]at h
attribute [local irreducible] A5 EM AW AK X
theorem My (a:Option Addr)(xs:List UInt8)(c:Nat)(s:ByteArray)(w:World)(hs:Av w a xs)(hl:xs.length<=1048576)(hn:s.size<=1048576):
  Calls prog 88 #[.slice a xs.length c,.string s] w (AN (fun v w'=>∃a' c',v= .slice a' (xs++AW s).length c'∧Af w' 5 a' c' (xs++AW s)∧(∀b,own a' b->w.heap.size<=b)∧Ap w w')):=by
 have hv9:=A6 (n:=s.size) Zo;have hD:(xs++Aq s.size).length=xs.length+(Aq s.size).length:=Aab;refine Ac (n:=11) func88 rfl rfl rfl ?_;refine jG ?_;refine jV (DC underlying9 rfl) ?_;refine jR<|jC (R8 a xs c s.size _ hs Zo Zo) ?_;rintro _ aa ⟨ab,ac,rfl,a5,a0,a6⟩;have a1:=Bd (Aac _) a0;clear a0;have K0:=(a6:Ap w _);refine jG ?_;refine jR<|AA.appendStr (xs:=xs++Aq s.size) (str:=s) underlying98 underlying9 ty5 rfl rfl rfl a5 Zr ?_;intro a2 a7 ad a3 a8 a4;have a9:∀q_,own a2 q_->w.heap.size<=q_:=a4.ge a1 K0.size;clear a4;refine jG ?_;refine jJ func88 ?_;have e_:(xs++Aq s.size)++s.data.toList=xs++AW s:=by unfold AW;rw[Aap]
 rw[e_]at a3⊢;replace K0:=K0.new a8 a1;exact⟨_,rfl,a2,a7,rfl,a3,a9,K0⟩
theorem Ro (am:Option Addr)(ds:List Ag)(cm b:Nat)(a0:Option Addr)(xs:List UInt8)(c0:Nat)(w:World)(hm:Av w am ds)(hb:AB w b [.slice a0 xs.length c0] 98)(hs0:Av w a0 xs)(hd0:∀q_,am=some q_->ds≠ []->¬(one b) q_.block)(hds:∀d∈ds,VQ d)(hdl:ds.length<=4096)(hl:xs.length<=1048576):
  Calls prog 211 #[.slice am ds.length cm,jp b] w (AN (fun v w'=>∃a' c',v= .tuple #[]∧AB w' b [.slice a' (xs++Gm ds).length c'] 98∧Af w' 5 a' c' (xs++Gm ds)∧(∀q,own a' q->w.heap.size<=q)∧Ad (one b) w w')):=by
 have hv9:=A6 (n:=ds.length) Zo;have hD:(xs++Aq ds.length).length=xs.length+(Aq ds.length).length:=Aab;refine Ac (n:=26) func211 rfl rfl rfl ?_;refine jG ?_;refine jR<|jC (R8 a0 xs c0 ds.length _ hs0 Zo Zo) ?_;rintro _ aI ⟨ao,aJ,rfl,a4,a5,ah⟩;have ai:=Aw a5 hb.lt;have ap:∀q_,own ao q_->q_<w.heap.size->(one b) q_:=Hx (Aac _) a5;have aq:=Bd (Aac _) a5;clear a5;have K0:=(ah:Ap w _).to (S:=(one b));replace hb:=hb.ext ah;refine jR<|jS hb ?_;intro aK hb aj;replace K0:=K0.tf aj rfl;refine jG ?_;replace a4:=a4.kO aj (Aa ai);refine Ai.loop (ι:=Nat) (fun i ρ' w'=>∃a':Option Addr,∃c':Nat,Holds ρ' [(1,jp b),(9,.slice am ds.length cm),(10,.int .i64 ((ds.length:Nat):Int)),(11,.int .i64 ((i:Nat):Int))]∧Ad (one b) w w'∧(AB w' b [.slice a' ((xs++Aq ds.length++(ds.take i).flatMap A5).length) c'] 98)∧(Af w' 5 a' c' (xs++Aq ds.length++(ds.take i).flatMap A5))∧(¬own a' b)∧(∀q_,own a' q_->q_<w.heap.size->(one b) q_)∧(∀q_,own a' q_->w.heap.size<=q_)∧(i<=ds.length)) (fun i=>ds.length-i) 0 ?_ ?_
 ·rw[show xs++Aq ds.length++(ds.take 0).flatMap A5=xs++Aq ds.length by simp]
  refine⟨_,_,⟨rfl,rfl,rfl,rfl,trivial⟩,K0,hb,a4,ai,ap,aq,?_⟩
  ·omega
 clear hb a4;clear K0;rintro i aL aM ⟨a',c',ak,K0,hb,a2,ar,aN,au,hi⟩ ih1;obtain⟨ρ₀,rfl⟩:=ak.ex;clear ak;refine jG ?_;refine jF ?_ ?_
 ·intro hc12
  have hfl:=D5 (f:=A5) (m:=27) (l:=ds.take i) fun x hx=>Lc (hds x (AbL hx));have htl:(ds.take i).length<=i:=Aba ..;obtain⟨aO,aP,d,hd,av,a6⟩:=hm.eo i;have hc_22_lt:=a6.lt;replace a6:=a6.keep K0 (hd0 _ av (HN hd));refine jG ?_;refine jR<|jA ?_;intro aQ aR a3 a1 ac;have aS:=Ak hb.lt a3;have aT:=Ak a6.lt a3;have aw:=An a2.oL a3;have:=Aaa K0.size a3;clear a3;refine jR<|jS a1 ?_;intro aU a1 ad;replace K0:=K0.ext ac;replace K0:=K0.n1 ad;refine jG ?_;have hnd:=hds d (I9 hd);obtain⟨⟨hn1,hn2⟩,⟨hn3,hn4⟩,hn5,hn6⟩:=hds d (I9 hd);have hz1:=Cq hnd.1.1 hnd.1.2;have hz2:=Cq hnd.2.1.1 hnd.2.1.2;refine Ai.drawS [10] [1000,1,1002,4,1005,7,1008,2003,2006,2009,2010] ?_;intro aV a7;replace hb:=((hb.ext ac).kp ad).ext a7;replace a1:=a1.ext a7;refine jM (jb hb (jb a1 Jn)) ?_;refine jG ?_;replace a2:=((a2.ext ac).kO ad (Aa aw)).ext a7;refine jU rfl<|jC (HF a' (xs++Aq ds.length++(ds.take i).flatMap A5) c' d.node _ a2.sl (by first|omega|(simp only[Aab,Aaj,Aar];omega)) Zo Zo) ?_;rintro _ aW ⟨ax,ay,rfl,az,aA,a8⟩;clear aA;replace hb:=hb.ext a8;replace a1:=a1.ext a8;refine jG ?_;refine jU rfl<|jC (HF ax ((xs++Aq ds.length++(ds.take i).flatMap A5)++Aq d.node.toNat) ay d.life _ az.sl (by first|omega|(simp only[Aab,Aaj,Aar];omega)) Zo Zo) ?_;rintro _ aX ⟨aB,aC,rfl,aD,aE,a9⟩;clear aE;replace hb:=hb.ext a9;replace a1:=a1.ext a9;refine jG ?_;refine jU rfl<|jC (HF aB (((xs++Aq ds.length++(ds.take i).flatMap A5)++Aq d.node.toNat)++Aq d.life.toNat) aC d.count _ aD.sl (by first|omega|(simp only[Aab,Aaj,Aar];omega)) Zo Zo) ?_;rintro _ aY ⟨ae,al,rfl,af,aa,ab⟩;have an:=Aw aa hb.lt;replace K0:=((K0.ext a7).ext a8).ext a9;have aF:∀q_,own ae q_->q_<w.heap.size->(one b) q_:=Hx K0.size aa;have aG:=Bd K0.size aa;clear aa;replace hb:=hb.ext ab;replace a1:=a1.ext ab;refine jG ?_;refine jU rfl<|AA.store (v:= .slice ae (((((xs++Aq ds.length++(ds.take i).flatMap A5)++Aq d.node.toNat)++Aq d.life.toNat)++Aq d.count.toNat).length) al) ty98 rfl rfl rfl Zv hb Zs ?_;intro aH hb_ ag;have hb':AB aH b [.slice ae (((((xs++Aq ds.length++(ds.take i).flatMap A5)++Aq d.node.toNat)++Aq d.life.toNat)++Aq d.count.toNat).length) al] 98:=hb_;clear hb_;replace K0:=K0.ext ab;replace K0:=K0.tf ag rfl;replace hb:=hb';clear hb';refine jG ?_;refine jV (Az (c:=((i+1:Nat):Int)) (Au rfl rfl Zo Zo) rfl) ?_;refine jG ?_;have e:xs++Aq ds.length++(ds.take (i+1)).flatMap A5=(((xs++Aq ds.length++(ds.take i).flatMap A5)++Aq d.node.toNat)++Aq d.life.toNat)++Aq d.count.toNat:=by rw[IB hd,A5];simp only[Aap]
  refine ih1 (i+1) _ _ ?_ Zo;rw[e];replace a2:=(((a2.ext a8).ext a9).ext ab).kO ag (Aa ar);replace af:=af.kO ag (Aa an);refine⟨_,_,⟨rfl,rfl,rfl,rfl,trivial⟩,K0,hb,af,an,aF,aG,?_⟩
  ·omega
 ·intro hc12
  refine jG ?_;refine Ai.fin0 func211 rfl ?_;have hie:i=ds.length:=by omega
  subst hie;have e_:xs++Aq ds.length++(ds.take ds.length).flatMap A5=xs++Gm ds:=by rw[Aas,Gm,Aap]
  rw[e_]at a2 hb;exact⟨_,rfl,a',c',rfl,hb,a2,au,K0⟩
theorem fV (a0:Option Addr)(xs:List UInt8)(c0:Nat)(am:Option Addr)(ms:List Ab)(cm:Nat)(ac:Option Addr)(cl:List Ag)(cc:Nat)(w:World)(hs0:Av w a0 xs)(hs:Av w am ms)(ht:Av w ac cl)(hX:Ew ms cl)(hl:xs.length<=65536):
  Calls prog 153 #[.slice a0 xs.length c0,.agg #[.slice am ms.length cm,.slice ac cl.length cc]] w (AN (fun v w'=>∃a' c',v= .tuple #[.slice a' (xs++Ds ms cl).length c',.int .i64 0]∧Af w' 5 a' c' (xs++Ds ms cl)∧(∀q,own a' q->w.heap.size<=q)∧Ap w w')):=by
 have hm64:=hX.1;have hc64:=hX.2.1;have hcan:=Gf hX;have hmm:∀d∈ms.map Ab.d,VQ d:=fun d hd=>by obtain⟨m,hm,rfl⟩:=List.mem_map.1 hd;exact(hX.may hm).nn
 have hmL:=Ld hmm (by rw[Aad];omega);have hml:(ms.map Ab.d).length=ms.length:=Aad ..;have hD:(xs++Gm (ms.map Ab.d)).length=xs.length+(Gm (ms.map Ab.d)).length:=Aab;refine Ac (n:=35) func153 rfl rfl rfl ?_;refine jG ?_;refine jR<|jB ?_;intro a2 aS aj a1 aB;have:w.heap.size<=a2:=aj;clear aj;have K0:=(aB:Ap w _);refine jR<|jB ?_;intro a6 aT ae a3 ak;have aU:=Ak a1.lt ae;have:=Aaa K0.size ae;clear ae;refine jG ?_;replace K0:=K0.ext ak;refine jR<|jC (UB am ms cm ac cl cc _ (hs.ext K0) (ht.ext K0) Zo Zo) ?_;rintro _ aC ⟨rfl,af⟩;refine jG ?_;replace a1:=(a1.ext ak).ext af;replace a3:=a3.ext af;replace K0:=K0.ext af;refine jF ?_ ?_
 ·intro hc12
  rw[hcan]at hc12;cases hc12
 ·intro hc12
  refine jG ?_;refine jV (CQ (a:=[]) (c:=[jp a2]) rfl rfl) ?_;refine jG ?_;refine Ai.loop (ι:=Nat) (fun i ρ' w'=>∃a':Option Addr,∃c':Nat,Holds ρ' [(2,jp a2),(3,jp a6),(6,.func (.func 211) #[] #[jp a2]),(7,.slice a' (((ms.take i).map Ab.d).length) c'),(15,.slice am ms.length cm),(16,.int .i64 ((ms.length:Nat):Int)),(17,.int .i64 ((i:Nat):Int))]∧Ap w w'∧(AB w' a2 [.slice a0 xs.length c0] 98)∧(AB w' a6 [.slice am ms.length cm,.slice ac cl.length cc] 31)∧(Af w' 73 a' c' ((ms.take i).map Ab.d))∧(¬own a' a2)∧(¬own a' a6)∧(∀q_,own a' q_->w.heap.size<=q_)∧(i<=ms.length)) (fun i=>ms.length-i) 0 ?_ ?_
  ·rw[show(ms.take 0).map Ab.d=[]by rfl]
   have aD:=Af.nil (α:=Ag) aC 73;refine⟨_,_,⟨rfl,rfl,rfl,rfl,rfl,rfl,rfl,trivial⟩,K0,a1,a3,aD,(Ae a2),(Ae a6),(fun q_ h1=>absurd h1 (Ae q_)),?_⟩
   ·omega
  clear a1 a3;clear K0;rintro i aV aW ⟨a',c',al,K0,a1,a3,a4,ag,an,ao,hi⟩ ih1;obtain⟨ρ₀,rfl⟩:=al.ex;clear al;refine jG ?_;refine jF ?_ ?_
  ·intro hc18
   obtain⟨aX,aY,m,hm,aZ,a7⟩:=hs.eo i;have hc_25_lt:=a7.lt;replace a7:=a7.ext K0;refine jG ?_;refine jR<|jA ?_;intro b0 b1 a5 ap a8;have b2:=Ak a1.lt a5;have b3:=Ak a3.lt a5;have b4:=Ak a7.lt a5;have aE:=An a4.oL a5;have:=Aaa K0.size a5;clear a5;refine jR<|jS ap ?_;intro b5 ap a9;have htl:((ms.take i).map Ab.d).length<=i:=by rw[Aad];exact Aba ..
   refine jG ?_;refine jR<|jC (HV m _) ?_;rintro _ b6 ⟨rfl,aa⟩;refine jR<|AA.buildSlice ([(Ab.d m)]:List Ag) underlying29 ty73 rfl rfl Ze ?_;intro b7 b8 aF aG ab;clear aF;replace a4:=(((a4.ext a8).kO a9 (Aa aE)).ext aa).ext ab;refine jR<|AA.append (xs:=(ms.take i).map Ab.d) (ys:=([(Ab.d m)]:List Ag)) underlying29 ty73 rfl rfl rfl a4 aG.sl Zr Zd ?_;intro ah b9 ba aH ai ad aI;replace a1:=(((a1.ext a8).kp a9).ext aa).ext ab;have aJ:¬own ah a2:=ad.not ag a1.lt;replace a3:=(((a3.ext a8).kp a9).ext aa).ext ab;have aK:¬own ah a6:=ad.not an a3.lt;replace K0:=(((K0.ext a8).n1 a9).ext aa).ext ab;have aL:∀q_,own ah q_->w.heap.size<=q_:=ad.ge ao K0.size;clear ad;clear aI;refine jG ?_;refine jV (Az (c:=((i+1:Nat):Int)) (Au rfl rfl Zo Zo) rfl) ?_;refine jG ?_;have e:=Vf (f:=Ab.d) hm;refine ih1 (i+1) _ _ ?_ Zo;rw[e];replace a1:=a1.keep ai ag;replace a3:=a3.keep ai an;replace K0:=K0.new ai ao;refine⟨_,_,⟨rfl,rfl,rfl,rfl,rfl,rfl,rfl,trivial⟩,K0,a1,a3,aH,aJ,aK,aL,?_⟩
   ·omega
  ·intro hc18
   have hie:i=ms.length:=by omega
   subst hie;rw[Aas]at a4⊢;refine jG ?_;refine jR<|AA.callV (vals:=[.slice a' ((ms.map Ab.d).length) c',jp a2]) en211.h rfl rfl (Ro a' (ms.map Ab.d) c' a2 a0 xs c0 _ a4.sl a1 (hs0.ext K0) (fun q_ e_ _ h_=>by simp only[one]at h_;exact ag ⟨q_,e_,by first|exact h_|exact h_.symm⟩) hmm Zo (by first|omega|(simp only[Aab];omega))) ?_;rintro _ aM ⟨aq,ar,rfl,au,aN,aO,av⟩;clear aO;replace a1:AB aM a2 [.slice aq ((xs++Gm (ms.map Ab.d)).length) ar] 98:=au;clear au;replace a3:=a3.kp av;refine jG ?_;replace K0:=K0.n1 av;refine jR<|AA.callV (vals:=[.slice ac cl.length cc,jp a2]) en211.h rfl rfl (Ro ac cl cc a2 aq (xs++Gm (ms.map Ab.d)) ar _ (ht.ext K0) a1 aN.sl (fun q_ e_ n_ h_=>absurd (EG ht n_ ⟨q_,e_,rfl⟩) (by simp only[one]at h_;omega)) (fun d hd=>(hX.mayC hd).nn) Zo (by first|omega|(simp only[Aab];omega))) ?_;rintro _ aP ⟨aw,ax,rfl,ay,az,aA,aQ⟩;have aR:=Bd K0.size aA;clear aA;replace a1:AB aP a2 [.slice aw (((xs++Gm (ms.map Ab.d))++Gm cl).length) ax] 98:=ay;clear ay;refine jG ?_;refine jK func153 ?_;have e_:xs++Gm (ms.map Ab.d)++Gm cl=xs++Ds ms cl:=by rw[Ds,Aap]
   rw[e_]at az⊢;replace K0:=K0.n1 aQ;exact⟨_,rfl,aw,ax,rfl,az,aR,K0⟩
theorem YJ (am:Option Addr)(ms:List Ab)(cm:Nat)(ac:Option Addr)(cl:List Ag)(cc:Nat)(ae:Option Addr)(es:List Aj)(ce:Nat)(w:World)(hcap:es.length<=ce)(hs:Av w am ms)(ht:Av w ac cl)(hse:Av w ae es)(hl:ms.length<=4294967295)(hl2:cl.length<=4294967295)(hl3:es.length<=4294967295)(hb:Fr es)(hcan0:Br ms cl es=0):Calls prog 35 #[.agg #[.slice ae es.length ce,.slice am ms.length cm,.slice ac cl.length cc]] w (AN fun v w'=>v= .int .i64 0∧Ap w w'):=by
 have h:=Rk am ms cm ac cl cc ae es ce w hcap hs ht hse hl hl2 hl3 hb
 rwa[hcan0]at h
theorem fW (am:Option Addr)(ms:List Ab)(cm:Nat)(ac:Option Addr)(cl:List Ag)(cc:Nat)(ae:Option Addr)(es:List Aj)(ce:Nat)(w:World)(hcap:es.length<=ce)(hs:Av w am ms)(ht:Av w ac cl)(hse:Av w ae es)(hl:ms.length<=4294967295)(hl2:cl.length<=4294967295)(hl3:es.length<=4294967295)(hb:Fr es)(hcan0:Br ms cl es=0):
  Calls prog 87 #[.agg #[.slice ae es.length ce,.slice am ms.length cm,.slice ac cl.length cc]] w (AN (fun v w'=>∃a' c',v= .tuple #[.slice a' (Lb es++Ds ms cl).length c',.int .i64 0]∧Af w' 5 a' c' (Lb es++Ds ms cl)∧(∀q,own a' q->w.heap.size<=q)∧Ap w w')):=by
 have hC:=Fq hcan0;have h64:=hC.len;have hv9:=A6 (n:=es.length) Zo
 have hen:∀x∈es,entN x:=fun x hx=>by
  obtain⟨j,hj⟩:=Abn hx;exact(hC.ent j x hj).entN hC.ctx (hb x hx).1
 refine Ac (n:=72) func87 rfl rfl rfl ?_;refine jG ?_;refine jR<|jB ?_;intro ag bQ aD a0 aZ;have:w.heap.size<=ag:=aD;clear aD;have K0:=(aZ:Ap w _);refine jG ?_;refine jR<|jC (YJ am ms cm ac cl cc ae es ce _ hcap (hs.ext K0) (ht.ext K0) (hse.ext K0) Zo Zo Zo hb hcan0) ?_;rintro _ bR ⟨rfl,aE⟩;refine jG ?_;refine Ai.condF rfl ?_;replace a0:=a0.ext aE;refine jG ?_;refine jR<|jC (R8 none ([]:List UInt8) 0 es.length _ (Av.nil _ _) (Aal _) Zo) ?_;rintro _ bS ⟨bT,bU,rfl,aF,ax,aG⟩;have b0:=Aw ax a0.lt;replace K0:=K0.ext aE;have b1:=Bd K0.size ax;clear ax;replace a0:=a0.ext aG;refine jG ?_;replace K0:=K0.ext aG;refine Ai.loop (ι:=Nat) (fun i ρ' w'=>∃a':Option Addr,∃c':Nat,Holds ρ' [(1,jp ag),(5,.slice a' ((([]:List UInt8)++Aq es.length++(es.take i).flatMap AK).length) c'),(21,.slice ae es.length ce),(22,.int .i64 ((es.length:Nat):Int)),(23,.int .i64 ((i:Nat):Int))]∧Ap w w'∧(AB w' ag [.slice ae es.length ce,.slice am ms.length cm,.slice ac cl.length cc] 33)∧(Af w' 5 a' c' (([]:List UInt8)++Aq es.length++(es.take i).flatMap AK))∧(¬own a' ag)∧(∀q_,own a' q_->w.heap.size<=q_)∧(i<=es.length)) (fun i=>es.length-i) 0 ?_ ?_
 ·rw[show([]:List UInt8)++Aq es.length++(es.take 0).flatMap AK=([]:List UInt8)++Aq es.length by simp]
  refine⟨_,_,⟨rfl,rfl,rfl,rfl,rfl,trivial⟩,K0,a0,aF,b0,b1,?_⟩
  ·omega
 clear a0 aF;clear K0;rintro i bV bW ⟨a',c',aH,K0,a0,a2,bX,bY,hi⟩ ih1;obtain⟨ρ₀,rfl⟩:=aH.ex;clear aH;refine jG ?_;refine jF ?_ ?_
 ·intro hc24
  obtain⟨bZ,c0,x,hx,c1,an⟩:=hse.eo i;have hc_25_lt:=an.lt;replace an:=an.ext K0;refine jG ?_;refine jR<|jA ?_;intro ao c2 ak a3 ay;have c3:=Ak a0.lt ak;have c4:=Ak an.lt ak;have b2:=An a2.oL ak;have:=Aaa K0.size ak;clear ak;refine jR<|jS a3 ?_;intro c5 a3 az;obtain⟨⟨⟨hn1,hn2⟩,⟨hn3,hn4⟩,hn5,hn6⟩,⟨hq1,hq2⟩,⟨hp1,hp2⟩,hi32⟩:=hen x (I9 hx);have hz1:=Cq hn1 hn2;have hz2:=Cq hn3 hn4;have hz3:=Cq hn5 hn6;have hz4:=Cq hq1 hq2;have hfl:=D5 (f:=AK) (m:=85) (l:=es.take i) fun y hy=>HY (hen y (AbL hy));have htl:(es.take i).length<=i:=Aba ..;replace a0:=(a0.ext ay).kp az;replace a2:=(a2.ext ay).kO az (Aa b2);replace K0:=(K0.ext ay).n1 az
  have hti:(AW x.item).length<=41:=by
   have h7:x.item.data.toList.length=x.item.size:=by rw[Aay];rfl
   have h5:=A6 (n:=x.item.size) Zo;simp only[AW,Aab,h7];omega
  refine jG ?_;refine jR<|jC (My a' (([]:List UInt8)++Aq es.length++(es.take i).flatMap AK) c' x.item _ a2.sl (by first|omega|(simp only[Aab,Aaj,Aar];omega)) Zo) ?_;rintro _ c6 ⟨ap,aI,rfl,a4,b3,aq⟩;clear b3;replace a3:=a3.ext aq;refine jG ?_;refine jR<|AA.buildSlice ([x.dot.node,x.dot.life,x.dot.count,x.qty]:List Int) underlying185 ty3 rfl rfl Ze ?_;intro aA c7 b4 a1 al;clear b4;refine jV (Az (c:=4) (Cw underlying185 rfl) rfl) ?_;refine jG ?_;refine Ai.unloop ?_;refine jG ?_;refine C4 ?_;refine El ?_;obtain⟨c8,c9,b5,b6,b7,b8⟩:=a1.sl.el (i:=0) Zs;obtain rfl:x.dot.node=b5:=Option.some.inj b6;refine jV (AS underlying185 ty3 rfl rfl b7 Zs) ?_;refine jV (BQ (v:= .int .i64 x.dot.node) (y:=x.dot.node) ty3 rfl b8 rfl) ?_;refine jG ?_;replace a4:=a4.ext al;refine jR<|jC (HF ap ((([]:List UInt8)++Aq es.length++(es.take i).flatMap AK)++AW x.item) aI x.dot.node _ a4.sl (by first|omega|(simp only[Aab,Aaj,Aar];omega)) Zo Zo) ?_;rintro _ ca ⟨ar,aJ,rfl,a5,b9,aj⟩;clear b9;refine jG ?_;refine jV (Az (c:=1) (Au rfl rfl Zd Zd) Zd) ?_;refine jG ?_;refine Ai.inLoop ?_;refine jG ?_;refine C4 ?_;refine El ?_;replace a1:=a1.ext aj;obtain⟨cb,cd,ba,bb,bc,be⟩:=a1.sl.el (i:=1) Zs;obtain rfl:x.dot.life=ba:=Option.some.inj bb;refine jV (AS underlying185 ty3 rfl rfl bc Zs) ?_;refine jV (BQ (v:= .int .i64 x.dot.life) (y:=x.dot.life) ty3 rfl be rfl) ?_;refine jG ?_;refine jR<|jC (HF ar (((([]:List UInt8)++Aq es.length++(es.take i).flatMap AK)++AW x.item)++Aq x.dot.node.toNat) aJ x.dot.life _ a5.sl (by first|omega|(simp only[Aab,Aaj,Aar];omega)) Zo Zo) ?_;rintro _ cf ⟨au,aK,rfl,a6,bg,ai⟩;clear bg;refine jG ?_;refine jV (Az (c:=2) (Au rfl rfl Zd Zd) Zd) ?_;refine jG ?_;refine Ai.inLoop ?_;refine jG ?_;refine C4 ?_;refine El ?_;replace a1:=a1.ext ai;obtain⟨cg,ch,bh,bi,bj,bk⟩:=a1.sl.el (i:=2) Zs;obtain rfl:x.dot.count=bh:=Option.some.inj bi;refine jV (AS underlying185 ty3 rfl rfl bj Zs) ?_;refine jV (BQ (v:= .int .i64 x.dot.count) (y:=x.dot.count) ty3 rfl bk rfl) ?_;refine jG ?_;refine jR<|jC (HF au ((((([]:List UInt8)++Aq es.length++(es.take i).flatMap AK)++AW x.item)++Aq x.dot.node.toNat)++Aq x.dot.life.toNat) aK x.dot.count _ a6.sl (by first|omega|(simp only[Aab,Aaj,Aar];omega)) Zo Zo) ?_;rintro _ ci ⟨av,aL,rfl,a7,bl,ah⟩;clear bl;refine jG ?_;refine jV (Az (c:=3) (Au rfl rfl Zd Zd) Zd) ?_;refine jG ?_;refine Ai.inLoop ?_;refine jG ?_;refine C4 ?_;refine El ?_;replace a1:=a1.ext ah;obtain⟨cj,ck,bm,bn,bo,bp⟩:=a1.sl.el (i:=3) Zs;obtain rfl:x.qty=bm:=Option.some.inj bn;refine jV (AS underlying185 ty3 rfl rfl bo Zs) ?_;refine jV (BQ (v:= .int .i64 x.qty) (y:=x.qty) ty3 rfl bp rfl) ?_;refine jG ?_;refine jR<|jC (HF av (((((([]:List UInt8)++Aq es.length++(es.take i).flatMap AK)++AW x.item)++Aq x.dot.node.toNat)++Aq x.dot.life.toNat)++Aq x.dot.count.toNat) aL x.qty _ a7.sl (by first|omega|(simp only[Aab,Aaj,Aar];omega)) Zo Zo) ?_;rintro _ cn ⟨co,cp,rfl,aM,a8,ab⟩;replace a0:=((((a0.ext aq).ext al).ext aj).ext ai).ext ah;have bq:=Aw a8 a0.lt;replace a2:=((((a2.ext aq).ext al).ext aj).ext ai).ext ah;have bs:=Ah a8 a2.oL;replace a3:=(((a3.ext al).ext aj).ext ai).ext ah
  have bt:=Aw a8 a3.lt;replace a4:=((a4.ext aj).ext ai).ext ah;have bu:=Ah a8 a4.oL;have bv:=Ah a8 a1.oL;replace a5:=(a5.ext ai).ext ah;have bw:=Ah a8 a5.oL;replace a6:=a6.ext ah;have bx:=Ah a8 a6.oL;have bz:=Ah a8 a7.oL;replace K0:=((((K0.ext aq).ext al).ext aj).ext ai).ext ah;have bA:=Bd K0.size a8;clear a8;refine jG ?_;refine jV (Az (c:=4) (Au rfl rfl Zd Zd) Zd) ?_;refine jG ?_;refine Ai.inLoop ?_;refine jG ?_;refine Ai.condF rfl ?_;refine jG ?_;replace a0:=a0.ext ab;replace a2:=a2.ext ab;replace a3:=a3.ext ab;replace a4:=a4.ext ab;replace a1:=a1.ext ab;replace a5:=a5.ext ab;replace a6:=a6.ext ab;replace a7:=a7.ext ab;replace K0:=K0.ext ab;refine Ai.loop (ι:=Nat) (fun k ρ' w'=>∃a'':Option Addr,∃c'':Nat,Holds ρ' [(1,jp ag),(5,.slice a'' ((((((((([]:List UInt8)++Aq es.length++(es.take i).flatMap AK)++AW x.item)++Aq x.dot.node.toNat)++Aq x.dot.life.toNat)++Aq x.dot.count.toNat)++Aq x.qty.toNat)++EM x.price.toNat k).length) c''),(7,jp ao),(21,.slice ae es.length ce),(22,.int .i64 ((es.length:Nat):Int)),(23,.int .i64 ((i:Nat):Int)),(24,.bool (decide (((i:Nat):Int)<((es.length:Nat):Int)))),(52,.int .i64 ((k:Nat):Int))]∧Ap w w'∧(AB w' ag [.slice ae es.length ce,.slice am ms.length cm,.slice ac cl.length cc] 33)∧(AB w' ao [.string x.item,.int .i64 x.dot.node,.int .i64 x.dot.life,.int .i64 x.dot.count,.int .i64 x.qty,.int .u64 x.price] 76)∧(Af w' 5 a' c' (([]:List UInt8)++Aq es.length++(es.take i).flatMap AK))∧(Af w' 5 ap aI ((([]:List UInt8)++Aq es.length++(es.take i).flatMap AK)++AW x.item))∧(Af w' 3 (some ⟨aA,0,none⟩) (([x.dot.node,x.dot.life,x.dot.count,x.qty]:List Int).length) ([x.dot.node,x.dot.life,x.dot.count,x.qty]:List Int))∧(Af w' 5 ar aJ (((([]:List UInt8)++Aq es.length++(es.take i).flatMap AK)++AW x.item)++Aq x.dot.node.toNat))∧(Af w' 5 au aK ((((([]:List UInt8)++Aq es.length++(es.take i).flatMap AK)++AW x.item)++Aq x.dot.node.toNat)++Aq x.dot.life.toNat))∧(Af w' 5 av aL (((((([]:List UInt8)++Aq es.length++(es.take i).flatMap AK)++AW x.item)++Aq x.dot.node.toNat)++Aq x.dot.life.toNat)++Aq x.dot.count.toNat))∧(Af w' 5 a'' c'' (((((((([]:List UInt8)++Aq es.length++(es.take i).flatMap AK)++AW x.item)++Aq x.dot.node.toNat)++Aq x.dot.life.toNat)++Aq x.dot.count.toNat)++Aq x.qty.toNat)++EM x.price.toNat k))∧(¬own a'' ag)∧(¬own a'' ao)∧(∀q_,own a'' q_->¬own a' q_)∧(∀q_,own a'' q_->¬own ap q_)∧(∀q_,own a'' q_->¬own (some ⟨aA,0,none⟩) q_)∧(∀q_,own a'' q_->¬own ar q_)∧(∀q_,own a'' q_->¬own au q_)∧(∀q_,own a'' q_->¬own av q_)∧(∀q_,own a'' q_->w.heap.size<=q_)∧(k<=8)) (fun k=>8-k) 0 ?_ ?_
  ·rw[show((((((([]:List UInt8)++Aq es.length++(es.take i).flatMap AK)++AW x.item)++Aq x.dot.node.toNat)++Aq x.dot.life.toNat)++Aq x.dot.count.toNat)++Aq x.qty.toNat)++EM x.price.toNat 0=(((((([]:List UInt8)++Aq es.length++(es.take i).flatMap AK)++AW x.item)++Aq x.dot.node.toNat)++Aq x.dot.life.toNat)++Aq x.dot.count.toNat)++Aq x.qty.toNat by rw[Vg,Aaw]]
   refine⟨_,_,⟨rfl,rfl,rfl,rfl,rfl,rfl,rfl,rfl,trivial⟩,K0,a0,a3,a2,a4,a1,a5,a6,a7,aM,bq,bt,bs,bu,bv,bw,bx,bz,bA,?_⟩
   ·omega
  clear a0 a2 a3 a4 a1 a5 a6 a7 aM;clear K0;rintro k cq cr ⟨a'',c'',aN,K0,a0,a3,a2,a4,a1,a5,a6,a7,aw,aB,aO,aP,aQ,aR,aS,aT,aU,aC,hk⟩ ih3;obtain⟨ρ₀,rfl⟩:=aN.ex;clear aN;refine jG ?_;refine jF ?_ ?_
  ·intro hc53
   have hll:=IA x.price.toNat k;refine H7 ?_;refine jV (Az (c:=((x.price.toNat:Nat):Int)) (HI ty74 rfl rfl (a3.cl.field (i:=5) rfl)) Zo) ?_;refine jG ?_;refine jV (Az (c:=((8*k:Nat):Int)) (Qx rfl rfl Zo Zo) rfl) ?_;refine jV (TC (kd:= .u64) (a:=x.price.toNat) (b:=8*k) rfl rfl (by show 8*k<=64;omega)) ?_;refine jV (EA (a:=x.price.toNat/2^(8*k)) rfl ⟨_,underlying74⟩ underlying5) ?_;refine jR<|AA.buildSlice ([UInt8.ofNat (x.price.toNat/2^(8*k))]:List UInt8) underlying98 ty5 rfl rfl Ze ?_;intro cs ct bB bC a9;clear bB;replace aw:=aw.ext a9;refine jR<|AA.append (xs:=((((((([]:List UInt8)++Aq es.length++(es.take i).flatMap AK)++AW x.item)++Aq x.dot.node.toNat)++Aq x.dot.life.toNat)++Aq x.dot.count.toNat)++Aq x.qty.toNat)++EM x.price.toNat k) (ys:=([UInt8.ofNat (x.price.toNat/2^(8*k))]:List UInt8)) underlying98 ty5 rfl rfl rfl aw bC.sl Zr Zd ?_;intro ad cu cw bD af aa bE;replace a0:=a0.ext a9;have bF:¬own ad ag:=aa.not aB a0.lt;replace a3:=a3.ext a9;have bG:¬own ad ao:=aa.not aO a3.lt;replace a2:=a2.ext a9;have bH:∀q_,own ad q_->¬own a' q_:=aa.apart aP a2.oL;replace a4:=a4.ext a9;have bI:∀q_,own ad q_->¬own ap q_:=aa.apart aQ a4.oL;replace a1:=a1.ext a9;have bJ:∀q_,own ad q_->¬own (some ⟨aA,0,none⟩) q_:=aa.apart aR a1.oL;replace a5:=a5.ext a9;have bK:∀q_,own ad q_->¬own ar q_:=aa.apart aS a5.oL;replace a6:=a6.ext a9;have bL:∀q_,own ad q_->¬own au q_:=aa.apart aT a6.oL;replace a7:=a7.ext a9;have bM:∀q_,own ad q_->¬own av q_:=aa.apart aU a7.oL;replace K0:=K0.ext a9;have bN:∀q_,own ad q_->w.heap.size<=q_:=aa.ge aC K0.size;clear aa;clear bE;refine jG ?_;refine jV (Az (c:=((k+1:Nat):Int)) (Au rfl rfl Zo Zo) rfl) ?_;refine jG ?_;have e:((((((([]:List UInt8)++Aq es.length++(es.take i).flatMap AK)++AW x.item)++Aq x.dot.node.toNat)++Aq x.dot.life.toNat)++Aq x.dot.count.toNat)++Aq x.qty.toNat)++EM x.price.toNat (k+1)=(((((((([]:List UInt8)++Aq es.length++(es.take i).flatMap AK)++AW x.item)++Aq x.dot.node.toNat)++Aq x.dot.life.toNat)++Aq x.dot.count.toNat)++Aq x.qty.toNat)++EM x.price.toNat k)++[UInt8.ofNat (x.price.toNat/2^(8*k))]:=by rw[OK];simp only[Aap]
   refine ih3 (k+1) _ _ ?_ Zo;rw[e];replace a0:=a0.keep af aB;replace a3:=a3.keep af aO;replace a2:=a2.kO af (Zf aP);replace a4:=a4.kO af (Zf aQ);replace a1:=a1.kO af (Zf aR);replace a5:=a5.kO af (Zf aS);replace a6:=a6.kO af (Zf aT);replace a7:=a7.kO af (Zf aU);replace K0:=K0.new af aC;refine⟨_,_,⟨rfl,rfl,rfl,rfl,rfl,rfl,rfl,rfl,trivial⟩,K0,a0,a3,a2,a4,a1,a5,a6,a7,bD,bF,bG,bH,bI,bJ,bK,bL,bM,bN,?_⟩
   ·omega
  ·intro hc53
   refine jG ?_;refine jV (Az (c:=((i+1:Nat):Int)) (Au rfl rfl Zo Zo) rfl) ?_;refine jG ?_;have hk8:k=8:=by omega
   subst hk8;have e:([]:List UInt8)++Aq es.length++(es.take (i+1)).flatMap AK=((((((([]:List UInt8)++Aq es.length++(es.take i).flatMap AK)++AW x.item)++Aq x.dot.node.toNat)++Aq x.dot.life.toNat)++Aq x.dot.count.toNat)++Aq x.qty.toNat)++EM x.price.toNat 8:=by rw[IB hx,AK];simp only[Aap]
   refine ih1 (i+1) _ _ ?_ Zo;rw[e];refine⟨_,_,⟨rfl,rfl,rfl,rfl,rfl,trivial⟩,K0,a0,aw,aB,aC,?_⟩
   ·omega
 ·intro hc24
  have hfl:=D5 (f:=AK) (m:=85) (l:=es.take i) fun y hy=>HY (hen y (AbL hy));have htl:(es.take i).length<=i:=Aba ..;refine jG ?_;refine jR<|jC (fV a' (([]:List UInt8)++Aq es.length++(es.take i).flatMap AK) c' am ms cm ac cl cc _ a2.sl (hs.ext K0) (ht.ext K0) hC.ctx (by first|omega|(simp only[Aab,Aaj,Aar];omega))) ?_;rintro _ cx ⟨aV,aW,rfl,aX,aY,bO⟩;have bP:=Bd K0.size aY;clear aY;refine jG ?_;refine Ai.ret2 (v:= .slice aV (((([]:List UInt8)++Aq es.length++(es.take i).flatMap AK)++Ds ms cl).length) aW) (x:= .int .i64 0) func87 rfl rfl rfl ?_;have hie:i=es.length:=by omega
  subst hie;have e_:(([]:List UInt8)++Aq es.length++(es.take es.length).flatMap AK)++Ds ms cl=Lb es++Ds ms cl:=by rw[Aas,Lb,Aaz]
  rw[e_]at aX⊢;replace K0:=K0.ext bO;exact⟨_,rfl,aV,aW,rfl,aX,bP,K0⟩
end
section
attribute [local irreducible] A5 EM AW AK
structure Bl (v:MV)(s:Ge):Prop where
 ok:JT v
 ent:Fr v.ent
 cap:v.ent.length<=s.ec
section
variable {ms ms2:List Ab}{cl cl2:List Ag}{es es2:List Aj}
theorem SM (h:(AU ms cl ms2 cl2).1=0):Ew (AU ms cl ms2 cl2).2.1 (AU ms cl ms2 cl2).2.2:=by
 by_cases hc:BK ms cl=true∧BK ms2 cl2=true
 ·have hA:=Fj.1 hc.1
  have hB:=Fj.1 hc.2
  have hM:∀m∈ms++ms2,AC m.d:=fun m hm=>(List.mem_append.1 hm).elim (fun h=>hA.may h) (fun h=>hB.may h)
  have hD:∀d∈cl++cl2,AC d:=fun d hd=>(List.mem_append.1 hd).elim (fun h=>hA.mayC h) (fun h=>hB.mayC h)
  have hp:=Rb hM hD
  obtain⟨hcn,hcv⟩:=HX hp.1 hp.2
  rw[Gg hc.1 hc.2]at h⊢
  by_cases hl:64<(Cg (ms++ms2) (cl++cl2)).1.length∨64<(Cg (ms++ms2) (cl++cl2)).2.length
  ·rw[(Gh hM hD).1 hl]at h;exact absurd h Zd
  ·rw[(Gh hM hD).2 hl]
   have hmay:=hcn.may (fun d hd=>by
    obtain⟨h1,h2⟩:=(hcv d).1 hd
    rcases h2 with⟨m,hm,ha,hle⟩|h2
    ·have:=hM m hm
     simp only[AC,Ab.d,Ag.a,AT.mk.injEq]at*
     omega
    ·exact hD d h2)
   exact hcn.can Zo Zo hmay.1 hmay.2
 ·rw[Ou hc]at h;exact absurd h Zd
theorem PX (h:(BN ms cl es ms2 cl2 es2).1=0):(AU ms cl ms2 cl2).1=0∧(BN ms cl es ms2 cl2 es2).2.1=(AU ms cl ms2 cl2).2:=by
 by_cases h1:Br ms cl es=0
 ·by_cases h2:Br ms2 cl2 es2=0
  ·by_cases h3:(AU ms cl ms2 cl2).1=0
   ·by_cases h4:64<(B2 ms cl es ms2 cl2 es2).length∨32<itemsN (B2 ms cl es ms2 cl2 es2)
    ·rw[J0 h1 h2 h3 h4]at h;exact absurd h Zd
    ·by_cases h5:GM es es2
     ·rw[J1 h1 h2 h3 h4 h5]at h;exact absurd h Zd
     ·rw[Ix h1 h2 h3 h4 h5];exact⟨h3,rfl⟩
   ·rw[JZ h1 h2 h3]at h;exact absurd h h3
  ·rw[JY h1 h2]at h;exact absurd h h2
 ·rw[JX h1]at h;exact absurd h h1
theorem joinC_lens :(BN ms cl es ms2 cl2 es2).2.1.1.length<=64∧(BN ms cl es ms2 cl2 es2).2.1.2.length<=64:=by
 by_cases h1:Br ms cl es=0
 ·by_cases h2:Br ms2 cl2 es2=0
  ·by_cases h3:(AU ms cl ms2 cl2).1=0
   ·by_cases h4:64<(B2 ms cl es ms2 cl2 es2).length∨32<itemsN (B2 ms cl es ms2 cl2 es2)
    ·rw[J0 h1 h2 h3 h4];exact⟨Aal _,Aal _⟩
    ·by_cases h5:GM es es2
     ·rw[J1 h1 h2 h3 h4 h5];exact⟨Aal _,Aal _⟩
     ·rw[Ix h1 h2 h3 h4 h5];exact I8
   ·rw[JZ h1 h2 h3];exact⟨Aal _,Aal _⟩
  ·rw[JY h1 h2];exact⟨Aal _,Aal _⟩
 ·rw[JX h1];exact⟨Aal _,Aal _⟩
end
noncomputable def HG (a b:MV):Int:=(BN a.mrk a.cl a.ent b.mrk b.cl b.ent).1
noncomputable def CC (a b:MV):MV:={nilV with ent:=(BN a.mrk a.cl a.ent b.mrk b.cl b.ent).2.2,mrk:=(BN a.mrk a.cl a.ent b.mrk b.cl b.ent).2.1.1,cl:=(BN a.mrk a.cl a.ent b.mrk b.cl b.ent).2.1.2}
noncomputable def EJ (a:MV):Int:=Br a.mrk a.cl a.ent
def fX (a:MV):Prop:=Ew a.mrk a.cl
theorem SN {a b:MV}(h:HG a b=0):fX (CC a b):=by
 obtain⟨h1,h2⟩:=PX h
 show Ew (BN a.mrk a.cl a.ent b.mrk b.cl b.ent).2.1.1 (BN a.mrk a.cl a.ent b.mrk b.cl b.ent).2.1.2
 rw[h2];exact SM h1
theorem Vh {w:World}{a b:MV}{s:Ge}(ha:Fr a.ent)(hb:Fr b.ent)(h:Dr w s (CC a b)):Bl (CC a b) s:=
 ⟨⟨by have:(CC a b).ent.length<=64:=joinC_len;omega,by have:(CC a b).mrk.length<=64:=joinC_lens.1;omega,by have:(CC a b).cl.length<=64:=joinC_lens.2;omega,Aal _,Aal _,Aal _⟩,Fr.kept ha hb,h.ent.le_cap⟩
theorem fX.nil :fX nilV:=⟨Aal _,Aal _,fun i m h=>by simp[nilV]at h,fun i m h=>by simp[nilV]at h⟩
theorem Vi (v:MV)(s:Ge)(w:World)(hR:Bf w s v)(ho:Bl v s):Calls prog 35 #[.agg #[.slice s.ea v.ent.length s.ec,.slice s.ma v.mrk.length s.mc,.slice s.ca v.cl.length s.cc]] w (AN fun r w'=>r= .int .i64 (EJ v)∧Ap w w'):=by
 unfold EJ
 exact Rk s.ma v.mrk s.mc s.ca v.cl s.cc s.ea v.ent s.ec w ho.cap hR.mrk hR.cl hR.ent ho.ok.mrk ho.ok.cl ho.ok.ent ho.ent
theorem YK (a b:MV)(s t:Ge)(w:World)(hA:Bf w s a)(hB:Bf w t b)(hoa:Bl a s)(hob:Bl b t):Calls prog 83 #[.agg #[.slice s.ea a.ent.length s.ec,.slice s.ma a.mrk.length s.mc,.slice s.ca a.cl.length s.cc],.agg #[.slice t.ea b.ent.length t.ec,.slice t.ma b.mrk.length t.mc,.slice t.ca b.cl.length t.cc]] w (AN fun r w'=>∃s',r= .tuple #[.agg #[.slice (((CN (CC a b) s').cart).entries.a) (((CN (CC a b) s').cart).entries.len) (((CN (CC a b) s').cart).entries.cap),.slice ((((CN (CC a b) s').cart).ctx).marks.a) ((((CN (CC a b) s').cart).ctx).marks.len) ((((CN (CC a b) s').cart).ctx).marks.cap),.slice ((((CN (CC a b) s').cart).ctx).cloud.a) ((((CN (CC a b) s').cart).ctx).cloud.len) ((((CN (CC a b) s').cart).ctx).cloud.cap)],.int .i64 (HG a b)]∧Dr w' s' (CC a b)∧Iy s'∧(∀q,En s' q->w.heap.size<=q)∧Ap w w'):=by
 refine(YI s.ma a.mrk s.mc s.ca a.cl s.cc s.ea a.ent s.ec t.ma b.mrk t.mc t.ca b.cl t.cc t.ea b.ent t.ec w hoa.cap hob.cap hA.mrk hA.cl hA.ent hB.mrk hB.cl hB.ent hoa.ok.mrk hoa.ok.cl hoa.ok.ent hob.ok.mrk hob.ok.cl hob.ok.ent hoa.ent hob.ent).mono ?_
 rintro e_ w_ ⟨r_,h1,ae,ce,am,cm,ac,cc,hv,he,hm,hc,a1,a2,a3,g1,g2,g3,K⟩
 refine⟨r_,h1,⟨ae,ce,am,cm,ac,cc,none,0,none,0,none,0⟩,?_,?_,⟨a1,a2,a3⟩,?_,K⟩
 ·rw[hv];unfold CC HG;rfl
 ·unfold CC;exact⟨he,hm,hc⟩
 ·rintro q (h|h|h)
  ·exact g1 q h
  ·exact g2 q h
  ·exact g3 q h
def Cy (v:MV):List UInt8:=Lb v.ent++Ds v.mrk v.cl
def DT (key:ByteArray)(v:MV):List UInt8:=([UInt8.ofNat 2]:List UInt8)++AW key++Cy v
theorem fY (v:MV)(s:Ge)(w:World)(hR:Bf w s v)(ho:Bl v s)(hc:EJ v=0):Calls prog 87 #[.agg #[.slice s.ea v.ent.length s.ec,.slice s.ma v.mrk.length s.mc,.slice s.ca v.cl.length s.cc]] w (AN fun r w'=>∃a' c',r= .tuple #[.slice a' (Cy v).length c',.int .i64 0]∧Af w' 5 a' c' (Cy v)∧(∀q,own a' q->w.heap.size<=q)∧Ap w w'):=
 fW s.ma v.mrk s.mc s.ca v.cl s.cc s.ea v.ent s.ec w ho.cap hR.mrk hR.cl hR.ent ho.ok.mrk ho.ok.cl ho.ok.ent ho.ent hc
theorem Hb {v:MV}(hb:Fr v.ent)(hc:EJ v=0):(Cy v).length<=9000:=by
 have hC:=Fq hc
 have h64:=hC.len
 have hen:∀x∈v.ent,entN x:=fun x hx=>by
  obtain⟨j,hj⟩:=Abn hx
  exact(hC.ent j x hj).entN hC.ctx (hb x hx).1
 have h1:=A6 (n:=v.ent.length) Zo
 have h2:=D5 (f:=AK) (m:=85) (l:=v.ent) fun y hy=>HY (hen y hy)
 have h3:(Gm (v.mrk.map Ab.d)).length<=9+27*(v.mrk.map Ab.d).length:=Ld (fun d hd=>by obtain⟨m,hm,rfl⟩:=List.mem_map.1 hd;exact(hC.ctx.may hm).nn) (by rw[Aad];have:=hC.ctx.1;omega)
 have h4:=Ld (l:=v.cl) (fun d hd=>(hC.ctx.mayC hd).nn) (by have:=hC.ctx.2.1;omega)
 have h5:=hC.ctx.1
 have h6:=hC.ctx.2.1
 rw[Aad]at h3
 simp only[Cy,Lb,Ds,Aab];omega
attribute [local irreducible] Cy X
theorem Fs (v:MV)(s:Ge)(w:World)(hR:Bf w s v)(hv:JT v):
  Calls prog 38 #[.agg #[.slice s.ea v.ent.length s.ec,.slice s.ma v.mrk.length s.mc,.slice s.ca v.cl.length s.cc]] w (AN (fun r w'=>∃s',r= .agg #[.slice s'.ea v.ent.length s'.ec,.slice s'.ma v.mrk.length s'.mc,.slice s'.ca v.cl.length s'.cc]∧Dr w' s' v∧Iy s'∧(∀q,En s' q->w.heap.size<=q)∧Ap w w')):=by
 have hv0:=hv;obtain⟨hv1,hv2,hv3,hv4,hv5,hv6⟩:=hv;refine Ac (n:=16) func38 rfl rfl rfl ?_;refine jG ?_;refine jR<|jB ?_;intro an aA al a1 am;have:w.heap.size<=an:=al;clear al;have K0:=(am:Ap w _);refine jR<|jA ?_;intro aB aC a7 a0 ag;have aD:=Ak a1.lt a7;replace hR:=hR.ext am;have ao:=An hR.oL a7;have:=Aaa K0.size a7;clear a7;refine jG ?_;refine Ai.drawS [13] [0,1001,3,4,1005,7,8,1009,2002,2006,2010,11,12,2013] ?_;intro aE a8;replace a1:=(a1.ext ag).ext a8;refine jM (jb a1 Jn) ?_;refine jG ?_;replace hR:=(hR.ext ag).ext a8;refine jU rfl<|jC (Mc _ _ _ _ hR.ent Zo) ?_;rintro _ aF ⟨ah,ai,rfl,a2,aj,a9⟩;replace a0:=a0.ext a8;have ap:=Aw aj a0.lt;replace K0:=(K0.ext ag).ext a8;have aq:=Bd K0.size aj;clear aj;replace a1:=a1.ext a9;refine jG ?_;replace hR:=hR.ext a9;refine jU rfl<|jC (Hm _ _ _ _ hR.mrk Zo) ?_;rintro _ aG ⟨aa,ab,rfl,ac,ad,a4⟩;replace a0:=a0.ext a9;have ar:=Aw ad a0.lt;have au:=Ah ad a2.oL;replace K0:=K0.ext a9;have av:=Bd K0.size ad;clear ad;replace a1:=a1.ext a4;refine jG ?_;replace hR:=hR.ext a4;refine jU rfl<|jC (M4 _ _ _ _ hR.cl Zo) ?_;rintro _ aH ⟨ae,af,rfl,ak,a5,a3⟩;replace a0:=a0.ext a4;have aw:=Aw a5 a0.lt;replace a2:=a2.ext a4;have ax:=Ah a5 a2.oL;have ay:=Ah a5 ac.oL;replace K0:=K0.ext a4;have az:=Bd K0.size a5;clear a5;replace a1:=a1.ext a3;refine jG ?_;refine jP ?_ (hx:=by exact fun _=>(AI (cells:=#[.slice aa v.mrk.length ab,.slice ae v.cl.length af]) Zk));refine jP ?_ (hx:=by exact fun _=>(AI (cells:=#[.slice ah v.ent.length ai,.slice aa v.mrk.length ab,.slice ae v.cl.length af]) Zk));replace a0:=a0.ext a3;refine jU rfl<|jS a0 ?_;intro aI a0 a6;refine jG ?_;refine Ai.retC (cs:=#[.slice ah v.ent.length ai,.slice aa v.mrk.length ab,.slice ae v.cl.length af]) func38 rfl ty33 rfl rfl a0.cl ?_;replace hR:=(hR.ext a3).kO a6 (Aa ao);replace a2:=(a2.ext a3).kO a6 (Aa ap);replace ac:=(ac.ext a3).kO a6 (Aa ar);replace K0:=(K0.ext a3).n1 a6;replace ak:=ak.kO a6 (Aa aw)
 exact⟨_,rfl,⟨ah,ai,aa,ab,ae,af,none,0,none,0,none,0⟩,rfl,⟨a2,ac,ak⟩,⟨(Zf au),(Zf ax),(Zf ay)⟩,fun q hq=>by
  rcases hq with hq|hq|hq
  ·exact aq q hq
  ·exact av q hq
  ·exact az q hq,K0⟩
theorem fZ (w:World):
  Calls prog 61 #[.int .i64 2,.slice none 0 0] w (AN (fun v w'=>∃a' c',v= .slice a' ([UInt8.ofNat 2]:List UInt8).length c'∧Af w' 5 a' c' ([UInt8.ofNat 2]:List UInt8)∧(∀q,own a' q->w.heap.size<=q)∧Ap w w')):=by
 refine Ac (n:=22) func61 rfl rfl rfl ?_;refine jG ?_;refine jV (EA (a:=2) rfl ⟨_,underlying3⟩ underlying5) ?_;refine jR<|AA.buildSlice ([UInt8.ofNat 2]:List UInt8) underlying98 ty5 rfl rfl Ze ?_;intro a1 a5 a0 a2 a3;have a4:=Bd (Aac _) (CV a0);clear a0;have K0:=(a3:Ap w _);refine Em ?_;refine jV (Az (c:=0) (Cw underlying185 rfl) rfl) ?_;refine jG ?_;refine Ai.unloop ?_;refine jG ?_;refine Ai.condF rfl ?_;refine jG ?_;refine jJ func61 ?_;exact⟨_,rfl,(some ⟨a1,0,none⟩),([UInt8.ofNat 2]:List UInt8).length,rfl,a2,a4,K0⟩
theorem OL (key:ByteArray)(v:MV)(s:Ge)(w:World)(hR:Bf w s v)(hok:Bl v s)(hc:EJ v=0)(hk:key.size<=32):
  Calls prog 39 #[.string key,.agg #[.slice s.ea v.ent.length s.ec,.slice s.ma v.mrk.length s.mc,.slice s.ca v.cl.length s.cc]] w (AN (fun r w'=>∃a' c',r= .tuple #[.slice a' (DT key v).length c',.int .i64 0]∧Af w' 5 a' c' (DT key v)∧(∀q,own a' q->w.heap.size<=q)∧Ap w w')):=by
 have hL:(([UInt8.ofNat 2]:List UInt8)++AW key).length=1+(AW key).length:=by rw[Aab];rfl
 have hel:=Hb hok.ent hc
 have htl:(AW key).length<=41:=by
  have h7:key.data.toList.length=key.size:=by rw[Aay];rfl
  have h5:=A6 (n:=key.size) Zo;unfold AW;rw[Aab,h7];omega
 refine Ac (n:=21) func39 rfl rfl rfl ?_;refine jG ?_;refine jR<|jB ?_;intro ab am a3 an a4;have:w.heap.size<=ab:=a3;clear a3;have K0:=(a4:Ap w _);refine jG ?_;replace hR:=hR.ext a4;refine jR<|jC (fY v s _ hR hok hc) ?_;rintro _ ao ⟨ap,aq,rfl,a0,ac,a5⟩;clear ac;refine jG ?_;refine Ai.condF rfl ?_;refine jG ?_;refine jR<|jC (fZ _) ?_;rintro _ ar ⟨ad,ae,rfl,af,ag,a1⟩;clear ag;refine jG ?_;refine jR<|jC (My ad ([UInt8.ofNat 2]:List UInt8) ae key _ af.sl (by first|omega|(simp only[Aab,Aaj,Aar];omega)) Zo) ?_;rintro _ au ⟨av,aw,rfl,ah,a2,a6⟩;replace hR:=(hR.ext a5).ext a1;have ax:=Ah a2 hR.oL;replace K0:=(K0.ext a5).ext a1;have a7:=Bd K0.size a2;clear a2;refine jG ?_;replace a0:=(a0.ext a1).ext a6;refine jR<|AA.append (xs:=([UInt8.ofNat 2]:List UInt8)++AW key) (ys:=Cy v) underlying98 ty5 rfl rfl rfl ah a0.sl Zr Zd ?_;intro a8 ai ay a9 aj aa ak;replace K0:=K0.ext a6;have al:∀q_,own a8 q_->w.heap.size<=q_:=aa.ge a7 K0.size;clear aa;clear ak;refine jG ?_;refine jK func39 ?_;have e_:(([UInt8.ofNat 2]:List UInt8)++AW key)++Cy v=DT key v:=rfl;rw[e_]at a9⊢;replace K0:=K0.new aj a7;exact⟨_,rfl,a8,ai,rfl,a9,al,K0⟩
end
section
attribute [local irreducible] A5 EM AW AK Cy DT
structure Kc where
 key:ByteArray
 v:MV
 s:Ge
def Kc.kv (t:Kc):ByteArray×Value:=(t.key,.agg #[.slice t.s.ea t.v.ent.length t.s.ec,.slice t.s.ma t.v.mrk.length t.s.mc,.slice t.s.ca t.v.cl.length t.s.cc])
noncomputable def wN :Option MV->MV->Int
 |none,_=>0
 |some a,v=>HG a v
noncomputable def wV :Option MV->MV->MV
 |none,v=>v
 |some a,v=>CC a v
end
section
attribute [local irreducible] A5 EM AW AK Cy DT wV CC
theorem Bt {s:ByteArray}(h:AP s=true):s.size<=32:=by
 rw[AP,Aao,decide_eq_true_eq]at h
 exact h.1.2
theorem SO {s:ByteArray}{i:Nat}(hno:GL I6 s.data.toList i)(hi:s.data.toList.length<=i):(!decide (s=⟨#[]⟩)&&decide ((s.size:Int)<=32))=AP s:=by
 rw[AP,TH hno hi,AaC]
 simp only[Aao,AaO,decide_eq_false_iff_not,decide_eq_true_eq,Bool.not_false,and_true,ne_eq]
 constructor
 ·rintro⟨h1,h2⟩;exact⟨h1,by omega⟩
 ·rintro⟨h1,h2⟩;exact⟨h1,by omega⟩
def OM (a b:MV):Bool:=(decide (a.ent=b.ent)&&decide (a.mrk=b.mrk))&&decide (a.cl=b.cl)
attribute [irreducible] OM
attribute [local irreducible] X
theorem GE (s:ByteArray)(w:World)(hl:s.size<=4294967295):
  Calls prog 34 #[.string s] w (AN (fun v w'=>v= .bool (AP s)∧Ap w w')):=by
 have hdl:=Gv s;refine Ac (n:=54) func34 rfl rfl rfl ?_;refine jG ?_;refine jR<|AA.bytes underlying9 underlying98 underlying5 rfl ?_;intro a1 a3 a6 a7 a0 a4;have K0:=(a4:Ap w _);refine jG ?_;refine Ai.loop (ι:=Nat) (fun i ρ' w'=>Holds ρ' [(0,.string s),(6,.slice (some ⟨a1,0,none⟩) s.data.toList.length a3),(7,.int .i64 ((s.data.toList.length:Nat):Int)),(8,.int .i64 ((i:Nat):Int))]∧Ap w w'∧(Av w' (some ⟨a1,0,none⟩) s.data.toList)∧(i<=s.size)∧(GL I6 s.data.toList i)) (fun i=>s.size-i) 0 ?_ ?_
 ·refine⟨⟨rfl,rfl,rfl,rfl,trivial⟩,K0,a0,?_,?_⟩
  ·omega
  ·exact GL.zero _ _
 clear K0;rintro i a8 a9 ⟨a2,K0,a0,hi,hno⟩ ih1;obtain⟨ρ₀,rfl⟩:=a2.ex;clear a2;refine jG ?_;refine jF ?_ ?_
 ·intro hc9
  refine El ?_;obtain⟨aa,ab,c,hx,a5,ac⟩:=a0.el (i:=i) (by rw[Gv];omega);refine jV (AS underlying98 ty5 rfl rfl a5 (by rw[Gv];omega)) ?_;refine jG ?_;refine jV (Be rfl rfl rfl) ?_;refine jG ?_;refine jV (Be rfl rfl rfl) ?_;refine jG ?_;refine jW ?_ (hx:=by exact fun hg=>(Ka hg rfl rfl rfl));refine jV (Be rfl rfl rfl) ?_;refine jG ?_;refine jW ?_ (hx:=by exact fun hg=>(Ka hg rfl rfl rfl));refine jV (Be rfl rfl rfl) ?_;refine jG ?_;refine jW ?_ (hx:=by exact fun hg=>(Ka hg rfl rfl rfl));refine jV (Be rfl rfl rfl) ?_;refine jG ?_;refine jF ?_ ?_
  ·intro hc45
   refine jG ?_;refine jJ func34 ?_;exact⟨_,rfl,by rw[SC hx (by simp only[I6,decide_eq_true_eq];omega)],K0⟩
  ·intro hc45
   refine jG ?_;refine jV (Az (c:=((i+1:Nat):Int)) (Au rfl rfl Zo Zo) rfl) ?_;refine jG ?_;refine ih1 (i+1) _ _ ?_ Zo;refine⟨⟨rfl,rfl,rfl,rfl,trivial⟩,K0,a0,?_,?_⟩
   ·omega
   ·exact hno.step hx (by simp only[I6,decide_eq_false_iff_not];omega)
 ·intro hc9
  refine jG ?_;refine jV (Qy rfl rfl) ?_;refine jG ?_;refine jW ?_ (hx:=by exact fun hg=>(DC underlying9 (BR hg)));refine jG ?_;refine jV (Be rfl rfl rfl) ?_;refine jG ?_;refine jJ func34 ?_;exact⟨_,rfl,congrArg Value.bool (SO hno (by rw[Gv];omega)),K0⟩
theorem YL (a b:MV)(s t:Ge)(w:World)(hR:Bf w s a)(hQ:Bf w t b)(hv:JT a):
  Calls prog 37 #[.agg #[.slice s.ea a.ent.length s.ec,.slice s.ma a.mrk.length s.mc,.slice s.ca a.cl.length s.cc],.agg #[.slice t.ea b.ent.length t.ec,.slice t.ma b.mrk.length t.mc,.slice t.ca b.cl.length t.cc]] w (AN (fun v w'=>v= .bool (OM a b)∧Ap w w')):=by
 have hv0:=hv;obtain⟨hv1,hv2,hv3,hv4,hv5,hv6⟩:=hv;refine Ac (n:=28) func37 rfl rfl rfl ?_;refine jG ?_;refine jR<|jB ?_;intro a8 aa a7 a0 a5;have:w.heap.size<=a8:=a7;clear a7;have K0:=(a5:Ap w _);refine jR<|jB ?_;intro ab ac a6 a3 a4;have ad:=Ak a0.lt a6;have:=Aaa K0.size a6;clear a6;replace a0:=a0.ext a4;refine jG ?_;replace hR:=(hR.ext a5).ext a4;replace hQ:=(hQ.ext a5).ext a4;refine jR<|jC (Mb _ _ _ _ _ _ _ hR.ent hQ.ent Zo) ?_;rintro _ ae ⟨rfl,a1⟩;replace a0:=a0.ext a1;replace a3:=a3.ext a1;refine jG ?_;replace hR:=hR.ext a1;replace hQ:=hQ.ext a1;refine RL.gcall (vals:=[.slice s.ma a.mrk.length s.mc,.slice t.ma b.mrk.length t.mc]) (BL rfl rfl rfl rfl) en67.h (fun hg=>(CR (BR hg) (CR (BR hg) Hw))) (fun hg=>(I4 _ _ _ _ _ _ _ hR.mrk hQ.mrk Zo)) ?_;intro af a2;refine jV (Be rfl rfl rfl) ?_;replace a0:=a0.ext a2;replace a3:=a3.ext a2;refine jG ?_;replace hR:=hR.ext a2;replace hQ:=hQ.ext a2;refine RL.gcall (vals:=[.slice s.ca a.cl.length s.cc,.slice t.ca b.cl.length t.cc]) (BL rfl rfl rfl rfl) en84.h (fun hg=>(CR (BR hg) (CR (BR hg) Hw))) (fun hg=>(Q3 _ _ _ _ _ _ _ hR.cl hQ.cl Zo)) ?_;intro ag a9;refine jV (Be rfl rfl rfl) ?_;refine jG ?_;refine jJ func37 ?_;replace K0:=(((K0.ext a4).ext a1).ext a2).ext a9;exact⟨_,rfl,by unfold OM;rfl,K0⟩
theorem Vj (b lg m1 m2 m3:Nat)(s:Int)(w:World)(hb:AB w b [.int .i32 0,.int .u32 0,jp lg,.int .i64 s,.map (some m1),.map (some m2),.map (some m3)] 94):
  Calls prog 20 #[jp b] w (AN (fun v w'=>v= .int .i64 s∧AB w' b [.int .i32 0,.int .u32 0,jp lg,.int .i64 s,.map (some m1),.map (some m2),.map (some m3)] 94∧Ad (one b) w w')):=by
 refine Ac (n:=13) func20 rfl rfl rfl ?_;refine jG ?_;refine jR<|jC (Bv _ _ _ _ _ _ _ hb) ?_;rintro _ a0 ⟨rfl,a1,a3⟩;have K0:=(Ad.refl (one b) w).tf a3 rfl;replace hb:=a1;clear a1;refine jV (Bn (b:=true) rfl) ?_;refine jG ?_;refine Ai.condF rfl ?_;refine jG ?_;refine RL.defer (vals:=[jp b]) rfl ?_;refine jG ?_;refine Ai.retU muLib func20 rfl (fun _=>Bq rfl rfl) hb.cellH (hb.thawH 0) ?_;obtain⟨a2,hwU_⟩:∃w_,w_=a0.setCell ⟨b,0,none⟩ (.int .i32 0):=⟨_,rfl⟩;rw[<-hwU_];have hbU_:AB a2 b [.int .i32 0,.int .u32 0,jp lg,.int .i64 s,.map (some m1),.map (some m2),.map (some m3)] 94:=hwU_▸hb.setH;have a4:Ad (one b) a0 a2:=hwU_▸AJ _ _ _ _;replace K0:=K0.tf a4 rfl;replace hb:=hbU_;exact⟨_,rfl,rfl,hb,K0⟩
end
end Go.Proofs.YtjkaicjmfgekjaaGreatDoor
