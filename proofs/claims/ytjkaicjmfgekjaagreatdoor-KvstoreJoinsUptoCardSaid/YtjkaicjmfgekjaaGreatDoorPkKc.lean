/-
  Kc, Kd, Ke
-/
import Derived.Test.YtjkaicjmfgekjaaGreatDoorRows
import Derived.Test.YtjkaicjmfgekjaaGreatDoorPkYh
import Derived.Test.YtjkaicjmfgekjaaGreatDoorPkCs
import Derived.Test.YtjkaicjmfgekjaaGreatDoorPkApp
import Derived.Test.YtjkaicjmfgekjaaGreatDoorPkCell
import Derived.Test.YtjkaicjmfgekjaaGreatDoorPkI
set_option linter.all false
set_option maxRecDepth 100000
set_option maxHeartbeats 4000000
namespace Go.Proofs.YtjkaicjmfgekjaaGreatDoor
open Go.Proofs.Tryz
attribute [local irreducible] RD RS Av RL RA RT CJ Aj
attribute [local irreducible] AE FC CC BS BL B2 B0 Du
attribute [local irreducible] DQ D5 itemsN CQ A0 Bj B4 Gr A6 Bw
attribute [local irreducible] Au DL AH BX AM
def CD (s:ByteArray):List UInt8:=Ay s.size++s.data.toList
def BY (d:Ad):List UInt8:=Ay d.node.toNat++Ay d.life.toNat++Ay d.count.toNat
def FV (l:List Ad):List UInt8:=Ay l.length++l.flatMap BY
def KI (p:Nat):Nat→List UInt8
 |0=>[]
 |k+1=>KI p k++[UInt8.ofNat (p/2^(8*k))]
def Bb (x:Ag):List UInt8:=CD x.item++Ay x.dot.node.toNat++Ay x.dot.life.toNat++Ay x.dot.count.toNat++Ay x.qty.toNat++KI x.price.toNat 8
def KJ (l:List Ag):List UInt8:=Ay l.length++l.flatMap Bb
def Ew (ms:List Aa)(cl:List Ad):List UInt8:=FV (ms.map Aa.d)++FV cl
def Vl (d:Ad):Prop:=(0≤d.node∧d.node<4611686018427387904)∧(0≤d.life∧d.life<4611686018427387904)∧0≤d.count∧d.count<4611686018427387904
theorem BR {n:Int}(h0:0≤n)(h:n<4611686018427387904):(Ay n.toNat).length≤9:=BQ Zo
theorem Js {d:Ad}(h:Vl d):(BY d).length≤27:=by
 have h1:=BR h.1.1 h.1.2
 have h2:=BR h.2.1.1 h.2.1.2
 have h3:=BR h.2.2.1 h.2.2.2
 simp only[BY,List.length_append];omega
theorem Lt (p:Nat):∀k,(KI p k).length=k
 |0=>rfl
 |k+1=>by rw[KI,List.length_append,Lt p k];rfl
theorem Do {α : Type} {f : α → List UInt8} {m : Nat} : ∀ {l : List α}, (∀ x ∈ l, (f x).length ≤ m) → (l.flatMap f).length ≤ m * l.length
  | [], _ => by simp
  | x :: l, h => by
    have h1 := h x Zs
    have h2 := Do (f := f) (l := l) fun y hy => h y (by simp [hy])
    rw [List.flatMap_cons, List.length_append, List.length_cons, Nat.mul_succ]; omega
theorem Hl {α:Type}{f:α→List UInt8}{l:List α}{i:Nat}{x:α}(h:l[i]? =some x):(l.take (i+1)).flatMap f=(l.take i).flatMap f++f x:=by
 obtain⟨hj,rfl⟩:=List.getElem?_eq_some_iff.1 h
 rw[List.take_succ_eq_append_getElem hj,List.flatMap_append];simp
theorem So {α β:Type}{f:α→β}{l:List α}{i:Nat}{x:α}(h:l[i]? =some x):(l.take (i+1)).map f=(l.take i).map f++[f x]:=by
 obtain⟨hj,rfl⟩:=List.getElem?_eq_some_iff.1 h
 rw[List.take_succ_eq_append_getElem hj,List.map_append];rfl
theorem NT {α:Type}{l:List α}{i:Nat}{x:α}(h:l[i]? =some x):x∈l:=List.mem_of_getElem? h
theorem Jt {l:List Ad}(h:∀d∈l,Vl d)(hl:l.length≤1048576):(FV l).length≤9+27*l.length:=by
 have h1:=BQ (n:=l.length) Zo
 have h2:=Do (f:=BY) (m:=27) fun x hx=>Js (h x hx)
 rw[FV,List.length_append];omega
theorem Sp (p:Nat):KI p 0=[]:=rfl
theorem Sq (p k:Nat):KI p (k+1)=KI p k++[UInt8.ofNat (p/2^(8*k))]:=rfl
def entN (x:Ag):Prop:=Vl x.dot∧(0≤x.qty∧x.qty<4611686018427387904)∧(0≤x.price∧x.price<18446744073709551616)∧x.item.size≤32
theorem GI {x:Ag}(h:entN x):(Bb x).length≤85:=by
 have h1:=BR h.1.1.1 h.1.1.2
 have h2:=BR h.1.2.1.1 h.1.2.1.2
 have h3:=BR h.1.2.2.1 h.1.2.2.2
 have h4:=BR h.2.1.1 h.2.1.2
 have h5:=BQ (n:=x.item.size) (by have:=h.2.2.2;omega)
 have h6:=h.2.2.2
 have h7:x.item.data.toList.length=x.item.size:=by rw[Array.length_toList];rfl
 simp only[Bb,CD,List.length_append,Lt,h7];omega
theorem V7.entN {ms:List Aa}{cl:List Ad}{pre:List Ag}{x:Ag}(h:V7 ms cl pre x)(hX:DF ms cl)(hp:0≤x.price∧x.price<18446744073709551616):entN x:=by
 have h1:=h.qty
 have h2:=h.name
 have h3:x.item.size≤32:=by
  rw[A6,Bool.and_eq_true,decide_eq_true_eq]at h2
  exact h2.1.2
 have h4:=hX.cov h.cov
 unfold AE at h4
 refine⟨⟨?_,?_,?_⟩,?_,hp,h3⟩<;>omega
theorem AE.nn {d:Ad}(h:AE d):Vl d:=by unfold AE at h;unfold Vl;omega
theorem Ju (a:Option Addr)(xs:List UInt8)(c:Nat)(n:Int)(w:World)(hs:As w a xs)(hl:xs.length≤1073741824)(h0:0≤n)(hn:n<4611686018427387904):Calls prog 122 #[.slice a xs.length c,.int .i64 n] w (AS fun v w'=>∃a' c',v= .slice a' (xs++Ay n.toNat).length c'∧Af w' 5 a' c' (xs++Ay n.toNat)∧(∀b,own a' b→w.heap.size≤b)∧Aq w w'):=by
 have h:=Ps a xs c n.toNat w hs hl Zo
 rwa[Int.toNat_of_nonneg h0]at h
attribute [local irreducible] BY KI CD Bb
attribute [local irreducible] X
theorem Uo (a:Option Addr)(xs:List UInt8)(c:Nat)(s:ByteArray)(w:World)(hs:As w a xs)(hl:xs.length≤1048576)(hn:s.size≤1048576):
  Calls prog 88 #[.slice a xs.length c,.string s] w (AS (fun v w'=>∃a' c',v= .slice a' (xs++CD s).length c'∧Af w' 5 a' c' (xs++CD s)∧(∀b,own a' b→w.heap.size≤b)∧Aq w w')):=by
 have hv9:=BQ (n:=s.size) Zo;have hD:(xs++Ay s.size).length=xs.length+(Ay s.size).length:=List.length_append;refine Ae (n:=11) func88 rfl rfl rfl ?_;refine jG ?_;refine jV (Cz underlying9 rfl) ?_;refine jR<|jC (Ps a xs c ((s).size) _ hs Zo Zo) ?_;rintro _ aa ⟨ab,ac,rfl,a5,a0,a6⟩;have a1:=A1 (Nat.le_refl _) a0;clear a0;have K0:=(a6:Aq w _);refine jG ?_;refine jR<|Av.appendStr (xs:=xs++Ay ((s).size)) (str:=s) underlying98 underlying9 ty5 rfl rfl rfl a5 Zr ?_;intro a2 a7 ad a3 a8 a4;have a9:∀q_,own a2 q_→w.heap.size≤q_:=a4.ge a1 K0.size;clear a4;refine jG ?_;refine jJ func88 ?_;have e_:(xs++Ay s.size)++s.data.toList=xs++CD s:=by unfold CD;rw[List.append_assoc]
 rw[e_]at a3⊢;replace K0:=K0.new a8 a1;exact⟨_,rfl,a2,a7,rfl,a3,a9,K0⟩
theorem O7 (am:Option Addr)(ds:List Ad)(cm b:Nat)(a0:Option Addr)(xs:List UInt8)(c0:Nat)(w:World)(hm:As w am ds)(hb:AA w b [.slice a0 xs.length c0] 98)(hs0:As w a0 xs)(hd0:∀q_,am=some q_→ds≠ []→¬(one b) q_.block)(hds:∀d∈ds,Vl d)(hdl:ds.length≤4096)(hl:xs.length≤1048576):
  Calls prog 211 #[.slice am ds.length cm,jp b] w (AS (fun v w'=>∃a' c',v= .tuple #[]∧AA w' b [.slice a' (xs++FV ds).length c'] 98∧Af w' 5 a' c' (xs++FV ds)∧(∀q,own a' q→w.heap.size≤q)∧Ah (one b) w w')):=by
 have hv9:=BQ (n:=ds.length) Zo;have hD:(xs++Ay ds.length).length=xs.length+(Ay ds.length).length:=List.length_append;refine Ae (n:=26) func211 rfl rfl rfl ?_;refine jG ?_;refine jR<|jC (Ps a0 xs c0 ds.length _ hs0 Zo Zo) ?_;rintro _ aI ⟨ao,aJ,rfl,a4,a5,ah⟩;have ai:=Ap a5 hb.lt;have ap:∀q_,own ao q_→q_<w.heap.size→(one b) q_:=SQ (Nat.le_refl _) a5;have aq:=A1 (Nat.le_refl _) a5;clear a5;have K0:=(ah:Aq w _).to (S:=(one b));replace hb:=hb.ext ah;refine jR<|jS hb ?_;intro aK hb aj;replace K0:=K0.tf aj rfl;refine jG ?_;replace a4:=a4.keepO aj (Ab ai);refine Aj.loop (ι:=Nat) (fun i ρ' w'=>∃a':Option Addr,∃c':Nat,Holds ρ' [(1,jp b),(9,.slice am ds.length cm),(10,.int .i64 ((ds.length:Nat):Int)),(11,.int .i64 ((i:Nat):Int))]∧Ah (one b) w w'∧(AA w' b [.slice a' ((xs++Ay ds.length++(ds.take i).flatMap BY).length) c'] 98)∧(Af w' 5 a' c' (xs++Ay ds.length++(ds.take i).flatMap BY))∧(¬own a' b)∧(∀q_,own a' q_→q_<w.heap.size→(one b) q_)∧(∀q_,own a' q_→w.heap.size≤q_)∧(i≤ds.length)) (fun i=>ds.length-i) 0 ?_ ?_
 ·rw[show xs++Ay ds.length++(ds.take 0).flatMap BY=xs++Ay ds.length by simp]
  refine⟨_,_,⟨rfl,rfl,rfl,rfl,trivial⟩,K0,hb,a4,ai,ap,aq,?_⟩
  ·omega
 clear hb a4;clear K0;rintro i aL aM ⟨a',c',ak,K0,hb,a2,ar,aN,au,hi⟩ ih1;obtain⟨ρ₀,rfl⟩:=ak.ex;clear ak;refine jG ?_;refine jF ?_ ?_
 ·intro hc12
  have hfl:=Do (f:=BY) (m:=27) (l:=ds.take i) fun x hx=>Js (hds x (List.mem_of_mem_take hx));have htl:(ds.take i).length≤i:=List.length_take_le ..;obtain⟨aO,aP,d,hd,av,a6⟩:=hm.eo i;have hc_22_lt:=a6.lt;replace a6:=a6.keep K0 (hd0 _ av (Gv hd));refine jG ?_;refine jR<|jA ?_;intro aQ aR a3 a1 ac;have aS:=Ai hb.lt a3;have aT:=Ai a6.lt a3;have aw:=Al a2.own_lt a3;have:=Nat.le_trans K0.size a3;clear a3;refine jR<|jS a1 ?_;intro aU a1 ad;replace K0:=K0.ext ac;replace K0:=K0.n1 ad;refine jG ?_;have hnd:=hds d (NT hd);obtain⟨⟨hn1,hn2⟩,⟨hn3,hn4⟩,hn5,hn6⟩:=hds d (NT hd);have hz1:=BR hnd.1.1 hnd.1.2;have hz2:=BR hnd.2.1.1 hnd.2.1.2;refine Aj.drawS [10] [1000,1,1002,4,1005,7,1008,2003,2006,2009,2010] ?_;intro aV a7;replace hb:=((hb.ext ac).kp ad).ext a7;replace a1:=a1.ext a7;refine jM (jb hb (jb a1 Jn)) ?_;refine jG ?_;replace a2:=((a2.ext ac).keepO ad (Ab aw)).ext a7;refine jU rfl<|jC (Ju a' (xs++Ay ds.length++(ds.take i).flatMap BY) c' ((d).node) _ a2.sl (by first|omega|(simp only[List.length_append,List.length_cons,List.length_nil];omega)) Zo Zo) ?_;rintro _ aW ⟨ax,ay,rfl,az,aA,a8⟩;clear aA;replace hb:=hb.ext a8;replace a1:=a1.ext a8;refine jG ?_;refine jU rfl<|jC (Ju ax ((xs++Ay ds.length++(ds.take i).flatMap BY)++Ay ((d).node).toNat) ay ((d).life) _ az.sl (by first|omega|(simp only[List.length_append,List.length_cons,List.length_nil];omega)) Zo Zo) ?_;rintro _ aX ⟨aB,aC,rfl,aD,aE,a9⟩;clear aE;replace hb:=hb.ext a9;replace a1:=a1.ext a9;refine jG ?_;refine jU rfl<|jC (Ju aB (((xs++Ay ds.length++(ds.take i).flatMap BY)++Ay ((d).node).toNat)++Ay ((d).life).toNat) aC ((d).count) _ aD.sl (by first|omega|(simp only[List.length_append,List.length_cons,List.length_nil];omega)) Zo Zo) ?_;rintro _ aY ⟨ae,al,rfl,af,aa,ab⟩;have an:=Ap aa hb.lt;replace K0:=((K0.ext a7).ext a8).ext a9;have aF:∀q_,own ae q_→q_<w.heap.size→(one b) q_:=SQ K0.size aa;have aG:=A1 K0.size aa;clear aa;replace hb:=hb.ext ab;replace a1:=a1.ext ab;refine jG ?_;refine jU rfl<|Av.store (v:= .slice ae (((((xs++Ay ds.length++(ds.take i).flatMap BY)++Ay ((d).node).toNat)++Ay ((d).life).toNat)++Ay ((d).count).toNat).length) al) ty98 rfl rfl rfl Zv hb Zs ?_;intro aH hb_ ag;have hb':AA aH b [.slice ae (((((xs++Ay ds.length++(ds.take i).flatMap BY)++Ay ((d).node).toNat)++Ay ((d).life).toNat)++Ay ((d).count).toNat).length) al] 98:=hb_;clear hb_;replace K0:=K0.ext ab;replace K0:=K0.tf ag rfl;replace hb:=hb';clear hb';refine jG ?_;refine jV (At (c:=((i+1:Nat):Int)) (An rfl rfl Zo Zo) rfl) ?_;refine jG ?_;have e:xs++Ay ds.length++(ds.take (i+1)).flatMap BY=(((xs++Ay ds.length++(ds.take i).flatMap BY)++Ay d.node.toNat)++Ay d.life.toNat)++Ay d.count.toNat:=by rw[Hl hd,BY];simp only[List.append_assoc]
  refine ih1 (i+1) _ _ ?_ Zo;rw[e];replace a2:=(((a2.ext a8).ext a9).ext ab).keepO ag (Ab ar);replace af:=af.keepO ag (Ab an);refine⟨_,_,⟨rfl,rfl,rfl,rfl,trivial⟩,K0,hb,af,an,aF,aG,?_⟩
  ·omega
 ·intro hc12
  refine jG ?_;refine Aj.fin0 func211 rfl ?_;have hie:i=ds.length:=by omega
  subst hie;have e_:xs++Ay ds.length++(ds.take ds.length).flatMap BY=xs++FV ds:=by rw[List.take_length,FV,List.append_assoc]
  rw[e_]at a2 hb;exact⟨_,rfl,a',c',rfl,hb,a2,au,K0⟩
theorem We (a0:Option Addr)(xs:List UInt8)(c0:Nat)(am:Option Addr)(ms:List Aa)(cm:Nat)(ac:Option Addr)(cl:List Ad)(cc:Nat)(w:World)(hs0:As w a0 xs)(hs:As w am ms)(ht:As w ac cl)(hX:DF ms cl)(hl:xs.length≤65536):
  Calls prog 153 #[.slice a0 xs.length c0,.agg #[.slice am ms.length cm,.slice ac cl.length cc]] w (AS (fun v w'=>∃a' c',v= .tuple #[.slice a' (xs++Ew ms cl).length c',.int .i64 0]∧Af w' 5 a' c' (xs++Ew ms cl)∧(∀q,own a' q→w.heap.size≤q)∧Aq w w')):=by
 have hm64:=hX.1;have hc64:=hX.2.1;have hcan:=DB hX;have hmm:∀d∈ms.map Aa.d,Vl d:=fun d hd=>by obtain⟨m,hm,rfl⟩:=List.mem_map.1 hd;exact(hX.may hm).nn
 have hmL:=Jt hmm (by rw[List.length_map];omega);have hml:(ms.map Aa.d).length=ms.length:=List.length_map ..;have hD:(xs++FV (ms.map Aa.d)).length=xs.length+(FV (ms.map Aa.d)).length:=List.length_append;refine Ae (n:=35) func153 rfl rfl rfl ?_;refine jG ?_;refine jR<|jB ?_;intro a2 aS aj a1 aB;have:w.heap.size≤a2:=aj;clear aj;have K0:=(aB:Aq w _);refine jR<|jB ?_;intro a6 aT ae a3 ak;have aU:=Ai a1.lt ae;have:=Nat.le_trans K0.size ae;clear ae;refine jG ?_;replace K0:=K0.ext ak;refine jR<|jC (TB am ms cm ac cl cc _ (hs.ext K0) (ht.ext K0) Zo Zo) ?_;rintro _ aC ⟨rfl,af⟩;refine jG ?_;replace a1:=(a1.ext ak).ext af;replace a3:=a3.ext af;replace K0:=K0.ext af;refine jF ?_ ?_
 ·intro hc12
  rw[hcan]at hc12;cases hc12
 ·intro hc12
  refine jG ?_;refine jV (IC (a:=[]) (c:=[jp a2]) rfl rfl) ?_;refine jG ?_;refine Aj.loop (ι:=Nat) (fun i ρ' w'=>∃a':Option Addr,∃c':Nat,Holds ρ' [(2,jp a2),(3,jp a6),(6,.func (.func 211) #[] #[jp a2]),(7,.slice a' (((ms.take i).map Aa.d).length) c'),(15,.slice am ms.length cm),(16,.int .i64 ((ms.length:Nat):Int)),(17,.int .i64 ((i:Nat):Int))]∧Aq w w'∧(AA w' a2 [.slice a0 xs.length c0] 98)∧(AA w' a6 [.slice am ms.length cm,.slice ac cl.length cc] 31)∧(Af w' 73 a' c' ((ms.take i).map Aa.d))∧(¬own a' a2)∧(¬own a' a6)∧(∀q_,own a' q_→w.heap.size≤q_)∧(i≤ms.length)) (fun i=>ms.length-i) 0 ?_ ?_
  ·rw[show(ms.take 0).map Aa.d=[]by rfl]
   have aD:=Af.nil (α:=Ad) aC 73;refine⟨_,_,⟨rfl,rfl,rfl,rfl,rfl,rfl,rfl,trivial⟩,K0,a1,a3,aD,(Ac a2),(Ac a6),(fun q_ h1=>absurd h1 (Ac q_)),?_⟩
   ·omega
  clear a1 a3;clear K0;rintro i aV aW ⟨a',c',al,K0,a1,a3,a4,ag,an,ao,hi⟩ ih1;obtain⟨ρ₀,rfl⟩:=al.ex;clear al;refine jG ?_;refine jF ?_ ?_
  ·intro hc18
   obtain⟨aX,aY,m,hm,aZ,a7⟩:=hs.eo i;have hc_25_lt:=a7.lt;replace a7:=a7.ext K0;refine jG ?_;refine jR<|jA ?_;intro b0 b1 a5 ap a8;have b2:=Ai a1.lt a5;have b3:=Ai a3.lt a5;have b4:=Ai a7.lt a5;have aE:=Al a4.own_lt a5;have:=Nat.le_trans K0.size a5;clear a5;refine jR<|jS ap ?_;intro b5 ap a9;have htl:((ms.take i).map Aa.d).length≤i:=by rw[List.length_map];exact List.length_take_le ..
   refine jG ?_;refine jR<|jC (HF m _) ?_;rintro _ b6 ⟨rfl,aa⟩;refine jR<|Av.buildSlice ([(Aa.d m)]:List Ad) underlying29 ty73 rfl rfl Ze ?_;intro b7 b8 aF aG ab;clear aF;replace a4:=(((a4.ext a8).keepO a9 (Ab aE)).ext aa).ext ab;refine jR<|Av.append (xs:=(ms.take i).map Aa.d) (ys:=([(Aa.d m)]:List Ad)) underlying29 ty73 rfl rfl rfl a4 aG.sl Zr Zd ?_;intro ah b9 ba aH ai ad aI;replace a1:=(((a1.ext a8).kp a9).ext aa).ext ab;have aJ:¬own ah a2:=ad.not ag a1.lt;replace a3:=(((a3.ext a8).kp a9).ext aa).ext ab;have aK:¬own ah a6:=ad.not an a3.lt;replace K0:=(((K0.ext a8).n1 a9).ext aa).ext ab;have aL:∀q_,own ah q_→w.heap.size≤q_:=ad.ge ao K0.size;clear ad;clear aI;refine jG ?_;refine jV (At (c:=((i+1:Nat):Int)) (An rfl rfl Zo Zo) rfl) ?_;refine jG ?_;have e:=So (f:=Aa.d) hm;refine ih1 (i+1) _ _ ?_ Zo;rw[e];replace a1:=a1.keep ai ag;replace a3:=a3.keep ai an;replace K0:=K0.new ai ao;refine⟨_,_,⟨rfl,rfl,rfl,rfl,rfl,rfl,rfl,trivial⟩,K0,a1,a3,aH,aJ,aK,aL,?_⟩
   ·omega
  ·intro hc18
   have hie:i=ms.length:=by omega
   subst hie;rw[List.take_length]at a4⊢;refine jG ?_;refine jR<|Av.callV (vals:=[.slice a' ((ms.map Aa.d).length) c',jp a2]) en211.h rfl rfl (O7 a' (ms.map Aa.d) c' a2 a0 xs c0 _ a4.sl a1 (hs0.ext K0) (fun q_ e_ _ h_=>by simp only[one]at h_;exact ag ⟨q_,e_,by first|exact h_|exact h_.symm⟩) hmm Zo (by first|omega|(simp only[List.length_append];omega))) ?_;rintro _ aM ⟨aq,ar,rfl,au,aN,aO,av⟩;clear aO;replace a1:AA aM a2 [.slice aq ((xs++FV (ms.map Aa.d)).length) ar] 98:=au;clear au;replace a3:=a3.kp av;refine jG ?_;replace K0:=K0.n1 av;refine jR<|Av.callV (vals:=[.slice ac cl.length cc,jp a2]) en211.h rfl rfl (O7 ac cl cc a2 aq (xs++FV (ms.map Aa.d)) ar _ (ht.ext K0) a1 aN.sl (fun q_ e_ n_ h_=>absurd (Gn ht n_ ⟨q_,e_,rfl⟩) (by simp only[one]at h_;omega)) (fun d hd=>(hX.mayC hd).nn) Zo (by first|omega|(simp only[List.length_append];omega))) ?_;rintro _ aP ⟨aw,ax,rfl,ay,az,aA,aQ⟩;have aR:=A1 K0.size aA;clear aA;replace a1:AA aP a2 [.slice aw (((xs++FV (ms.map Aa.d))++FV cl).length) ax] 98:=ay;clear ay;refine jG ?_;refine jK func153 ?_;have e_:xs++FV (ms.map Aa.d)++FV cl=xs++Ew ms cl:=by rw[Ew,List.append_assoc]
   rw[e_]at az⊢;replace K0:=K0.n1 aQ;exact⟨_,rfl,aw,ax,rfl,az,aR,K0⟩
theorem Vm (am:Option Addr)(ms:List Aa)(cm:Nat)(ac:Option Addr)(cl:List Ad)(cc:Nat)(ae:Option Addr)(es:List Ag)(ce:Nat)(w:World)(hcap:es.length≤ce)(hs:As w am ms)(ht:As w ac cl)(hse:As w ae es)(hl:ms.length≤4294967295)(hl2:cl.length≤4294967295)(hl3:es.length≤4294967295)(hb:EN es)(hcan0:Bj ms cl es=0):Calls prog 35 #[.agg #[.slice ae es.length ce,.slice am ms.length cm,.slice ac cl.length cc]] w (AS fun v w'=>v= .int .i64 0∧Aq w w'):=by
 have h:=O0 am ms cm ac cl cc ae es ce w hcap hs ht hse hl hl2 hl3 hb
 rwa[hcan0]at h
theorem Wf (am:Option Addr)(ms:List Aa)(cm:Nat)(ac:Option Addr)(cl:List Ad)(cc:Nat)(ae:Option Addr)(es:List Ag)(ce:Nat)(w:World)(hcap:es.length≤ce)(hs:As w am ms)(ht:As w ac cl)(hse:As w ae es)(hl:ms.length≤4294967295)(hl2:cl.length≤4294967295)(hl3:es.length≤4294967295)(hb:EN es)(hcan0:Bj ms cl es=0):
  Calls prog 87 #[.agg #[.slice ae es.length ce,.slice am ms.length cm,.slice ac cl.length cc]] w (AS (fun v w'=>∃a' c',v= .tuple #[.slice a' (KJ es++Ew ms cl).length c',.int .i64 0]∧Af w' 5 a' c' (KJ es++Ew ms cl)∧(∀q,own a' q→w.heap.size≤q)∧Aq w w')):=by
 have hC:=Co hcan0;have h64:=hC.len;have hv9:=BQ (n:=es.length) Zo
 have hen:∀x∈es,entN x:=fun x hx=>by
  obtain⟨j,hj⟩:=List.getElem?_of_mem hx;exact(hC.ent j x hj).entN hC.ctx (hb x hx).1
 refine Ae (n:=72) func87 rfl rfl rfl ?_;refine jG ?_;refine jR<|jB ?_;intro ag bQ aD a0 aZ;have:w.heap.size≤ag:=aD;clear aD;have K0:=(aZ:Aq w _);refine jG ?_;refine jR<|jC (Vm am ms cm ac cl cc ae es ce _ hcap (hs.ext K0) (ht.ext K0) (hse.ext K0) Zo Zo Zo hb hcan0) ?_;rintro _ bR ⟨rfl,aE⟩;refine jG ?_;refine Aj.condF rfl ?_;replace a0:=a0.ext aE;refine jG ?_;refine jR<|jC (Ps none ([]:List UInt8) 0 es.length _ (As.nil _ _) (Nat.zero_le _) Zo) ?_;rintro _ bS ⟨bT,bU,rfl,aF,ax,aG⟩;have b0:=Ap ax a0.lt;replace K0:=K0.ext aE;have b1:=A1 K0.size ax;clear ax;replace a0:=a0.ext aG;refine jG ?_;replace K0:=K0.ext aG;refine Aj.loop (ι:=Nat) (fun i ρ' w'=>∃a':Option Addr,∃c':Nat,Holds ρ' [(1,jp ag),(5,.slice a' ((([]:List UInt8)++Ay es.length++(es.take i).flatMap Bb).length) c'),(21,.slice ae es.length ce),(22,.int .i64 ((es.length:Nat):Int)),(23,.int .i64 ((i:Nat):Int))]∧Aq w w'∧(AA w' ag [.slice ae es.length ce,.slice am ms.length cm,.slice ac cl.length cc] 33)∧(Af w' 5 a' c' (([]:List UInt8)++Ay es.length++(es.take i).flatMap Bb))∧(¬own a' ag)∧(∀q_,own a' q_→w.heap.size≤q_)∧(i≤es.length)) (fun i=>es.length-i) 0 ?_ ?_
 ·rw[show([]:List UInt8)++Ay es.length++(es.take 0).flatMap Bb=([]:List UInt8)++Ay es.length by simp]
  refine⟨_,_,⟨rfl,rfl,rfl,rfl,rfl,trivial⟩,K0,a0,aF,b0,b1,?_⟩
  ·omega
 clear a0 aF;clear K0;rintro i bV bW ⟨a',c',aH,K0,a0,a2,bX,bY,hi⟩ ih1;obtain⟨ρ₀,rfl⟩:=aH.ex;clear aH;refine jG ?_;refine jF ?_ ?_
 ·intro hc24
  obtain⟨bZ,c0,x,hx,c1,an⟩:=hse.eo i;have hc_25_lt:=an.lt;replace an:=an.ext K0;refine jG ?_;refine jR<|jA ?_;intro ao c2 ak a3 ay;have c3:=Ai a0.lt ak;have c4:=Ai an.lt ak;have b2:=Al a2.own_lt ak;have:=Nat.le_trans K0.size ak;clear ak;refine jR<|jS a3 ?_;intro c5 a3 az;obtain⟨⟨⟨hn1,hn2⟩,⟨hn3,hn4⟩,hn5,hn6⟩,⟨hq1,hq2⟩,⟨hp1,hp2⟩,hi32⟩:=hen x (NT hx);have hz1:=BR hn1 hn2;have hz2:=BR hn3 hn4;have hz3:=BR hn5 hn6;have hz4:=BR hq1 hq2;have hfl:=Do (f:=Bb) (m:=85) (l:=es.take i) fun y hy=>GI (hen y (List.mem_of_mem_take hy));have htl:(es.take i).length≤i:=List.length_take_le ..;replace a0:=(a0.ext ay).kp az;replace a2:=(a2.ext ay).keepO az (Ab b2);replace K0:=(K0.ext ay).n1 az
  have hti:(CD x.item).length≤41:=by
   have h7:x.item.data.toList.length=x.item.size:=by rw[Array.length_toList];rfl
   have h5:=BQ (n:=x.item.size) Zo;simp only[CD,List.length_append,h7];omega
  refine jG ?_;refine jR<|jC (Uo a' (([]:List UInt8)++Ay es.length++(es.take i).flatMap Bb) c' ((x).item) _ a2.sl (by first|omega|(simp only[List.length_append,List.length_cons,List.length_nil];omega)) Zo) ?_;rintro _ c6 ⟨ap,aI,rfl,a4,b3,aq⟩;clear b3;replace a3:=a3.ext aq;refine jG ?_;refine jR<|Av.buildSlice ([((x).dot).node,((x).dot).life,((x).dot).count,(x).qty]:List Int) underlying185 ty3 rfl rfl Ze ?_;intro aA c7 b4 a1 al;clear b4;refine jV (At (c:=4) (Cu underlying185 rfl) rfl) ?_;refine jG ?_;refine Aj.unloop ?_;refine jG ?_;refine Ed ?_;refine Ds ?_;obtain⟨c8,c9,b5,b6,b7,b8⟩:=a1.sl.el (i:=0) Zs;obtain rfl:((x).dot).node=b5:=Option.some.inj b6;refine jV (AI underlying185 ty3 rfl rfl b7 Zs) ?_;refine jV (Dw (v:= .int .i64 (((x).dot).node)) (y:=((x).dot).node) ty3 rfl b8 rfl) ?_;refine jG ?_;replace a4:=a4.ext al;refine jR<|jC (Ju ap ((([]:List UInt8)++Ay es.length++(es.take i).flatMap Bb)++CD ((x).item)) aI (((x).dot).node) _ a4.sl (by first|omega|(simp only[List.length_append,List.length_cons,List.length_nil];omega)) Zo Zo) ?_;rintro _ ca ⟨ar,aJ,rfl,a5,b9,aj⟩;clear b9;refine jG ?_;refine jV (At (c:=1) (An rfl rfl Zd Zd) Zd) ?_;refine jG ?_;refine Aj.inLoop ?_;refine jG ?_;refine Ed ?_;refine Ds ?_;replace a1:=a1.ext aj;obtain⟨cb,cd,ba,bb,bc,be⟩:=a1.sl.el (i:=1) Zs;obtain rfl:((x).dot).life=ba:=Option.some.inj bb;refine jV (AI underlying185 ty3 rfl rfl bc Zs) ?_;refine jV (Dw (v:= .int .i64 (((x).dot).life)) (y:=((x).dot).life) ty3 rfl be rfl) ?_;refine jG ?_;refine jR<|jC (Ju ar (((([]:List UInt8)++Ay es.length++(es.take i).flatMap Bb)++CD ((x).item))++Ay (((x).dot).node).toNat) aJ (((x).dot).life) _ a5.sl (by first|omega|(simp only[List.length_append,List.length_cons,List.length_nil];omega)) Zo Zo) ?_;rintro _ cf ⟨au,aK,rfl,a6,bg,ai⟩;clear bg;refine jG ?_;refine jV (At (c:=2) (An rfl rfl Zd Zd) Zd) ?_;refine jG ?_;refine Aj.inLoop ?_;refine jG ?_;refine Ed ?_;refine Ds ?_;replace a1:=a1.ext ai;obtain⟨cg,ch,bh,bi,bj,bk⟩:=a1.sl.el (i:=2) Zs;obtain rfl:((x).dot).count=bh:=Option.some.inj bi;refine jV (AI underlying185 ty3 rfl rfl bj Zs) ?_;refine jV (Dw (v:= .int .i64 (((x).dot).count)) (y:=((x).dot).count) ty3 rfl bk rfl) ?_;refine jG ?_;refine jR<|jC (Ju au ((((([]:List UInt8)++Ay es.length++(es.take i).flatMap Bb)++CD ((x).item))++Ay (((x).dot).node).toNat)++Ay (((x).dot).life).toNat) aK (((x).dot).count) _ a6.sl (by first|omega|(simp only[List.length_append,List.length_cons,List.length_nil];omega)) Zo Zo) ?_;rintro _ ci ⟨av,aL,rfl,a7,bl,ah⟩;clear bl;refine jG ?_;refine jV (At (c:=3) (An rfl rfl Zd Zd) Zd) ?_;refine jG ?_;refine Aj.inLoop ?_;refine jG ?_;refine Ed ?_;refine Ds ?_;replace a1:=a1.ext ah;obtain⟨cj,ck,bm,bn,bo,bp⟩:=a1.sl.el (i:=3) Zs;obtain rfl:(x).qty=bm:=Option.some.inj bn;refine jV (AI underlying185 ty3 rfl rfl bo Zs) ?_;refine jV (Dw (v:= .int .i64 ((x).qty)) (y:=(x).qty) ty3 rfl bp rfl) ?_;refine jG ?_;refine jR<|jC (Ju av (((((([]:List UInt8)++Ay es.length++(es.take i).flatMap Bb)++CD ((x).item))++Ay (((x).dot).node).toNat)++Ay (((x).dot).life).toNat)++Ay (((x).dot).count).toNat) aL ((x).qty) _ a7.sl (by first|omega|(simp only[List.length_append,List.length_cons,List.length_nil];omega)) Zo Zo) ?_;rintro _ cn ⟨co,cp,rfl,aM,a8,ab⟩;replace a0:=((((a0.ext aq).ext al).ext aj).ext ai).ext ah;have bq:=Ap a8 a0.lt;replace a2:=((((a2.ext aq).ext al).ext aj).ext ai).ext ah;have bs:=Ao a8 a2.own_lt;replace a3:=(((a3.ext al).ext aj).ext ai).ext ah
  have bt:=Ap a8 a3.lt;replace a4:=((a4.ext aj).ext ai).ext ah;have bu:=Ao a8 a4.own_lt;have bv:=Ao a8 a1.own_lt;replace a5:=(a5.ext ai).ext ah;have bw:=Ao a8 a5.own_lt;replace a6:=a6.ext ah;have bx:=Ao a8 a6.own_lt;have bz:=Ao a8 a7.own_lt;replace K0:=((((K0.ext aq).ext al).ext aj).ext ai).ext ah;have bA:=A1 K0.size a8;clear a8;refine jG ?_;refine jV (At (c:=4) (An rfl rfl Zd Zd) Zd) ?_;refine jG ?_;refine Aj.inLoop ?_;refine jG ?_;refine Aj.condF rfl ?_;refine jG ?_;replace a0:=a0.ext ab;replace a2:=a2.ext ab;replace a3:=a3.ext ab;replace a4:=a4.ext ab;replace a1:=a1.ext ab;replace a5:=a5.ext ab;replace a6:=a6.ext ab;replace a7:=a7.ext ab;replace K0:=K0.ext ab;refine Aj.loop (ι:=Nat) (fun k ρ' w'=>∃a'':Option Addr,∃c'':Nat,Holds ρ' [(1,jp ag),(5,.slice a'' ((((((((([]:List UInt8)++Ay es.length++(es.take i).flatMap Bb)++CD x.item)++Ay x.dot.node.toNat)++Ay x.dot.life.toNat)++Ay x.dot.count.toNat)++Ay x.qty.toNat)++KI x.price.toNat k).length) c''),(7,jp ao),(21,.slice ae es.length ce),(22,.int .i64 ((es.length:Nat):Int)),(23,.int .i64 ((i:Nat):Int)),(24,.bool (decide (((i:Nat):Int)<((es.length:Nat):Int)))),(52,.int .i64 ((k:Nat):Int))]∧Aq w w'∧(AA w' ag [.slice ae es.length ce,.slice am ms.length cm,.slice ac cl.length cc] 33)∧(AA w' ao [.string ((x).item),.int .i64 (((x).dot).node),.int .i64 (((x).dot).life),.int .i64 (((x).dot).count),.int .i64 ((x).qty),.int .u64 ((x).price)] 76)∧(Af w' 5 a' c' (([]:List UInt8)++Ay es.length++(es.take i).flatMap Bb))∧(Af w' 5 ap aI ((([]:List UInt8)++Ay es.length++(es.take i).flatMap Bb)++CD ((x).item)))∧(Af w' 3 (some ⟨aA,0,none⟩) (([((x).dot).node,((x).dot).life,((x).dot).count,(x).qty]:List Int).length) ([((x).dot).node,((x).dot).life,((x).dot).count,(x).qty]:List Int))∧(Af w' 5 ar aJ (((([]:List UInt8)++Ay es.length++(es.take i).flatMap Bb)++CD ((x).item))++Ay (((x).dot).node).toNat))∧(Af w' 5 au aK ((((([]:List UInt8)++Ay es.length++(es.take i).flatMap Bb)++CD ((x).item))++Ay (((x).dot).node).toNat)++Ay (((x).dot).life).toNat))∧(Af w' 5 av aL (((((([]:List UInt8)++Ay es.length++(es.take i).flatMap Bb)++CD ((x).item))++Ay (((x).dot).node).toNat)++Ay (((x).dot).life).toNat)++Ay (((x).dot).count).toNat))∧(Af w' 5 a'' c'' (((((((([]:List UInt8)++Ay es.length++(es.take i).flatMap Bb)++CD x.item)++Ay x.dot.node.toNat)++Ay x.dot.life.toNat)++Ay x.dot.count.toNat)++Ay x.qty.toNat)++KI x.price.toNat k))∧(¬own a'' ag)∧(¬own a'' ao)∧(∀q_,own a'' q_→¬own a' q_)∧(∀q_,own a'' q_→¬own ap q_)∧(∀q_,own a'' q_→¬own (some ⟨aA,0,none⟩) q_)∧(∀q_,own a'' q_→¬own ar q_)∧(∀q_,own a'' q_→¬own au q_)∧(∀q_,own a'' q_→¬own av q_)∧(∀q_,own a'' q_→w.heap.size≤q_)∧(k≤8)) (fun k=>8-k) 0 ?_ ?_
  ·rw[show((((((([]:List UInt8)++Ay es.length++(es.take i).flatMap Bb)++CD x.item)++Ay x.dot.node.toNat)++Ay x.dot.life.toNat)++Ay x.dot.count.toNat)++Ay x.qty.toNat)++KI x.price.toNat 0=(((((([]:List UInt8)++Ay es.length++(es.take i).flatMap Bb)++CD x.item)++Ay x.dot.node.toNat)++Ay x.dot.life.toNat)++Ay x.dot.count.toNat)++Ay x.qty.toNat by rw[Sp,List.append_nil]]
   refine⟨_,_,⟨rfl,rfl,rfl,rfl,rfl,rfl,rfl,rfl,trivial⟩,K0,a0,a3,a2,a4,a1,a5,a6,a7,aM,bq,bt,bs,bu,bv,bw,bx,bz,bA,?_⟩
   ·omega
  clear a0 a2 a3 a4 a1 a5 a6 a7 aM;clear K0;rintro k cq cr ⟨a'',c'',aN,K0,a0,a3,a2,a4,a1,a5,a6,a7,aw,aB,aO,aP,aQ,aR,aS,aT,aU,aC,hk⟩ ih3;obtain⟨ρ₀,rfl⟩:=aN.ex;clear aN;refine jG ?_;refine jF ?_ ?_
  ·intro hc53
   have hll:=Lt x.price.toNat k;refine LO ?_;refine jV (At (c:=((x.price.toNat:Nat):Int)) (Ey ty74 rfl rfl (a3.cl.field (i:=5) rfl)) Zo) ?_;refine jG ?_;refine jV (At (c:=((8*k:Nat):Int)) (Qp rfl rfl Zo Zo) rfl) ?_;refine jV (Qx (kd:= .u64) (a:=x.price.toNat) (b:=8*k) rfl rfl (by show 8*k≤64;omega)) ?_;refine jV (D9 (a:=x.price.toNat/2^(8*k)) rfl ⟨_,underlying74⟩ underlying5) ?_;refine jR<|Av.buildSlice ([UInt8.ofNat (x.price.toNat/2^(8*k))]:List UInt8) underlying98 ty5 rfl rfl Ze ?_;intro cs ct bB bC a9;clear bB;replace aw:=aw.ext a9;refine jR<|Av.append (xs:=((((((([]:List UInt8)++Ay es.length++(es.take i).flatMap Bb)++CD x.item)++Ay x.dot.node.toNat)++Ay x.dot.life.toNat)++Ay x.dot.count.toNat)++Ay x.qty.toNat)++KI x.price.toNat k) (ys:=([UInt8.ofNat (x.price.toNat/2^(8*k))]:List UInt8)) underlying98 ty5 rfl rfl rfl aw bC.sl Zr Zd ?_;intro ad cu cv bD af aa bE;replace a0:=a0.ext a9;have bF:¬own ad ag:=aa.not aB a0.lt;replace a3:=a3.ext a9;have bG:¬own ad ao:=aa.not aO a3.lt;replace a2:=a2.ext a9;have bH:∀q_,own ad q_→¬own a' q_:=aa.apart aP a2.own_lt;replace a4:=a4.ext a9;have bI:∀q_,own ad q_→¬own ap q_:=aa.apart aQ a4.own_lt;replace a1:=a1.ext a9;have bJ:∀q_,own ad q_→¬own (some ⟨aA,0,none⟩) q_:=aa.apart aR a1.own_lt;replace a5:=a5.ext a9;have bK:∀q_,own ad q_→¬own ar q_:=aa.apart aS a5.own_lt;replace a6:=a6.ext a9;have bL:∀q_,own ad q_→¬own au q_:=aa.apart aT a6.own_lt;replace a7:=a7.ext a9;have bM:∀q_,own ad q_→¬own av q_:=aa.apart aU a7.own_lt;replace K0:=K0.ext a9;have bN:∀q_,own ad q_→w.heap.size≤q_:=aa.ge aC K0.size;clear aa;clear bE;refine jG ?_;refine jV (At (c:=((k+1:Nat):Int)) (An rfl rfl Zo Zo) rfl) ?_;refine jG ?_;have e:((((((([]:List UInt8)++Ay es.length++(es.take i).flatMap Bb)++CD x.item)++Ay x.dot.node.toNat)++Ay x.dot.life.toNat)++Ay x.dot.count.toNat)++Ay x.qty.toNat)++KI x.price.toNat (k+1)=(((((((([]:List UInt8)++Ay es.length++(es.take i).flatMap Bb)++CD x.item)++Ay x.dot.node.toNat)++Ay x.dot.life.toNat)++Ay x.dot.count.toNat)++Ay x.qty.toNat)++KI x.price.toNat k)++[UInt8.ofNat (x.price.toNat/2^(8*k))]:=by rw[Sq];simp only[List.append_assoc]
   refine ih3 (k+1) _ _ ?_ Zo;rw[e];replace a0:=a0.keep af aB;replace a3:=a3.keep af aO;replace a2:=a2.keepO af (Zf aP);replace a4:=a4.keepO af (Zf aQ);replace a1:=a1.keepO af (Zf aR);replace a5:=a5.keepO af (Zf aS);replace a6:=a6.keepO af (Zf aT);replace a7:=a7.keepO af (Zf aU);replace K0:=K0.new af aC;refine⟨_,_,⟨rfl,rfl,rfl,rfl,rfl,rfl,rfl,rfl,trivial⟩,K0,a0,a3,a2,a4,a1,a5,a6,a7,bD,bF,bG,bH,bI,bJ,bK,bL,bM,bN,?_⟩
   ·omega
  ·intro hc53
   refine jG ?_;refine jV (At (c:=((i+1:Nat):Int)) (An rfl rfl Zo Zo) rfl) ?_;refine jG ?_;have hk8:k=8:=by omega
   subst hk8;have e:([]:List UInt8)++Ay es.length++(es.take (i+1)).flatMap Bb=((((((([]:List UInt8)++Ay es.length++(es.take i).flatMap Bb)++CD x.item)++Ay x.dot.node.toNat)++Ay x.dot.life.toNat)++Ay x.dot.count.toNat)++Ay x.qty.toNat)++KI x.price.toNat 8:=by rw[Hl hx,Bb];simp only[List.append_assoc]
   refine ih1 (i+1) _ _ ?_ Zo;rw[e];refine⟨_,_,⟨rfl,rfl,rfl,rfl,rfl,trivial⟩,K0,a0,aw,aB,aC,?_⟩
   ·omega
 ·intro hc24
  have hfl:=Do (f:=Bb) (m:=85) (l:=es.take i) fun y hy=>GI (hen y (List.mem_of_mem_take hy));have htl:(es.take i).length≤i:=List.length_take_le ..;refine jG ?_;refine jR<|jC (We a' (([]:List UInt8)++Ay es.length++(es.take i).flatMap Bb) c' am ms cm ac cl cc _ a2.sl (hs.ext K0) (ht.ext K0) hC.ctx (by first|omega|(simp only[List.length_append,List.length_cons,List.length_nil];omega))) ?_;rintro _ cw ⟨aV,aW,rfl,aX,aY,bO⟩;have bP:=A1 K0.size aY;clear aY;refine jG ?_;refine Aj.ret2 (v:= .slice aV (((([]:List UInt8)++Ay es.length++(es.take i).flatMap Bb)++Ew ms cl).length) aW) (x:= .int .i64 0) func87 rfl rfl rfl ?_;have hie:i=es.length:=by omega
  subst hie;have e_:(([]:List UInt8)++Ay es.length++(es.take es.length).flatMap Bb)++Ew ms cl=KJ es++Ew ms cl:=by rw[List.take_length,KJ,List.nil_append]
  rw[e_]at aX⊢;replace K0:=K0.ext bO;exact⟨_,rfl,aV,aW,rfl,aX,bP,K0⟩
end Go.Proofs.YtjkaicjmfgekjaaGreatDoor
namespace Go.Proofs.YtjkaicjmfgekjaaGreatDoor
open Go.Proofs.Tryz
attribute [local irreducible] RD RS Av RL RA RT CJ Aj
attribute [local irreducible] AE FC CC BS BL B2 B0 Du
attribute [local irreducible] DQ D5 itemsN CQ A0 Bj B4 Gr A6 Bw
attribute [local irreducible] Au DL AH BX AM
attribute [local irreducible] BY KI CD Bb
structure BB (v:MV)(s:FE):Prop where
 ok:PM v
 ent:EN v.ent
 cap:v.ent.length≤s.ec
section
variable {ms ms2:List Aa}{cl cl2:List Ad}{es es2:List Ag}
theorem KK (h:(Ar ms cl ms2 cl2).1=0):DF (Ar ms cl ms2 cl2).2.1 (Ar ms cl ms2 cl2).2.2:=by
 by_cases hc:B4 ms cl=true∧B4 ms2 cl2=true
 ·have hA:=C5.1 hc.1
  have hB:=C5.1 hc.2
  have hM:∀m∈ms++ms2,AE m.d:=fun m hm=>(List.mem_append.1 hm).elim (fun h=>hA.may h) (fun h=>hB.may h)
  have hD:∀d∈cl++cl2,AE d:=fun d hd=>(List.mem_append.1 hd).elim (fun h=>hA.mayC h) (fun h=>hB.mayC h)
  have hp:=G5 hM hD
  obtain⟨hcn,hcv⟩:=GE hp.1 hp.2
  rw[CG hc.1 hc.2]at h⊢
  by_cases hl:64<(Bu (ms++ms2) (cl++cl2)).1.length∨64<(Bu (ms++ms2) (cl++cl2)).2.length
  ·rw[(DC hM hD).1 hl]at h;exact absurd h Zd
  ·rw[(DC hM hD).2 hl]
   have hmay:=hcn.may (fun d hd=>by
    obtain⟨h1,h2⟩:=(hcv d).1 hd
    rcases h2 with⟨m,hm,ha,hle⟩|h2
    ·have:=hM m hm
     simp only[AE,Aa.d,Ad.a,AU.mk.injEq]at*
     omega
    ·exact hD d h2)
   exact hcn.can Zo Zo hmay.1 hmay.2
 ·rw[Jg hc]at h;exact absurd h Zd
theorem NU (h:(A7 ms cl es ms2 cl2 es2).1=0):(Ar ms cl ms2 cl2).1=0∧(A7 ms cl es ms2 cl2 es2).2.1=(Ar ms cl ms2 cl2).2:=by
 by_cases h1:Bj ms cl es=0
 ·by_cases h2:Bj ms2 cl2 es2=0
  ·by_cases h3:(Ar ms cl ms2 cl2).1=0
   ·by_cases h4:64<(AR ms cl es ms2 cl2 es2).length∨32<itemsN (AR ms cl es ms2 cl2 es2)
    ·rw[Gg h1 h2 h3 h4]at h;exact absurd h Zd
    ·by_cases h5:Fc es es2
     ·rw[Hj h1 h2 h3 h4 h5]at h;exact absurd h Zd
     ·rw[Eu h1 h2 h3 h4 h5];exact⟨h3,rfl⟩
   ·rw[Hi h1 h2 h3]at h;exact absurd h h3
  ·rw[Fw h1 h2]at h;exact absurd h h2
 ·rw[Hh h1]at h;exact absurd h h1
theorem joinC_lens :(A7 ms cl es ms2 cl2 es2).2.1.1.length≤64∧(A7 ms cl es ms2 cl2 es2).2.1.2.length≤64:=by
 by_cases h1:Bj ms cl es=0
 ·by_cases h2:Bj ms2 cl2 es2=0
  ·by_cases h3:(Ar ms cl ms2 cl2).1=0
   ·by_cases h4:64<(AR ms cl es ms2 cl2 es2).length∨32<itemsN (AR ms cl es ms2 cl2 es2)
    ·rw[Gg h1 h2 h3 h4];exact⟨Nat.zero_le _,Nat.zero_le _⟩
    ·by_cases h5:Fc es es2
     ·rw[Hj h1 h2 h3 h4 h5];exact⟨Nat.zero_le _,Nat.zero_le _⟩
     ·rw[Eu h1 h2 h3 h4 h5];exact Fd
   ·rw[Hi h1 h2 h3];exact⟨Nat.zero_le _,Nat.zero_le _⟩
  ·rw[Fw h1 h2];exact⟨Nat.zero_le _,Nat.zero_le _⟩
 ·rw[Hh h1];exact⟨Nat.zero_le _,Nat.zero_le _⟩
end
noncomputable def BZ (a b:MV):Int:=(A7 a.mrk a.cl a.ent b.mrk b.cl b.ent).1
noncomputable def AD (a b:MV):MV:={nilV with ent:=(A7 a.mrk a.cl a.ent b.mrk b.cl b.ent).2.2,mrk:=(A7 a.mrk a.cl a.ent b.mrk b.cl b.ent).2.1.1,cl:=(A7 a.mrk a.cl a.ent b.mrk b.cl b.ent).2.1.2}
noncomputable def Ca (a:MV):Int:=Bj a.mrk a.cl a.ent
def Wg (a:MV):Prop:=DF a.mrk a.cl
theorem KL {a b:MV}(h:BZ a b=0):Wg (AD a b):=by
 obtain⟨h1,h2⟩:=NU h
 show DF (A7 a.mrk a.cl a.ent b.mrk b.cl b.ent).2.1.1 (A7 a.mrk a.cl a.ent b.mrk b.cl b.ent).2.1.2
 rw[h2];exact KK h1
theorem Jv {w:World}{a b:MV}{s:FE}(ha:EN a.ent)(hb:EN b.ent)(h:C7 w s (AD a b)):BB (AD a b) s:=
 ⟨⟨by have:(AD a b).ent.length≤64:=joinC_len;omega,by have:(AD a b).mrk.length≤64:=joinC_lens.1;omega,by have:(AD a b).cl.length≤64:=joinC_lens.2;omega,Nat.zero_le _,Nat.zero_le _,Nat.zero_le _⟩,EN.kept ha hb,h.ent.le_cap⟩
theorem Wg.nil :Wg nilV:=⟨Nat.zero_le _,Nat.zero_le _,fun i m h=>by simp[nilV]at h,fun i m h=>by simp[nilV]at h⟩
theorem Up (v:MV)(s:FE)(w:World)(hR:Bn w s v)(ho:BB v s):Calls prog 35 #[.agg #[.slice s.ea v.ent.length s.ec,.slice s.ma v.mrk.length s.mc,.slice s.ca v.cl.length s.cc]] w (AS fun r w'=>r= .int .i64 (Ca v)∧Aq w w'):=by
 unfold Ca
 exact O0 s.ma v.mrk s.mc s.ca v.cl s.cc s.ea v.ent s.ec w ho.cap hR.mrk hR.cl hR.ent ho.ok.mrk ho.ok.cl ho.ok.ent ho.ent
theorem Vn (a b:MV)(s t:FE)(w:World)(hA:Bn w s a)(hB:Bn w t b)(hoa:BB a s)(hob:BB b t):Calls prog 83 #[.agg #[.slice s.ea a.ent.length s.ec,.slice s.ma a.mrk.length s.mc,.slice s.ca a.cl.length s.cc],.agg #[.slice t.ea b.ent.length t.ec,.slice t.ma b.mrk.length t.mc,.slice t.ca b.cl.length t.cc]] w (AS fun r w'=>∃s',r= .tuple #[.agg #[.slice (((DE (AD a b) s').cart).entries.a) (((DE (AD a b) s').cart).entries.len) (((DE (AD a b) s').cart).entries.cap),.slice ((((DE (AD a b) s').cart).ctx).marks.a) ((((DE (AD a b) s').cart).ctx).marks.len) ((((DE (AD a b) s').cart).ctx).marks.cap),.slice ((((DE (AD a b) s').cart).ctx).cloud.a) ((((DE (AD a b) s').cart).ctx).cloud.len) ((((DE (AD a b) s').cart).ctx).cloud.cap)],.int .i64 (BZ a b)]∧C7 w' s' (AD a b)∧Gs s'∧(∀q,Dn s' q→w.heap.size≤q)∧Aq w w'):=by
 refine(Vk s.ma a.mrk s.mc s.ca a.cl s.cc s.ea a.ent s.ec t.ma b.mrk t.mc t.ca b.cl t.cc t.ea b.ent t.ec w hoa.cap hob.cap hA.mrk hA.cl hA.ent hB.mrk hB.cl hB.ent hoa.ok.mrk hoa.ok.cl hoa.ok.ent hob.ok.mrk hob.ok.cl hob.ok.ent hoa.ent hob.ent).mono ?_
 rintro e_ w_ ⟨r_,h1,ae,ce,am,cm,ac,cc,hv,he,hm,hc,a1,a2,a3,g1,g2,g3,K⟩
 refine⟨r_,h1,⟨ae,ce,am,cm,ac,cc,none,0,none,0,none,0⟩,?_,?_,⟨a1,a2,a3⟩,?_,K⟩
 ·rw[hv];unfold AD BZ;rfl
 ·unfold AD;exact⟨he,hm,hc⟩
 ·rintro q (h|h|h)
  ·exact g1 q h
  ·exact g2 q h
  ·exact g3 q h
def Ia (v:MV):List UInt8:=KJ v.ent++Ew v.mrk v.cl
def Gj (key:ByteArray)(v:MV):List UInt8:=([UInt8.ofNat 2]:List UInt8)++CD key++Ia v
theorem Wh (v:MV)(s:FE)(w:World)(hR:Bn w s v)(ho:BB v s)(hc:Ca v=0):Calls prog 87 #[.agg #[.slice s.ea v.ent.length s.ec,.slice s.ma v.mrk.length s.mc,.slice s.ca v.cl.length s.cc]] w (AS fun r w'=>∃a' c',r= .tuple #[.slice a' (Ia v).length c',.int .i64 0]∧Af w' 5 a' c' (Ia v)∧(∀q,own a' q→w.heap.size≤q)∧Aq w w'):=
 Wf s.ma v.mrk s.mc s.ca v.cl s.cc s.ea v.ent s.ec w ho.cap hR.mrk hR.cl hR.ent ho.ok.mrk ho.ok.cl ho.ok.ent ho.ent hc
theorem MQ {v:MV}(hb:EN v.ent)(hc:Ca v=0):(Ia v).length≤9000:=by
 have hC:=Co hc
 have h64:=hC.len
 have hen:∀x∈v.ent,entN x:=fun x hx=>by
  obtain⟨j,hj⟩:=List.getElem?_of_mem hx
  exact(hC.ent j x hj).entN hC.ctx (hb x hx).1
 have h1:=BQ (n:=v.ent.length) Zo
 have h2:=Do (f:=Bb) (m:=85) (l:=v.ent) fun y hy=>GI (hen y hy)
 have h3:(FV (v.mrk.map Aa.d)).length≤9+27*(v.mrk.map Aa.d).length:=Jt (fun d hd=>by obtain⟨m,hm,rfl⟩:=List.mem_map.1 hd;exact(hC.ctx.may hm).nn) (by rw[List.length_map];have:=hC.ctx.1;omega)
 have h4:=Jt (l:=v.cl) (fun d hd=>(hC.ctx.mayC hd).nn) (by have:=hC.ctx.2.1;omega)
 have h5:=hC.ctx.1
 have h6:=hC.ctx.2.1
 rw[List.length_map]at h3
 simp only[Ia,KJ,Ew,List.length_append];omega
attribute [local irreducible] Ia
attribute [local irreducible] X
theorem Ff (v:MV)(s:FE)(w:World)(hR:Bn w s v)(hv:PM v):
  Calls prog 38 #[.agg #[.slice s.ea v.ent.length s.ec,.slice s.ma v.mrk.length s.mc,.slice s.ca v.cl.length s.cc]] w (AS (fun r w'=>∃s',r= .agg #[.slice s'.ea v.ent.length s'.ec,.slice s'.ma v.mrk.length s'.mc,.slice s'.ca v.cl.length s'.cc]∧C7 w' s' v∧Gs s'∧(∀q,Dn s' q→w.heap.size≤q)∧Aq w w')):=by
 have hv0:=hv;obtain⟨hv1,hv2,hv3,hv4,hv5,hv6⟩:=hv;refine Ae (n:=16) func38 rfl rfl rfl ?_;refine jG ?_;refine jR<|jB ?_;intro an aA al a1 am;have:w.heap.size≤an:=al;clear al;have K0:=(am:Aq w _);refine jR<|jA ?_;intro aB aC a7 a0 ag;have aD:=Ai a1.lt a7;replace hR:=hR.ext am;have ao:=Al hR.own_lt a7;have:=Nat.le_trans K0.size a7;clear a7;refine jG ?_;refine Aj.drawS [13] [0,1001,3,4,1005,7,8,1009,2002,2006,2010,11,12,2013] ?_;intro aE a8;replace a1:=(a1.ext ag).ext a8;refine jM (jb a1 Jn) ?_;refine jG ?_;replace hR:=(hR.ext ag).ext a8;refine jU rfl<|jC (Kl _ _ _ _ (hR).ent Zo) ?_;rintro _ aF ⟨ah,ai,rfl,a2,aj,a9⟩;replace a0:=a0.ext a8;have ap:=Ap aj a0.lt;replace K0:=(K0.ext ag).ext a8;have aq:=A1 K0.size aj;clear aj;replace a1:=a1.ext a9;refine jG ?_;replace hR:=hR.ext a9;refine jU rfl<|jC (Kn _ _ _ _ (hR).mrk Zo) ?_;rintro _ aG ⟨aa,ab,rfl,ac,ad,a4⟩;replace a0:=a0.ext a9;have ar:=Ap ad a0.lt;have au:=Ao ad a2.own_lt;replace K0:=K0.ext a9;have av:=A1 K0.size ad;clear ad;replace a1:=a1.ext a4;refine jG ?_;replace hR:=hR.ext a4;refine jU rfl<|jC (Le _ _ _ _ (hR).cl Zo) ?_;rintro _ aH ⟨ae,af,rfl,ak,a5,a3⟩;replace a0:=a0.ext a4;have aw:=Ap a5 a0.lt;replace a2:=a2.ext a4;have ax:=Ao a5 a2.own_lt;have ay:=Ao a5 ac.own_lt;replace K0:=K0.ext a4;have az:=A1 K0.size a5;clear a5;replace a1:=a1.ext a3;refine jG ?_;refine jP ?_ (hx:=by exact fun _=>(AC (cells:=#[.slice aa v.mrk.length ab,.slice ae v.cl.length af]) Zk));refine jP ?_ (hx:=by exact fun _=>(AC (cells:=#[.slice ah v.ent.length ai,.slice aa v.mrk.length ab,.slice ae v.cl.length af]) Zk));replace a0:=a0.ext a3;refine jU rfl<|jS a0 ?_;intro aI a0 a6;refine jG ?_;refine Aj.retC (cs:=#[.slice ah v.ent.length ai,.slice aa v.mrk.length ab,.slice ae v.cl.length af]) func38 rfl ty33 rfl rfl a0.cl ?_;replace hR:=(hR.ext a3).keepO a6 (Ab ao);replace a2:=(a2.ext a3).keepO a6 (Ab ap);replace ac:=(ac.ext a3).keepO a6 (Ab ar);replace K0:=(K0.ext a3).n1 a6;replace ak:=ak.keepO a6 (Ab aw)
 exact⟨_,rfl,⟨ah,ai,aa,ab,ae,af,none,0,none,0,none,0⟩,rfl,⟨a2,ac,ak⟩,⟨(Zf au),(Zf ax),(Zf ay)⟩,fun q hq=>by
  rcases hq with hq|hq|hq
  ·exact aq q hq
  ·exact av q hq
  ·exact az q hq,K0⟩
theorem Wi (w:World):
  Calls prog 61 #[.int .i64 2,.slice none 0 0] w (AS (fun v w'=>∃a' c',v= .slice a' ([UInt8.ofNat 2]:List UInt8).length c'∧Af w' 5 a' c' ([UInt8.ofNat 2]:List UInt8)∧(∀q,own a' q→w.heap.size≤q)∧Aq w w')):=by
 refine Ae (n:=22) func61 rfl rfl rfl ?_;refine jG ?_;refine jV (D9 (a:=2) rfl ⟨_,underlying3⟩ underlying5) ?_;refine jR<|Av.buildSlice ([UInt8.ofNat 2]:List UInt8) underlying98 ty5 rfl rfl Ze ?_;intro a1 a5 a0 a2 a3;have a4:=A1 (Nat.le_refl _) (A9 a0);clear a0;have K0:=(a3:Aq w _);refine FJ ?_;refine jV (At (c:=0) (Cu underlying185 rfl) rfl) ?_;refine jG ?_;refine Aj.unloop ?_;refine jG ?_;refine Aj.condF rfl ?_;refine jG ?_;refine jJ func61 ?_;exact⟨_,rfl,(some ⟨a1,0,none⟩),([UInt8.ofNat 2]:List UInt8).length,rfl,a2,a4,K0⟩
theorem MR (key:ByteArray)(v:MV)(s:FE)(w:World)(hR:Bn w s v)(hok:BB v s)(hc:Ca v=0)(hk:key.size≤32):
  Calls prog 39 #[.string key,.agg #[.slice s.ea v.ent.length s.ec,.slice s.ma v.mrk.length s.mc,.slice s.ca v.cl.length s.cc]] w (AS (fun r w'=>∃a' c',r= .tuple #[.slice a' (Gj key v).length c',.int .i64 0]∧Af w' 5 a' c' (Gj key v)∧(∀q,own a' q→w.heap.size≤q)∧Aq w w')):=by
 have hL:(([UInt8.ofNat 2]:List UInt8)++CD key).length=1+(CD key).length:=by rw[List.length_append];rfl
 have hel:=MQ hok.ent hc
 have htl:(CD key).length≤41:=by
  have h7:key.data.toList.length=key.size:=by rw[Array.length_toList];rfl
  have h5:=BQ (n:=key.size) Zo;unfold CD;rw[List.length_append,h7];omega
 refine Ae (n:=21) func39 rfl rfl rfl ?_;refine jG ?_;refine jR<|jB ?_;intro ab am a3 an a4;have:w.heap.size≤ab:=a3;clear a3;have K0:=(a4:Aq w _);refine jG ?_;replace hR:=hR.ext a4;refine jR<|jC (Wh v s _ hR hok hc) ?_;rintro _ ao ⟨ap,aq,rfl,a0,ac,a5⟩;clear ac;refine jG ?_;refine Aj.condF rfl ?_;refine jG ?_;refine jR<|jC (Wi _) ?_;rintro _ ar ⟨ad,ae,rfl,af,ag,a1⟩;clear ag;refine jG ?_;refine jR<|jC (Uo ad ([UInt8.ofNat 2]:List UInt8) ae key _ af.sl (by first|omega|(simp only[List.length_append,List.length_cons,List.length_nil];omega)) Zo) ?_;rintro _ au ⟨av,aw,rfl,ah,a2,a6⟩;replace hR:=(hR.ext a5).ext a1;have ax:=Ao a2 hR.own_lt;replace K0:=(K0.ext a5).ext a1;have a7:=A1 K0.size a2;clear a2;refine jG ?_;replace a0:=(a0.ext a1).ext a6;refine jR<|Av.append (xs:=([UInt8.ofNat 2]:List UInt8)++CD key) (ys:=Ia v) underlying98 ty5 rfl rfl rfl ah a0.sl Zr Zd ?_;intro a8 ai ay a9 aj aa ak;replace K0:=K0.ext a6;have al:∀q_,own a8 q_→w.heap.size≤q_:=aa.ge a7 K0.size;clear aa;clear ak;refine jG ?_;refine jK func39 ?_;have e_:(([UInt8.ofNat 2]:List UInt8)++CD key)++Ia v=Gj key v:=rfl;rw[e_]at a9⊢;replace K0:=K0.new aj a7;exact⟨_,rfl,a8,ai,rfl,a9,al,K0⟩
end Go.Proofs.YtjkaicjmfgekjaaGreatDoor
namespace Go.Proofs.YtjkaicjmfgekjaaGreatDoor
open Go.Proofs.Tryz
attribute [local irreducible] RD RS Av RL RA RT CJ Aj
attribute [local irreducible] AE FC CC BS BL B2 B0 Du
attribute [local irreducible] DQ D5 itemsN CQ A0 Bj B4 Gr A6 Bw
attribute [local irreducible] Au DL AH BX AM
attribute [local irreducible] BY KI CD Bb Ia Gj
structure Kc where
 key:ByteArray
 v:MV
 s:FE
def Kc.kv (t:Kc):ByteArray×Value:=(t.key,.agg #[.slice t.s.ea t.v.ent.length t.s.ec,.slice t.s.ma t.v.mrk.length t.s.mc,.slice t.s.ca t.v.cl.length t.s.cc])
theorem MS (key:ByteArray):Dc ([]:List (ByteArray×Value)) key=none:=rfl
noncomputable def wN :Option MV→MV→Int
 |none,_=>0
 |some a,v=>BZ a v
noncomputable def wV :Option MV→MV→MV
 |none,v=>v
 |some a,v=>AD a v
attribute [local irreducible] X
theorem Sr (b lg m1 m2 m3:Nat)(st:Int)(key:ByteArray)(v:MV)(s:FE)(w:World)(hb:AA w b [.int .i32 1,.int .u32 0,jp lg,.int .i64 st,.map (some m1),.map (some m2),.map (some m3)] 94)(hM3:AQ w m3 ([]:List (ByteArray×Value)))(hR:Bn w s v)(hv:PM v):
  Calls prog 82 #[jp b,.string key,.agg #[.slice s.ea v.ent.length s.ec,.slice s.ma v.mrk.length s.mc,.slice s.ca v.cl.length s.cc]] w (AS (fun r w'=>∃s',r= .tuple #[.agg #[.slice s'.ea v.ent.length s'.ec,.slice s'.ma v.mrk.length s'.mc,.slice s'.ca v.cl.length s'.cc],.int .i64 0]∧C7 w' s' v∧Gs s'∧(∀q,Dn s' q→w.heap.size≤q)∧Aq w w')):=by
 refine Ae (n:=51) func82 rfl rfl rfl ?_;refine jG ?_;refine jR<|jB ?_;intro ab af a5 a6 a4;have ag:=Ai hb.lt a5;have:w.heap.size≤ab:=a5;clear a5;have K0:=(a4:Aq w _);refine jR<|jA ?_;intro ah ai a1 a2 a3;replace hb:=hb.ext a4;have aj:=Ai hb.lt a1;have ak:=Ai a6.lt a1;replace hM3:=hM3.ext a4;have al:=Al hM3.own_lt a1;replace hR:=hR.ext a4;have am:=Al hR.own_lt a1;have:=Nat.le_trans K0.size a1;clear a1;replace hb:=hb.ext a3;refine jG ?_;replace hM3:=hM3.ext a3;refine jV (Gx (v':= .slice none 0 0) (FI underlying92 underlying9 rfl ty28 rfl rfl hM3) (by rw[MS];rfl)) ?_;refine jV (At (c:=0) (Cu underlying28 rfl) rfl) ?_;refine jG ?_;refine Aj.unloop ?_;refine jG ?_;refine Aj.condF rfl ?_;refine jG ?_;refine jV (Gx (v':= .slice none 0 0) (FI underlying92 underlying9 rfl ty28 rfl rfl hM3) (by rw[MS];rfl)) ?_;refine jV (At (c:=0) (Cu underlying28 rfl) rfl) ?_;refine jG ?_;refine Aj.unloop ?_;refine jG ?_;refine Aj.condF rfl ?_;replace a6:=a6.ext a3;refine jG ?_;replace hR:=hR.ext a3;refine jR<|jC (Ff v s _ hR Za) ?_;rintro _ an ⟨a0,rfl,a7,ac,a8,a9⟩;have ad:=Ap a8 a2.lt;replace K0:=K0.ext a3;have ae:=A1 K0.size a8;clear a8;replace a2:=a2.ext a9;refine jR<|jS a2 ?_;intro ao a2 aa;refine jG ?_;refine Aj.retCT (x:= .int .i64 0) (cs:=#[.slice a0.ea v.ent.length a0.ec,.slice a0.ma v.mrk.length a0.mc,.slice a0.ca v.cl.length a0.cc]) func82 rfl ty33 rfl rfl a2.cl rfl ?_;replace K0:=(K0.ext a9).n1 aa;replace a7:=a7.keepO aa (Ab ad);exact⟨_,rfl,a0,rfl,a7,ac,ae,K0⟩
theorem Uq (b lg m1 m2 m3:Nat)(st:Int)(ps:List (ByteArray×Value))(o:Option Kc)(key:ByteArray)(v:MV)(s:FE)(w:World)(hb:AA w b [.int .i32 1,.int .u32 0,jp lg,.int .i64 st,.map (some m1),.map (some m2),.map (some m3)] 94)(hM1:AQ w m1 ps)(hM3:AQ w m3 ([]:List (ByteArray×Value)))(hR:Bn w s v)(hok:BB v s)(hget:Dc ps key=o.map (fun t=>(Kc.kv t).2))(hTo:∀t,o=some t→Bn w t.s t.v∧BB t.v t.s):
  Calls prog 36 #[jp b,.string key,.agg #[.slice s.ea v.ent.length s.ec,.slice s.ma v.mrk.length s.mc,.slice s.ca v.cl.length s.cc]] w (AS (fun r w'=>(wN (o.map (·.v)) v≠0∧r= .tuple #[.agg #[.slice none 0 0,.slice none 0 0,.slice none 0 0],.agg #[.slice none 0 0,.slice none 0 0,.slice none 0 0],.int .i64 (wN (o.map (·.v)) v)]∨wN (o.map (·.v)) v=0∧∃s1 s2,r= .tuple #[.agg #[.slice (((DE (wV (o.map (·.v)) v) s1).cart).entries.a) (((DE (wV (o.map (·.v)) v) s1).cart).entries.len) (((DE (wV (o.map (·.v)) v) s1).cart).entries.cap),.slice ((((DE (wV (o.map (·.v)) v) s1).cart).ctx).marks.a) ((((DE (wV (o.map (·.v)) v) s1).cart).ctx).marks.len) ((((DE (wV (o.map (·.v)) v) s1).cart).ctx).marks.cap),.slice ((((DE (wV (o.map (·.v)) v) s1).cart).ctx).cloud.a) ((((DE (wV (o.map (·.v)) v) s1).cart).ctx).cloud.len) ((((DE (wV (o.map (·.v)) v) s1).cart).ctx).cloud.cap)],.agg #[.slice s2.ea v.ent.length s2.ec,.slice s2.ma v.mrk.length s2.mc,.slice s2.ca v.cl.length s2.cc],.int .i64 0]∧Bn w' s1 (wV (o.map (·.v)) v)∧BB (wV (o.map (·.v)) v) s1∧Bn w' s2 v∧BB v s2∧(∀q,Dn s1 q→w.heap.size≤q)∧(∀q,Dn s2 q→w.heap.size≤q))∧Aq w w')):=by
 refine Ae (n:=52) func36 rfl rfl rfl ?_;refine Ds ?_;by_cases hh:o.isSome=true
 ·obtain⟨t,rfl⟩:=Option.isSome_iff_exists.1 hh
  have hTt:=hTo t rfl;have hRt:=hTt.1;refine jG ?_;refine jR<|jB ?_;intro b6 bG aB a0 aF;have bH:=Ai hb.lt aB;have b7:=Al hM1.own_lt aB;have b8:=Al hM3.own_lt aB;have b9:=Al hR.own_lt aB;have ba:=Al hRt.own_lt aB;have:w.heap.size≤b6:=aB;clear aB;have K0:=(aF:Aq w _);refine jR<|jA ?_;intro bI bJ au a1 aC;replace hb:=hb.ext aF;have bK:=Ai hb.lt au;have bL:=Ai a0.lt au;replace hM1:=hM1.ext aF;have aU:=Al hM1.own_lt au;replace hM3:=hM3.ext aF;have aV:=Al hM3.own_lt au;replace hR:=hR.ext aF;have aW:=Al hR.own_lt au;replace hRt:=hRt.ext aF;have aX:=Al hRt.own_lt au;have:=Nat.le_trans K0.size au;clear au;refine jR<|jA ?_;intro bM bN am a2 av;replace hb:=hb.ext aC;have bO:=Ai hb.lt am;replace a0:=a0.ext aC;have bP:=Ai a0.lt am;have bQ:=Ai a1.lt am;replace hM1:=hM1.ext aC;have aY:=Al hM1.own_lt am;replace hM3:=hM3.ext aC;have aZ:=Al hM3.own_lt am;replace hR:=hR.ext aC;have b0:=Al hR.own_lt am;replace hRt:=hRt.ext aC;have b1:=Al hRt.own_lt am;replace K0:=K0.ext aC;have:=Nat.le_trans K0.size am;clear am;replace a0:=a0.ext av;refine jG ?_;replace hb:=hb.ext av;replace hM3:=hM3.ext av;replace hR:=hR.ext av;refine jR<|jC (Sr _ _ _ _ _ _ key v s _ hb hM3 hR hok.ok) ?_;rintro _ bR ⟨an,rfl,a4,bS,aI,ao⟩;have bb:=Ap aI a0.lt;replace a1:=a1.ext av;have b2:=Ap aI a1.lt;have b3:=Ap aI a2.lt;replace K0:=K0.ext av;have bc:=A1 K0.size aI;clear aI;have hokc:BB v an:=⟨hok.ok,hok.ent,a4.ent.le_cap⟩;refine jG ?_;replace a0:=a0.ext ao;refine jR<|jS a0 ?_;intro bT a0 ap;refine jG ?_;refine Aj.condF rfl ?_;replace hb:=(hb.ext ao).kp ap;refine jG ?_;replace hM1:=((hM1.ext av).ext ao).keepO ap (Ab b7);refine jV (Gx (v':= .tuple #[.agg #[.slice t.s.ea t.v.ent.length t.s.ec,.slice t.s.ma t.v.mrk.length t.s.mc,.slice t.s.ca t.v.cl.length t.s.cc],.bool true]) (DH underlying90 underlying9 rfl ty33 rfl rfl hM1) (by rw[hget];rfl)) ?_;refine jG ?_;refine jR<|jA ?_;intro bU bV aa aJ aj;have bW:=Ai hb.lt aa;have bX:=Ai a0.lt aa;replace a1:=(a1.ext ao).kp ap;have bY:=Ai a1.lt aa;replace a2:=(a2.ext ao).kp ap;have bZ:=Ai a2.lt aa;have be:=Al hM1.own_lt aa;replace hM3:=(hM3.ext ao).keepO ap (Ab b8);have bg:=Al hM3.own_lt aa;replace hR:=(hR.ext ao).keepO ap (Ab b9);have bh:=Al hR.own_lt aa;replace hRt:=((hRt.ext av).ext ao).keepO ap (Ab ba);have bi:=Al hRt.own_lt aa;replace a4:=a4.keepO ap (Ab bb);have bj:=Al a4.own_lt aa;replace K0:=(K0.ext ao).n1 ap;have:=Nat.le_trans K0.size aa;clear aa;refine jR<|jS aJ ?_;intro c0 aJ ak;refine FJ ?_;refine jV (Bo (b:=true) rfl) ?_;refine jG ?_;refine Aj.condF rfl ?_;replace a0:=(a0.ext aj).kp ak;refine jG ?_;replace hRt:=(hRt.ext aj).keepO ak (Ab bi);replace a4:=(a4.ext aj).keepO ak (Ab bj);refine jR<|jC (Vn t.v v t.s an _ hRt a4.r hTt.2 hokc) ?_;rintro _ c1 ⟨bk,rfl,aq,c2,aT,ab⟩;replace a1:=(a1.ext aj).kp ak;have bl:=Ap aT a1.lt;replace a2:=(a2.ext aj).kp ak;have bm:=Ap aT a2.lt;clear aT;have hjok:=Jv hTt.2.ent hokc.ent aq;refine jG ?_;refine jR<|jA ?_;intro c3 c4 a7 a8 ac;replace hb:=((hb.ext aj).kp ak).ext ab;have c5:=Ai hb.lt a7;replace a0:=a0.ext ab;have c6:=Ai a0.lt a7;replace a1:=a1.ext ab;have c7:=Ai a1.lt a7;replace a2:=a2.ext ab;have c8:=Ai a2.lt a7;replace aJ:=aJ.ext ab;have c9:=Ai aJ.lt a7;replace hM1:=((hM1.ext aj).keepO ak (Ab be)).ext ab;have bn:=Al hM1.own_lt a7;replace hM3:=((hM3.ext aj).keepO ak (Ab bg)).ext ab;have bo:=Al hM3.own_lt a7;replace hR:=((hR.ext aj).keepO ak (Ab bh)).ext ab;have bp:=Al hR.own_lt a7;replace hRt:=hRt.ext ab;have bq:=Al hRt.own_lt a7;replace a4:=a4.ext ab;have bs:=Al a4.own_lt a7;have bt:=Al aq.own_lt a7;replace K0:=((K0.ext aj).n1 ak).ext ab;have:=Nat.le_trans K0.size a7;clear a7;refine jR<|jS a8 ?_;intro cb a8 ad;refine jG ?_;replace hb:=(hb.ext ac).kp ad;replace hM1:=(hM1.ext ac).keepO ad (Ab bn)
  replace hM3:=(hM3.ext ac).keepO ad (Ab bo);replace hR:=(hR.ext ac).keepO ad (Ab bp);replace hRt:=(hRt.ext ac).keepO ad (Ab bq);replace a0:=(a0.ext ac).kp ad;replace a1:=(a1.ext ac).kp ad;replace a2:=(a2.ext ac).kp ad;replace a4:=(a4.ext ac).keepO ad (Ab bs);replace aq:=(aq.ext ac).keepO ad (Ab bt);replace K0:=(K0.ext ac).n1 ad;refine jF ?_ ?_
  ·intro hc45
   refine jG ?_;refine jV (AC (cells:=#[.slice none 0 0,.slice none 0 0,.slice none 0 0]) Zk) ?_;refine jV (AC (cells:=#[.slice none 0 0,.slice none 0 0,.slice none 0 0]) Zk) ?_;refine jG ?_;refine jR<|jS a1 ?_;intro cd a1 ae;replace a2:=a2.kp ae;refine jR<|jS a2 ?_;intro ce a2 af;refine jG ?_;replace a1:=a1.kp af;refine Aj.retCCT (x:= .int .i64 (BZ t.v v)) (cs:=#[.slice none 0 0,.slice none 0 0,.slice none 0 0]) (ds:=#[.slice none 0 0,.slice none 0 0,.slice none 0 0]) func36 rfl ty33 rfl rfl a1.cl rfl rfl a2.cl rfl ?_;replace hb:=(hb.kp ae).kp af;replace hM1:=(hM1.keepO ae (Ab aU)).keepO af (Ab aY);replace hM3:=(hM3.keepO ae (Ab aV)).keepO af (Ab aZ);replace hR:=(hR.keepO ae (Ab aW)).keepO af (Ab b0);replace hRt:=(hRt.keepO ae (Ab aX)).keepO af (Ab b1);replace a0:=(a0.kp ae).kp af;replace a4:=(a4.keepO ae (Ab b2)).keepO af (Ab b3);replace aq:=(aq.keepO ae (Ab bl)).keepO af (Ab bm);replace a8:=(a8.kp ae).kp af;replace K0:=(K0.n1 ae).n1 af;exact⟨_,rfl,.inl ⟨hc45,rfl⟩,K0⟩
  ·intro hc45
   refine jG ?_;refine Aj.drawS [] [1000,1002,2001,2003,2004,5] ?_;intro cf a9;replace a0:=a0.ext a9;replace a8:=a8.ext a9;refine jM (jb a0 (jb a8 Jn)) ?_;refine jG ?_;replace aq:=aq.ext a9;refine jU rfl<|jC (Ff (AD t.v v) bk _ aq.r hjok.ok) ?_;rintro _ cg ⟨aw,rfl,aP,ch,aQ,ag⟩;replace a1:=a1.ext a9;have bu:=Ap aQ a1.lt;replace a2:=a2.ext a9;have bv:=Ap aQ a2.lt;replace K0:=K0.ext a9;have bw:=A1 K0.size aQ;clear aQ;have hokq:BB (AD t.v v) aw:=⟨hjok.ok,hjok.ent,aP.ent.le_cap⟩;replace a0:=a0.ext ag;replace a8:=a8.ext ag;refine jG ?_;replace a1:=a1.ext ag;refine jU rfl<|jS a1 ?_;intro ci a1 ah;replace a0:=a0.kp ah;replace a8:=a8.kp ah;refine jG ?_;replace a2:=(a2.ext ag).kp ah;refine jU rfl<|jS a2 ?_;intro cj a2 ai;replace a0:=a0.kp ai;replace a8:=a8.kp ai;refine jG ?_;replace a1:=a1.kp ai;refine Aj.retCCT (x:= .int .i64 0) (cs:=#[.slice aw.ea ((AD t.v v).ent.length) aw.ec,.slice aw.ma ((AD t.v v).mrk.length) aw.mc,.slice aw.ca ((AD t.v v).cl.length) aw.cc]) (ds:=#[.slice an.ea v.ent.length an.ec,.slice an.ma v.mrk.length an.mc,.slice an.ca v.cl.length an.cc]) func36 rfl ty33 rfl rfl a1.cl rfl rfl a2.cl rfl ?_;replace hb:=(((hb.ext a9).ext ag).kp ah).kp ai;replace hM1:=(((hM1.ext a9).ext ag).keepO ah (Ab aU)).keepO ai (Ab aY);replace hM3:=(((hM3.ext a9).ext ag).keepO ah (Ab aV)).keepO ai (Ab aZ);replace hR:=(((hR.ext a9).ext ag).keepO ah (Ab aW)).keepO ai (Ab b0);replace hRt:=(((hRt.ext a9).ext ag).keepO ah (Ab aX)).keepO ai (Ab b1);replace a4:=(((a4.ext a9).ext ag).keepO ah (Ab b2)).keepO ai (Ab b3);replace K0:=((K0.ext ag).n1 ah).n1 ai;replace aP:=(aP.keepO ah (Ab bu)).keepO ai (Ab bv);exact⟨_,rfl,.inr ⟨hc45,aw,an,rfl,aP.r,hokq,a4.r,hokc,bw,bc⟩,K0⟩
 ·have ho_:o=none:=by cases o with|none=>rfl|some _=>exact absurd rfl hh
  subst ho_;refine jG ?_;refine jR<|jB ?_;intro bx ck aG a3 aK;have cm:=Ai hb.lt aG;have bz:=Al hM1.own_lt aG;have bA:=Al hM3.own_lt aG;have bB:=Al hR.own_lt aG;have:w.heap.size≤bx:=aG;clear aG;have K0:=(aK:Aq w _);refine jR<|jA ?_;intro cn co aD a6 aH;replace hb:=hb.ext aK;have cp:=Ai hb.lt aD;have cq:=Ai a3.lt aD;replace hM1:=hM1.ext aK;have cr:=Al hM1.own_lt aD;replace hM3:=hM3.ext aK;have ct:=Al hM3.own_lt aD;replace hR:=hR.ext aK;have cu:=Al hR.own_lt aD;have:=Nat.le_trans K0.size aD;clear aD;refine jR<|jA ?_;intro cv cw ax ar aE;replace hb:=hb.ext aH;have cx:=Ai hb.lt ax;replace a3:=a3.ext aH;have cy:=Ai a3.lt ax;have cz:=Ai a6.lt ax;replace hM1:=hM1.ext aH;have cA:=Al hM1.own_lt ax;replace hM3:=hM3.ext aH;have cB:=Al hM3.own_lt ax;replace hR:=hR.ext aH;have cC:=Al hR.own_lt ax;replace K0:=K0.ext aH;have:=Nat.le_trans K0.size ax;clear ax;replace a3:=a3.ext aE;refine jG ?_;replace hb:=hb.ext aE;replace hM3:=hM3.ext aE;replace hR:=hR.ext aE;refine jR<|jC (Sr _ _ _ _ _ _ key v s _ hb hM3 hR hok.ok) ?_;rintro _ cD ⟨a5,rfl,ay,cE,aL,az⟩;have bC:=Ap aL a3.lt;replace a6:=a6.ext aE;have bD:=Ap aL a6.lt;have bE:=Ap aL ar.lt;replace K0:=K0.ext aE;have b4:=A1 K0.size aL;clear aL;have hokc:BB v a5:=⟨hok.ok,hok.ent,ay.ent.le_cap⟩;refine jG ?_;replace a3:=a3.ext az;refine jR<|jS a3 ?_;intro cF a3 aA;refine jG ?_;refine Aj.condF rfl ?_;replace hb:=(hb.ext az).kp aA;refine jG ?_;replace hM1:=((hM1.ext aE).ext az).keepO aA (Ab bz);refine jV (Gx (v':= .tuple #[.agg #[.slice none 0 0,.slice none 0 0,.slice none 0 0],.bool false]) (DH underlying90 underlying9 rfl ty33 rfl rfl hM1) (by rw[hget];rfl)) ?_;refine jG ?_;refine jR<|jA ?_;intro cG cH al b5 aM;have cI:=Ai hb.lt al;have cJ:=Ai a3.lt al;replace a6:=(a6.ext az).kp aA;have cK:=Ai a6.lt al;replace ar:=(ar.ext az).kp aA;have cL:=Ai ar.lt al;have cM:=Al hM1.own_lt al;replace hM3:=(hM3.ext az).keepO aA (Ab bA);have cN:=Al hM3.own_lt al;replace hR:=(hR.ext az).keepO aA (Ab bB);have cO:=Al hR.own_lt al;replace ay:=ay.keepO aA (Ab bC);have bF:=Al ay.own_lt al;replace K0:=(K0.ext az).n1 aA;have:=Nat.le_trans K0.size al;clear al;refine jR<|jS b5 ?_;intro cP b5 aN;refine FJ ?_;refine jV (Bo (b:=false) rfl) ?_;refine jG ?_;refine Ed ?_;refine jG ?_;refine Aj.drawS [] [1000,1001,2002,2003,4] ?_;intro cQ aO;replace a3:=((a3.ext aM).kp aN).ext aO;refine jM (jb a3 Jn) ?_;refine jG ?_;replace a6:=((a6.ext aM).kp aN).ext aO;refine jU rfl<|jS a6 ?_;intro cR a6 aR;replace a3:=a3.kp aR;refine jG ?_;replace ar:=(((ar.ext aM).kp aN).ext aO).kp aR;refine jU rfl<|jS ar ?_;intro cS ar aS;replace a3:=a3.kp aS;refine jG ?_;replace a6:=a6.kp aS;refine Aj.retCCT (x:= .int .i64 0) (cs:=#[.slice a5.ea v.ent.length a5.ec,.slice a5.ma v.mrk.length a5.mc,.slice a5.ca v.cl.length a5.cc]) (ds:=#[.slice a5.ea v.ent.length a5.ec,.slice a5.ma v.mrk.length a5.mc,.slice a5.ca v.cl.length a5.cc]) func36 rfl ty33 rfl rfl a6.cl rfl rfl ar.cl rfl ?_;replace ay:=((((ay.ext aM).keepO aN (Ab bF)).ext aO).keepO aR (Ab bD)).keepO aS (Ab bE);replace K0:=((((K0.ext aM).n1 aN).ext aO).n1 aR).n1 aS;exact⟨_,rfl,.inr ⟨rfl,a5,a5,rfl,ay.r,hokc,ay.r,hokc,b4,b4⟩,K0⟩
end Go.Proofs.YtjkaicjmfgekjaaGreatDoor
