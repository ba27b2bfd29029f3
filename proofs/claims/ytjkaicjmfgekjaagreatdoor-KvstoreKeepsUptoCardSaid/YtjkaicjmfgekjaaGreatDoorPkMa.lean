/-
  Ma, Mb, Mc, Md
-/
import Derived.Test.YtjkaicjmfgekjaaGreatDoorPkKc
set_option linter.all false
set_option maxRecDepth 100000
set_option maxHeartbeats 4000000
namespace Go.Proofs.YtjkaicjmfgekjaaGreatDoor
open Go.Proofs.Tryz
attribute [local irreducible] RD RS AA RL RA RT Cz Ai
section
attribute [local irreducible] AC DQ Cp BH Bz B4 Cb D4 Cj itemsN BW AO Br BK Gr AP A4 Ar Ck As A1 Ay A5 EM AW AK Cy DT B1
def BD (w:World)(b:Nat)(Z:Nat->Prop)(bs r:List UInt8):Prop:=∃a c p,Z=(fun q=>q=b∨own a q)∧AB w b [.slice a bs.length c,.int .i64 ((p:Nat):Int),.bool true] 244∧Af w 5 a c bs∧¬own a b∧p<=bs.length∧bs.length<=1073741824∧bs.drop p=r
section
variable {w w':World}{b n:Nat}{Z S:Nat->Prop}{bs r ys:List UInt8}
theorem BD.oL (h:BD w b Z bs r):∀q,Z q->q<w.heap.size:=by
 obtain⟨a,c,p,rfl,hb,ho,-⟩:=h
 rintro q (rfl|hq)
 ·exact hb.lt
 ·exact ho.oL q hq
theorem BD.kO (h:BD w b Z bs r)(k:Ad S w w')(hn:∀q,Z q->¬S q):BD w' b Z bs r:=by
 obtain⟨a,c,p,rfl,hb,ho,h1⟩:=h
 exact⟨a,c,p,rfl,hb.keep k (hn b (.inl rfl)),ho.kO k (fun q hq=>hn q (.inr hq)),h1⟩
theorem BD.ext (h:BD w b Z bs r)(k:Ap w w'):BD w' b Z bs r:=h.kO k fun _ _=>id
theorem BD.len (h:BD w b Z bs r):r.length<=1073741824∧bs.length<=1073741824∧r.length<=bs.length∧bs.drop (bs.length-r.length)=r:=by
 obtain⟨a,c,p,rfl,hb,ho,h1,h2,h3,rfl⟩:=h
 rw[List.length_drop]
 refine⟨by omega,h3,by omega,by rw[show bs.length-(bs.length-p)=p by omega]⟩
theorem Mz {p k:Nat}(h:bs.drop p=ys++r)(hp:p<=bs.length)(hk:ys.length=k):p+k<=bs.length∧bs.drop (p+k)=r:=by
 have h1:=congrArg List.length h
 rw[List.length_drop,Aab,hk]at h1
 refine⟨by omega,?_⟩
 rw[<-Aa5,h,<-hk,AbI]
theorem MA (h:BD w b Z bs (Aq n++r))(hn:n<4611686018427387904):Calls prog 228 #[jp b] w (AN fun v w'=>v= .int .i64 ((n:Nat):Int)∧BD w' b Z bs r∧Ad Z w w'):=by
 obtain⟨a,c,p,rfl,hb,ho,hab,hp,hl,hr⟩:=h
 refine(LX b a c bs p w hb ho hab hp hl).mono fun e w' hh=> ?_
 have e1:B1 0 0 (bs.drop p)= .ok (n,(Aq n).length):=by rw[hr,numL_vput n 0 0 r Zd (by simp only[Nat.sub_zero];omega) (.inl rfl)];simp
 rcases hh with⟨v,rfl,n',k,hN,rfl,hb',K⟩|⟨ch,rfl,e,hE,-⟩
 ·rw[e1]at hN;simp only[Except.ok.injEq,Prod.mk.injEq]at hN;obtain⟨rfl,rfl⟩:=hN
  obtain⟨h1,h2⟩:=Mz hr hp rfl
  exact⟨_,rfl,rfl,⟨a,c,p+(Aq n).length,rfl,hb',ho.kO K (fun q hq (e:q=b)=>hab (e▸hq)),hab,h1,hl,h2⟩,K.mono fun q _ hq=> .inl hq⟩
 ·rw[e1]at hE;cases hE
theorem Rp (h:BD w b Z bs (ys++r))(hn:ys.length=n):Calls prog 182 #[jp b,.int .i64 ((n:Nat):Int)] w (AN fun v w'=>(∃a' c',v= .slice a' ys.length c'∧Af w' 5 a' c' ys∧(∀q,own a' q->w.heap.size<=q))∧BD w' b Z bs r∧Ad Z w w'):=by
 obtain⟨a,c,p,rfl,hb,ho,hab,hp,hl,hr⟩:=h
 obtain⟨h1,h2⟩:=Mz hr hp hn
 refine(JQ b a c bs p n w hb ho hab hp hl h1).mono fun e w' hh=> ?_
 obtain⟨v,rfl,a',c',rfl,h3,h4,hb',K⟩:=hh
 have e1:(bs.drop p).take n=ys:=by rw[hr,<-hn,Abt]
 rw[e1]at h3⊢
 exact⟨_,rfl,⟨a',c',rfl,h3,h4⟩,⟨a,c,p+n,rfl,hb',ho.kO K (fun q hq (e:q=b)=>hab (e▸hq)),hab,h1,hl,h2⟩,K.mono fun q _ hq=> .inl hq⟩
theorem FJ (h:BD w b Z bs r):Calls prog 121 #[jp b] w (AN fun v w'=>v= .int .i64 ((r.length:Nat):Int)∧Ap w w'):=by
 obtain⟨a,c,p,rfl,hb,ho,hab,hp,hl,rfl⟩:=h
 rw[List.length_drop]
 exact MS b a c bs p w hb ho hab hp hl
theorem W7 (h:BD w b Z bs r):Calls prog 187 #[jp b] w (AN fun v w'=>v= .bool true∧Ap w w'):=by
 obtain⟨a,c,p,rfl,hb,ho,hab,hp,hl,rfl⟩:=h
 exact JP b a c bs p w hb ho hab hp hl
theorem GF {a:Option Addr}{c:Nat}(hs:Av w a bs)(hl:bs.length<=1073741824):Calls prog 115 #[.slice a bs.length c] w (AN fun v w'=>∃b Z,v=jp b∧BD w' b Z bs bs∧(∀q,Z q->w.heap.size<=q)∧Ap w w'):=by
 refine(QV a bs c w hs hl).mono fun e w' hh=> ?_
 obtain⟨v,rfl,b,a',c',rfl,hb,ho,hab,hge,hg,K⟩:=hh
 exact⟨_,rfl,b,_,rfl,⟨a',c',0,rfl,hb,ho,hab,Aal _,hl,rfl⟩,(fun q hq=>hq.elim (fun e=>e▸hge) (hg q)),K⟩
theorem ga (gf:FuncId)(caps:List Value)(w:World)(Φ:World->Prop)(S:Nat->Prop)(hen:DB prog gf)(hc:∀w1,Ap w w1->Calls prog gf caps.toArray w1 (AN fun _ w'=>Φ w'∧Ad S w1 w'))(hΦ:∀c w' w2,w.heap.size<=c->Φ w'->Ad (one c) w' w2->Φ w2)(hS:∀q,S q->q<w.heap.size):
  Calls prog 226 #[.func (.func gf) #[] caps.toArray] w (AN fun v w'=>v= .int .i64 0∧Φ w'∧Ad S w w'):=by
 have KA:Ap w (w.alloc (.cells #[.int .i64 0] 34)):=Ap.push _ _
 have hnew:AB (w.alloc (.cells #[.int .i64 0] 34)) w.heap.size [.int .i64 0] 34:=by
  show(w.heap.push _)[w.heap.size]? =_
  rw[Array.getElem?_push_size]
 have hnf:¬S w.heap.size:=fun e=>absurd (hS _ e) (Nat.lt_irrefl _)
 refine ZW gf caps w _ (fun w'=>Φ w'∧Ad S (w.alloc (.cells #[.int .i64 0] 34)) w') (fun _ _=>False) hen ((hc _ KA).mono fun e w' h=> .inl h) (fun w' h=>hnew.keep h.2 hnf) (fun _ _ h=>h.elim) (fun w' w2 h k=>⟨_,rfl,rfl,hΦ _ _ _ (Aac _) h.1 k,?_⟩) (fun _ _ _ h=>h.elim)
 exact((KA.to (S:=S)).trans h.2 fun _ _ e=>e).trans k fun x hx e=>absurd hx (by simp only[one]at e;omega)
end
attribute [local irreducible] X
theorem YM (p t b:Nat)(Z:Nat->Prop)(bs r:List UInt8)(n:Nat)(w:World)(hp:AB w p [jp b] 187)(ht:AB w t [.int .i64 0] 3)(hrd:BD w b Z bs (Aq n++r))(npt:p≠t)(npZ:¬Z p)(ntZ:¬Z t)(hn:n<4611686018427387904):
  Calls prog 227 #[jp p,jp t] w (AN (fun r_ w'=>(BD w' b Z bs r∧AB w' t [.int .i64 ((n:Nat):Int)] 3)∧Ad (fun q_=>Z q_∨q_=t) w w')):=by
 refine Ac (n:=4) func227 rfl rfl rfl ?_;refine jG ?_;refine jR<|jC (MA hrd Zo) ?_;rintro _ a3 ⟨rfl,a0,a1⟩;have K0:=(Ad.refl (fun q_=>Z q_∨q_=t) w).trans a1 (fun x hlt hx=>(fun q_ h_ _=>Or.inl h_) x hx hlt);replace hrd:=a0;clear a0;replace ht:=ht.keep a1 ntZ;refine jR<|jS ht ?_;intro a4 ht a2;replace K0:=K0.tf a2 (Or.inr rfl);refine jG ?_;refine Ai.fin0 func227 rfl ?_;replace hrd:=hrd.kO a2 (Aa ntZ);exact⟨_,rfl,⟨hrd,ht⟩,K0⟩
theorem YN (p t b:Nat)(Z:Nat->Prop)(bs r:List UInt8)(x:UInt8)(w:World)(hp:AB w p [jp b] 187)(ht:AB w t [.int .i64 0] 3)(hrd:BD w b Z bs ([x]++r))(npt:p≠t)(npZ:¬Z p)(ntZ:¬Z t):
  Calls prog 180 #[jp p,jp t] w (AN (fun r_ w'=>(BD w' b Z bs r∧AB w' t [.int .i64 (x.toNat:Int)] 3)∧Ad (fun q_=>Z q_∨q_=t) w w')):=by
 refine Ac (n:=11) func180 rfl rfl rfl ?_;refine jG ?_;refine jR<|jC (FJ hrd) ?_;rintro _ a9 ⟨rfl,a0⟩;have K0:=(a0:Ap w _).to (S:=(fun q_=>Z q_∨q_=t));refine jV (D9 (H2 rfl rfl) (by simp only[Aab,Aaj,Aar,beq_eq_false_iff_ne,ne_eq];omega)) ?_;refine jG ?_;refine Ai.condF rfl ?_;replace hp:=hp.ext a0;refine jG ?_;replace hrd:=hrd.ext a0;refine jR<|jC (Rp (n:=1) hrd rfl) ?_;rintro _ aa ⟨⟨ab,ac,rfl,a4,a5⟩,a1,a2⟩;clear a5;replace K0:=K0.trans a2 (fun x hlt hx=>(fun q_ h_ _=>Or.inl h_) x hx hlt);replace hrd:=a1;clear a1;obtain⟨ad,ae,a6,a7,a8,af⟩:=a4.sl.el (i:=0) Zs;obtain rfl:x=a6:=Option.some.inj a7;refine jV (AS underlying98 ty5 rfl rfl a8 Zs) ?_;refine jG ?_;refine jV (Ea (kd:= .i64) (a:=x.toNat) rfl ⟨_,underlying5⟩ underlying3 (show(x).toNat<9223372036854775808 by have:=UInt8.toNat_lt x;omega)) ?_;replace ht:=(ht.ext a0).keep a2 ntZ;refine jR<|jS ht ?_;intro ag ht a3;replace K0:=K0.tf a3 (Or.inr rfl);refine jG ?_;refine Ai.fin0 func180 rfl ?_;replace hrd:=hrd.kO a3 (Aa ntZ);exact⟨_,rfl,⟨hrd,ht⟩,K0⟩
theorem YO (m:Nat)(p t b:Nat)(Z:Nat->Prop)(bs r:List UInt8)(s:ByteArray)(most:Int)(w:World)(hp:AB w p [jp b] 187)(ht:AB w t [.string ⟨#[]⟩] 9)(hrd:BD w b Z bs (Aq s.size++(s.data.toList++r)))(npt:p≠t)(npZ:¬Z p)(ntZ:¬Z t)(hm:AB w m [.int .i64 most] 3)(nmt:m≠t)(nmZ:¬Z m)(hs:(s.size:Int)<=most)(hs2:s.size<=1048576):
  Calls prog 232 #[jp p,jp m,jp t] w (AN (fun r_ w'=>(BD w' b Z bs r∧AB w' t [.string s] 9)∧Ad (fun q_=>Z q_∨q_=t) w w')):=by
 have hdl:s.data.toList.length=s.size:=by rw[Aay];rfl
 refine Ac (n:=20) func232 rfl rfl rfl ?_;refine jG ?_;refine jR<|jC (MA hrd Zo) ?_;rintro _ a8 ⟨rfl,a2,a1⟩;have K0:=(Ad.refl (fun q_=>Z q_∨q_=t) w).trans a1 (fun x hlt hx=>(fun q_ h_ _=>Or.inl h_) x hx hlt);replace hrd:=a2;clear a2;replace hm:=hm.keep a1 nmZ;refine jG ?_;refine jV (II rfl rfl) ?_;refine jG ?_;replace hp:=hp.keep a1 npZ;replace ht:=ht.keep a1 ntZ;refine jF ?_ ?_
 ·intro hc9
  exfalso;omega
 ·intro hc9
  refine jG ?_;refine jR<|jC (FJ hrd) ?_;rintro _ a9 ⟨rfl,a0⟩;refine jG ?_;replace hp:=hp.ext a0;replace hm:=hm.ext a0;replace ht:=ht.ext a0;replace hrd:=hrd.ext a0;replace K0:=K0.ext a0;refine jF ?_ ?_
  ·intro hc14
   exfalso;rw[Aab]at hc14;omega
  ·intro hc14
   refine jG ?_;refine jR<|jC (Rp (n:=s.size) hrd Zo) ?_;rintro _ aa ⟨⟨ab,ac,rfl,a6,a7⟩,a3,a4⟩;clear a7;replace K0:=K0.trans a4 (fun x hlt hx=>(fun q_ h_ _=>Or.inl h_) x hx hlt);replace hrd:=a3;clear a3;refine jV (VX underlying98 underlying5 underlying9 rfl a6.sl) ?_;replace ht:=ht.keep a4 ntZ;refine jR<|jS ht ?_;intro ad ht a5;replace K0:=K0.tf a5 (Or.inr rfl);refine jG ?_;refine Ai.fin0 func232 rfl ?_;replace hrd:=hrd.kO a5 (Aa ntZ);exact⟨_,rfl,⟨hrd,ht⟩,K0⟩
theorem PY (b:Nat)(Z:Nat->Prop)(bs r:List UInt8)(gf:FuncId)(caps:List Value)(Φ:World->Prop)(S:Nat->Prop)(w:World)(hrd:BD w b Z bs r)(hen:DB prog gf)(hc:∀w1,Ap w w1->Calls prog gf caps.toArray w1 (AN fun _ w'=>Φ w'∧Ad S w1 w'))(hΦ:∀c w' w2,w.heap.size<=c->Φ w'->Ad (one c) w' w2->Φ w2)(hS:∀q,S q->q<w.heap.size):
  Calls prog 179 #[jp b,.func (.func gf) #[] caps.toArray] w (AN (fun v w'=>v= .int .i64 0∧Φ w'∧Ad S w w')):=by
 obtain⟨a,c,p,-,hb,ho,hab,hp,hl,-⟩:=hrd;refine Ac (n:=23) func179 rfl rfl rfl ?_;refine jG ?_;refine jR<|jC (JP b a c bs p _ hb ho hab hp hl) ?_;rintro _ a2 ⟨rfl,a0⟩;have K0:=(a0:Ap w _);refine jV (Bn (b:=true) rfl) ?_;refine jG ?_;refine Ai.condF rfl ?_;replace hb:=hb.ext a0;refine jG ?_;refine jR<|jC (ga gf caps _ Φ S hen (fun w1_ k_=>hc w1_ (K0.ext k_)) (fun c_ w1_ w2_ l_=>hΦ c_ w1_ w2_ (Aaa K0.size l_)) (fun q_ h_=>Aa4 (hS q_ h_) K0.size)) ?_;rintro _ a3 ⟨rfl,hΦ1,a1⟩;replace K0:=(K0:Ap w _).to (S:=S);replace K0:=K0.trans a1 (fun _ _ e=>e);refine jG ?_;refine Ai.condF rfl ?_;refine jG ?_;refine jJ func179 ?_;exact⟨_,rfl,rfl,hΦ1,K0⟩
theorem Dy (b:Nat)(Z:Nat->Prop)(bs r:List UInt8)(n:Nat)(w:World)(hrd:BD w b Z bs (Aq n++r))(hn:n<4611686018427387904):
  Calls prog 183 #[jp b] w (AN (fun v w'=>v= .tuple #[.int .i64 ((n:Nat):Int),.int .i64 0]∧BD w' b Z bs r∧Ad Z w w')):=by
 refine Ac (n:=11) func183 rfl rfl rfl ?_;refine jG ?_;refine jR<|jB ?_;intro a2 ac a5 a3 a8;have aa:=An hrd.oL a5;have:w.heap.size<=a2:=a5;clear a5;have K0:=(a8:Ap w _).to (S:=Z);refine jG ?_;refine jR<|jA ?_;intro a0 ad a4 a1 a6;have ae:=Ak a3.lt a4;replace hrd:=hrd.ext a8;have a9:=An hrd.oL a4;have:=Aaa K0.size a4;clear a4;refine jR<|jS a1 ?_;intro af a1 a7;replace K0:=K0.ext a6;replace K0:=K0.n1 a7;replace a3:=(a3.ext a6).kp a7;refine jG ?_;refine jV (CQ (a:=[]) (c:=[jp a2,jp a0]) rfl rfl) ?_;replace hrd:=(hrd.ext a6).kO a7 (Aa a9);refine jR<|jC (PY b Z bs _ 227 [jp a2,jp a0] (fun w_=>BD w_ b Z bs r∧AB w_ a0 [.int .i64 ((n:Nat):Int)] 3) (fun q_=>Z q_∨q_=a0) _ hrd en227.h (fun w1_ k_=>YM a2 a0 b Z bs r n w1_ (a3.ext k_) (a1.ext k_) (hrd.ext k_) Zo aa a9 hn) (fun c_ w1_ w2_ l_ h_ k_=>⟨h_.1.kO k_ (fun q_ h1_ h2_=>absurd (hrd.oL q_ h1_) (by simp only[one]at h2_;omega)),h_.2.keep k_ (by have:=a1.lt;simp only[one];omega)⟩) (fun q_ h_=>h_.elim (hrd.oL q_) (fun e_=>e_▸a1.lt))) ?_;rintro _ ag ⟨rfl,⟨hR1,hT1⟩,ab⟩;replace K0:=K0.trans ab (fun x_ hl_ hx_=>hx_.elim (fun y_=>y_) (fun e_=>absurd hl_ Zo));refine jG ?_;refine jK func183 ?_;exact⟨_,rfl,rfl,hR1,K0⟩
theorem Rq (b:Nat)(Z:Nat->Prop)(bs r:List UInt8)(x:UInt8)(w:World)(hrd:BD w b Z bs ([x]++r)):
  Calls prog 116 #[jp b] w (AN (fun v w'=>v= .tuple #[.int .i64 (x.toNat:Int),.int .i64 0]∧BD w' b Z bs r∧Ad Z w w')):=by
 refine Ac (n:=11) func116 rfl rfl rfl ?_;refine jG ?_;refine jR<|jB ?_;intro a2 ac a5 a3 a8;have aa:=An hrd.oL a5;have:w.heap.size<=a2:=a5;clear a5;have K0:=(a8:Ap w _).to (S:=Z);refine jG ?_;refine jR<|jA ?_;intro a0 ad a4 a1 a6;have ae:=Ak a3.lt a4;replace hrd:=hrd.ext a8;have a9:=An hrd.oL a4;have:=Aaa K0.size a4;clear a4;refine jR<|jS a1 ?_;intro af a1 a7;replace K0:=K0.ext a6;replace K0:=K0.n1 a7;replace a3:=(a3.ext a6).kp a7;refine jG ?_;refine jV (CQ (a:=[]) (c:=[jp a2,jp a0]) rfl rfl) ?_;replace hrd:=(hrd.ext a6).kO a7 (Aa a9);refine jR<|jC (PY b Z bs _ 180 [jp a2,jp a0] (fun w_=>BD w_ b Z bs r∧AB w_ a0 [.int .i64 (x.toNat:Int)] 3) (fun q_=>Z q_∨q_=a0) _ hrd en180.h (fun w1_ k_=>YN a2 a0 b Z bs r x w1_ (a3.ext k_) (a1.ext k_) (hrd.ext k_) Zo aa a9) (fun c_ w1_ w2_ l_ h_ k_=>⟨h_.1.kO k_ (fun q_ h1_ h2_=>absurd (hrd.oL q_ h1_) (by simp only[one]at h2_;omega)),h_.2.keep k_ (by have:=a1.lt;simp only[one];omega)⟩) (fun q_ h_=>h_.elim (hrd.oL q_) (fun e_=>e_▸a1.lt))) ?_;rintro _ ag ⟨rfl,⟨hR1,hT1⟩,ab⟩;replace K0:=K0.trans ab (fun x_ hl_ hx_=>hx_.elim (fun y_=>y_) (fun e_=>absurd hl_ Zo));refine jG ?_;refine jK func116 ?_;exact⟨_,rfl,rfl,hR1,K0⟩
theorem W8 (b:Nat)(Z:Nat->Prop)(bs r:List UInt8)(s:ByteArray)(most:Int)(w:World)(hrd:BD w b Z bs (Aq s.size++(s.data.toList++r)))(hs:(s.size:Int)<=most)(hs2:s.size<=1048576):
  Calls prog 186 #[jp b,.int .i64 most] w (AN (fun v w'=>v= .tuple #[.string s,.int .i64 0]∧BD w' b Z bs r∧Ad Z w w')):=by
 refine Ac (n:=13) func186 rfl rfl rfl ?_;refine jG ?_;refine jR<|jB ?_;intro a4 ah a9 a0 ac;have ae:=An hrd.oL a9;have:w.heap.size<=a4:=a9;clear a9;have K0:=(ac:Ap w _).to (S:=Z);refine jR<|jB ?_;intro aa ai a5 a6 ab;have aj:=Ak a0.lt a5;replace hrd:=hrd.ext ac;have af:=An hrd.oL a5;have:=Aaa K0.size a5;clear a5;refine jG ?_;refine jR<|jA ?_;intro a1 ak a2 a3 a7;replace a0:=a0.ext ab;have al:=Ak a0.lt a2;have am:=Ak a6.lt a2;replace hrd:=hrd.ext ab;have ad:=An hrd.oL a2;replace K0:=K0.ext ab;have:=Aaa K0.size a2;clear a2;refine jR<|jS a3 ?_;intro an a3 a8;replace K0:=K0.ext a7;replace K0:=K0.n1 a8;replace a0:=(a0.ext a7).kp a8;refine jG ?_;refine jV (CQ (a:=[]) (c:=[jp a4,jp aa,jp a1]) rfl rfl) ?_;replace hrd:=(hrd.ext a7).kO a8 (Aa ad);replace a6:=(a6.ext a7).kp a8;refine jR<|jC (PY b Z bs _ 232 [jp a4,jp aa,jp a1] (fun w_=>BD w_ b Z bs r∧AB w_ a1 [.string s] 9) (fun q_=>Z q_∨q_=a1) _ hrd en232.h (fun w1_ k_=>YO aa a4 a1 b Z bs r s most w1_ (a0.ext k_) (a3.ext k_) (hrd.ext k_) Zo ae ad (a6.ext k_) Zo af hs hs2) (fun c_ w1_ w2_ l_ h_ k_=>⟨h_.1.kO k_ (fun q_ h1_ h2_=>absurd (hrd.oL q_ h1_) (by simp only[one]at h2_;omega)),h_.2.keep k_ (by have:=a3.lt;simp only[one];omega)⟩) (fun q_ h_=>h_.elim (hrd.oL q_) (fun e_=>e_▸a3.lt))) ?_;rintro _ ao ⟨rfl,⟨hR1,hT1⟩,ag⟩;replace K0:=K0.trans ag (fun x_ hl_ hx_=>hx_.elim (fun y_=>y_) (fun e_=>absurd hl_ Zo));refine jG ?_;refine jK func186 ?_;exact⟨_,rfl,rfl,hR1,K0⟩
theorem YP (b:Nat)(a:Option Addr)(c:Nat)(bs:List UInt8)(p:Nat)(w:World)(hb:AB w b [.slice a bs.length c,.int .i64 ((p:Nat):Int),.bool true] 244)(ho:Af w 5 a c bs)(hab:¬own a b)(hp:p<=bs.length)(hl:bs.length<=1073741824):
  Calls prog 185 #[jp b] w (AN (fun v w'=>v= .int .i64 ((p:Nat):Int)∧Ap w w')):=by
 refine Ac (n:=10) func185 rfl rfl rfl ?_;refine jG ?_;refine jR<|jC (JP b a c bs p _ hb ho hab hp hl) ?_;rintro _ a1 ⟨rfl,a0⟩;have K0:=(a0:Ap w _);refine jV (Bn (b:=true) rfl) ?_;refine jG ?_;refine Ai.condF rfl ?_;replace hb:=hb.ext a0;refine jG ?_;refine jJ func185 ?_;exact⟨_,rfl,rfl,K0⟩
theorem gb {w:World}{b:Nat}{Z:Nat->Prop}{bs r:List UInt8}(h:BD w b Z bs r):Calls prog 185 #[jp b] w (AN fun v w'=>v= .int .i64 ((bs.length-r.length:Nat):Int)∧Ap w w'):=by
 obtain⟨a,c,p,rfl,hb,ho,hab,hp,hl,rfl⟩:=h
 rw[List.length_drop,show bs.length-(bs.length-p)=p by omega]
 exact YP b a c bs p w hb ho hab hp hl
theorem YQ (b:Nat)(Z:Nat->Prop)(bs:List UInt8)(w:World)(hrd:BD w b Z bs []):
  Calls prog 231 #[jp b] w (AN (fun v w'=>v= .int .i64 0∧Ap w w')):=by
 refine Ac (n:=9) func231 rfl rfl rfl ?_;refine jG ?_;refine jR<|jC (W7 hrd) ?_;rintro _ a2 ⟨rfl,a0⟩;have K0:=(a0:Ap w _);refine jV (Bn (b:=true) rfl) ?_;refine jG ?_;refine Ai.condF rfl ?_;refine jG ?_;replace hrd:=hrd.ext a0;refine jR<|jC (FJ hrd) ?_;rintro _ a3 ⟨rfl,a1⟩;refine jV (D9 (GR rfl rfl) Zs) ?_;refine jG ?_;refine Ai.condF rfl ?_;refine jG ?_;refine jJ func231 ?_;replace K0:=K0.ext a1;exact⟨_,rfl,rfl,K0⟩
theorem ON (b:Nat)(Z:Nat->Prop)(bs r:List UInt8)(s:ByteArray)(most:Int)(w:World)(hrd:BD w b Z bs (AW s++r))(hs:(s.size:Int)<=most)(hs2:s.size<=1048576):
  Calls prog 186 #[jp b,.int .i64 most] w (AN fun v w'=>v= .tuple #[.string s,.int .i64 0]∧BD w' b Z bs r∧Ad Z w w'):=
 W8 b Z bs r s most w (by rw[<-Aap];unfold AW at hrd;exact hrd) hs hs2
end
section
attribute [local irreducible] AC DQ Cp BH Bz B4 Cb D4 Cj itemsN BW AO Br BK Gr AP A4 Ar Ck As A1 Ay A5 EM AW AK Cy DT B1
theorem gO {d:Ag}(h:VQ d):(⟨((d.node.toNat:Nat):Int),((d.life.toNat:Nat):Int),((d.count.toNat:Nat):Int)⟩:Ag)=d:=by
 obtain⟨⟨h1,-⟩,⟨h2,-⟩,h3,-⟩:=h
 rw[AaQ h1,AaQ h2,AaQ h3]
theorem PZ {ds:List Ag}{i:Nat}{d:Ag}{r:List UInt8}(h:ds[i]? =some d):(ds.drop i).flatMap A5++r=Aq d.node.toNat++(Aq d.life.toNat++(Aq d.count.toNat++((ds.drop (i+1)).flatMap A5++r))):=by
 obtain⟨hj,rfl⟩:=List.getElem?_eq_some_iff.1 h
 rw[AbC hj,AaV,A5]
 simp only[Aap]
theorem Da {α:Type}{l:List α}{i:Nat}{x:α}(h:l[i]? =some x):l.take (i+1)=l.take i++[x]:=by
 obtain⟨hj,rfl⟩:=List.getElem?_eq_some_iff.1 h
 exact AaL hj
theorem P0 {ds:List Ag}{r:List UInt8}:Gm ds++r=Aq ds.length++((ds.drop 0).flatMap A5++r):=by rw[Gm,Aap,List.drop_zero]
theorem Rr (p:Nat):∀n,EM p n=(List.range n).map fun k=>UInt8.ofNat (p/2^(8*k))
 |0=>by unfold EM;rfl
 |n+1=>by rw[OK,Rr p n,List.range_succ,Aam];rfl
theorem Vk {p n k:Nat}(h:k<n):(EM p n).drop k=[UInt8.ofNat (p/2^(8*k))]++(EM p n).drop (k+1):=by
 have hl:=IA p n
 rw[AbC Zo]
 have e:(EM p n)[k]'(by omega)=UInt8.ofNat (p/2^(8*k)):=by simp only[Rr];simp
 rw[e];rfl
theorem P1 (p k:Nat):p%2^(8*k)|||(UInt8.ofNat (p/2^(8*k))).toNat*2^(8*k)=p%2^(8*(k+1)):=by
 rw[Kf _ _ _ (Aa0 _ (Nat.two_pow_pos _)),UInt8.toNat_ofNat',show 8*(k+1)=8*k+8 by omega,Nat.pow_add,Nat.mod_mul];exact congrArg _ (Abb _ _)
theorem SP {x:Aj}(h:0<=x.price∧x.price<18446744073709551616):((x.price.toNat%2^(8*8):Nat):Int)=x.price:=by
 rw[Nat.mod_eq_of_lt Zo];omega
def Le (x:Aj)(r:List UInt8):List UInt8:=AW x.item++(Aq x.dot.node.toNat++(Aq x.dot.life.toNat++(Aq x.dot.count.toNat++(Aq x.qty.toNat++(EM x.price.toNat 8++r)))))
theorem SQ (x:Aj)(r:List UInt8):AK x++r=Le x r:=by rw[AK,Le];simp only[Aap]
theorem P2 {es:List Aj}{i:Nat}{x:Aj}{r:List UInt8}(h:es[i]? =some x):(es.drop i).flatMap AK++r=Le x ((es.drop (i+1)).flatMap AK++r):=by
 obtain⟨hj,rfl⟩:=List.getElem?_eq_some_iff.1 h
 rw[AbC hj,AaV,Aap,SQ]
theorem YR (v:MV)(s:Ge)(w:World)(hR:Bf w s v)(ho:Bl v s)(hc:EJ v=0):Calls prog 35 #[.agg #[.slice s.ea v.ent.length s.ec,.slice s.ma v.mrk.length s.mc,.slice s.ca v.cl.length s.cc]] w (AN fun r w'=>r= .int .i64 0∧Ap w w'):=by
 have h:=Vi v s w hR ho
 rwa[hc]at h
theorem Lf {v:MV}:Cy v=Aq v.ent.length++((v.ent.drop 0).flatMap AK++(Ds v.mrk v.cl++[])):=by unfold Cy;rw[Lb,Aap,List.drop_zero,Aaw]
attribute [local irreducible] X
theorem Ja (b:Nat)(Z:Nat->Prop)(bs r:List UInt8)(n:Nat)(w:World)(hrd:BD w b Z bs (Aq n++r))(hn:n<4611686018427387904):
  Calls prog 117 #[jp b,.int .i64 1] w (AN (fun v w'=>(∃a' c',v= .tuple #[.slice a' 1 c',.bool true]∧Af w' 3 a' c' ([((n:Nat):Int)]:List Int)∧(∀q,own a' q->w.heap.size<=q))∧BD w' b Z bs r∧Ad Z w w')):=by
 refine Ac (n:=25) func117 rfl rfl rfl ?_;refine jG ?_;refine Ai.unloop ?_;refine jG ?_;refine C4 ?_;refine jG ?_;refine jR<|jC (Dy _ _ _ _ n _ hrd Zo) ?_;rintro _ ae ⟨rfl,a0,a5⟩;have K0:=(Ad.refl Z w).trans a5 (fun x hlt hx=>(fun q_ h_ _=>h_) x hx hlt);replace hrd:=a0;clear a0;refine jG ?_;refine Ai.condF rfl ?_;refine jG ?_;refine jR<|AA.buildSlice ([((n:Nat):Int)]:List Int) underlying185 ty3 rfl rfl Ze ?_;intro af a6 a7 a8 a1;clear a7;have a9:=Af.nil (α:=Int) a6 3;refine jR<|AA.append (xs:=([]:List Int)) (ys:=([((n:Nat):Int)]:List Int)) underlying185 ty3 rfl rfl rfl a9 a8.sl Zr Zd ?_;intro a2 aa ag ab a3 a4 ac;replace K0:=K0.ext a1;have ad:∀q_,own a2 q_->w.heap.size<=q_:=a4.ge (fun q_ h1=>absurd h1 (Ae q_)) K0.size;replace K0:=K0.trans a3 (fun x hlt hx=>(fun q_ h1 _=>absurd h1 (Ae q_)) x hx hlt);clear a4;clear ac;refine jG ?_;refine jV (Az (c:=1) (Au rfl rfl Zd Zd) Zd) ?_;refine jG ?_;refine Ai.inLoop ?_;refine jG ?_;refine Ai.condF rfl ?_;refine jG ?_;refine jK func117 ?_;replace hrd:=(hrd.ext a1).kO a3 (fun q_ h1 h2=>(fun q_ h1 _=>Ae q_ h1) q_ h2 h1);exact⟨_,rfl,⟨a2,aa,rfl,ab,ad⟩,hrd,K0⟩
theorem SR (b:Nat)(Z:Nat->Prop)(bs r:List UInt8)(n m k:Nat)(w:World)(hrd:BD w b Z bs (Aq n++(Aq m++(Aq k++r))))(hn:n<4611686018427387904)(hm:m<4611686018427387904)(hk:k<4611686018427387904):
  Calls prog 117 #[jp b,.int .i64 3] w (AN (fun v w'=>(∃a' c',v= .tuple #[.slice a' 3 c',.bool true]∧Af w' 3 a' c' ([((n:Nat):Int),((m:Nat):Int),((k:Nat):Int)]:List Int)∧(∀q,own a' q->w.heap.size<=q))∧BD w' b Z bs r∧Ad Z w w')):=by
 refine Ac (n:=25) func117 rfl rfl rfl ?_;refine jG ?_;refine Ai.unloop ?_;refine jG ?_;refine C4 ?_;refine jG ?_;refine jR<|jC (Dy _ _ _ _ n _ hrd Zo) ?_;rintro _ aG ⟨rfl,a9,am⟩;have K0:=(Ad.refl Z w).trans am (fun x hlt hx=>(fun q_ h_ _=>h_) x hx hlt);replace hrd:=a9;clear a9;refine jG ?_;refine Ai.condF rfl ?_;refine jG ?_;refine jR<|AA.buildSlice ([((n:Nat):Int)]:List Int) underlying185 ty3 rfl rfl Ze ?_;intro aH an ao ap aa;clear ao;have aq:=Af.nil (α:=Int) an 3;refine jR<|AA.append (xs:=([]:List Int)) (ys:=([((n:Nat):Int)]:List Int)) underlying185 ty3 rfl rfl rfl aq ap.sl Zr Zd ?_;intro a2 aI aJ a3 ab a0 ar;replace hrd:=hrd.ext aa;have a4:∀q_,own a2 q_->¬Z q_:=a0.apart (fun q_ h1 _=>Ae q_ h1) hrd.oL;replace K0:=K0.ext aa;have ac:∀q_,own a2 q_->q_<w.heap.size->Z q_:=a0.inS (fun q_ h1 _=>absurd h1 (Ae q_)) K0.size;have au:∀q_,own a2 q_->w.heap.size<=q_:=a0.ge (fun q_ h1=>absurd h1 (Ae q_)) K0.size;replace K0:=K0.trans ab (fun x hlt hx=>(fun q_ h1 _=>absurd h1 (Ae q_)) x hx hlt);clear a0;clear ar;refine jG ?_;refine jV (Az (c:=1) (Au rfl rfl Zd Zd) Zd) ?_;refine jG ?_;refine Ai.inLoop ?_;refine jG ?_;refine C4 ?_;refine jG ?_;replace hrd:=hrd.kO ab (fun q_ h1 h2=>(fun q_ h1 _=>Ae q_ h1) q_ h2 h1);refine jR<|jC (Dy _ _ _ _ m _ hrd Zo) ?_;rintro _ aK ⟨rfl,ad,ae⟩;replace K0:=K0.trans ae (fun x hlt hx=>(fun q_ h_ _=>h_) x hx hlt);replace hrd:=ad;clear ad;refine jG ?_;refine Ai.condF rfl ?_;refine jG ?_;refine jR<|AA.buildSlice ([((m:Nat):Int)]:List Int) underlying185 ty3 rfl rfl Ze ?_;intro aL aM av aw a5;clear av;replace a3:=(a3.kO ae a4).ext a5;refine jR<|AA.append (xs:=([]:List Int)++([((n:Nat):Int)]:List Int)) (ys:=([((m:Nat):Int)]:List Int)) underlying185 ty3 rfl rfl rfl a3 aw.sl Zr Zd ?_;intro a6 aN aO a7 af a1 ax;replace hrd:=hrd.ext a5;have ag:∀q_,own a6 q_->¬Z q_:=a1.apart a4 hrd.oL;replace K0:=K0.ext a5;have ay:∀q_,own a6 q_->q_<w.heap.size->Z q_:=a1.inS ac K0.size;have az:∀q_,own a6 q_->w.heap.size<=q_:=a1.ge au K0.size;replace K0:=K0.trans af (fun x hlt hx=>ac x hx hlt);clear a1;clear ax;refine jG ?_;refine jV (Az (c:=2) (Au rfl rfl Zd Zd) Zd) ?_;refine jG ?_;refine Ai.inLoop ?_;refine jG ?_;refine C4 ?_;refine jG ?_;replace hrd:=hrd.kO af (Zf a4);refine jR<|jC (Dy _ _ _ _ k _ hrd Zo) ?_;rintro _ aP ⟨rfl,ah,ai⟩;replace K0:=K0.trans ai (fun x hlt hx=>(fun q_ h_ _=>h_) x hx hlt);replace hrd:=ah;clear ah;refine jG ?_;refine Ai.condF rfl ?_;refine jG ?_;refine jR<|AA.buildSlice ([((k:Nat):Int)]:List Int) underlying185 ty3 rfl rfl Ze ?_;intro aQ aR aA aB a8;clear aA;replace a7:=(a7.kO ai ag).ext a8;refine jR<|AA.append (xs:=(([]:List Int)++([((n:Nat):Int)]:List Int))++([((m:Nat):Int)]:List Int)) (ys:=([((k:Nat):Int)]:List Int)) underlying185 ty3 rfl rfl rfl a7 aB.sl Zr Zd ?_;intro aj aC aS aD ak al aE;replace K0:=K0.ext a8;have aF:∀q_,own aj q_->w.heap.size<=q_:=al.ge az K0.size;replace K0:=K0.trans ak (fun x hlt hx=>ay x hx hlt);clear al;clear aE;refine jG ?_;refine jV (Az (c:=3) (Au rfl rfl Zd Zd) Zd) ?_;refine jG ?_;refine Ai.inLoop ?_;refine jG ?_;refine Ai.condF rfl ?_;refine jG ?_;refine jK func117 ?_;replace hrd:=(hrd.ext a8).kO ak (Zf ag);exact⟨_,rfl,⟨aj,aC,rfl,aD,aF⟩,hrd,K0⟩
theorem OO (b:Nat)(Z:Nat->Prop)(bs r:List UInt8)(s:ByteArray)(w:World)(hrd:BD w b Z bs (AW s++r))(hs:AP s=true):
  Calls prog 119 #[jp b] w (AN (fun v w'=>v= .tuple #[.string s,.bool true]∧BD w' b Z bs r∧Ad Z w w')):=by
 have hs32:=Bt hs;refine Ac (n:=18) func119 rfl rfl rfl ?_;refine jG ?_;refine jR<|jC (ON _ _ _ _ s 32 _ hrd Zo Zo) ?_;rintro _ a3 ⟨rfl,a0,a2⟩;have K0:=(Ad.refl Z w).trans a2 (fun x hlt hx=>(fun q_ h_ _=>h_) x hx hlt);replace hrd:=a0;clear a0;refine jG ?_;refine jT<|jC (GE s _ Zo) ?_;rintro _ a4 ⟨rfl,a1⟩;refine jV (BU rfl rfl rfl) ?_;refine jG ?_;refine jK func119 ?_;replace hrd:=hrd.ext a1;replace K0:=K0.ext a1;exact⟨_,rfl,by rw[hs],hrd,K0⟩
theorem XQ (b:Nat)(Z:Nat->Prop)(bs r:List UInt8)(ds:List Ag)(w:World)(hrd:BD w b Z bs (Gm ds++r))(hds:∀d∈ds,VQ d)(hdl:ds.length<=64):
  Calls prog 321 #[jp b,.int .i64 64] w (AN (fun v w'=>(∃a' c',v= .tuple #[.slice a' ds.length c',.int .i64 0]∧Af w' 73 a' c' ds∧(∀q,own a' q->w.heap.size<=q))∧BD w' b Z bs r∧Ad Z w w')):=by
 rw[P0]at hrd;refine Ac (n:=52) func321 rfl rfl rfl ?_;refine jG ?_;refine jR<|jC (Dy _ _ _ _ ds.length _ hrd Zo) ?_;rintro _ ay ⟨rfl,am,az⟩;have K0:=(Ad.refl Z w).trans az (fun x hlt hx=>(fun q_ h_ _=>h_) x hx hlt);replace hrd:=am;clear am;refine jG ?_;refine Ai.condF rfl ?_;refine jG ?_;refine jF ?_ ?_
 ·intro hc22
  exfalso;omega
 ·intro hc22
  refine jG ?_;refine Ai.loop (ι:=Nat) (fun i ρ' w'=>∃a':Option Addr,∃c':Nat,Holds ρ' [(0,jp b),(8,.slice a' ((ds.take i).length) c'),(23,.int .i64 ((ds.length:Nat):Int)),(24,.int .i64 ((i:Nat):Int)),(7,.int .i64 0)]∧Ad Z w w'∧(BD w' b Z bs ((ds.drop i).flatMap A5++r))∧(Af w' 73 a' c' (ds.take i))∧(∀q_,Z q_->¬own a' q_)∧(∀q_,Z q_->q_<w.heap.size->Z q_)∧(∀q_,own a' q_->q_<w.heap.size->Z q_)∧(∀q_,own a' q_->w.heap.size<=q_)∧(i<=ds.length)) (fun i=>ds.length-i) 0 ?_ ?_
  ·rw[AaE]
   have aA:=Af.nil (α:=Ag) ay 73;refine⟨_,_,⟨rfl,rfl,rfl,rfl,rfl,trivial⟩,K0,hrd,aA,(fun q_ h1 h2=>(fun q_ h1 _=>Ae q_ h1) q_ h2 h1),(fun q_ h_ _=>h_),(fun q_ h1 _=>absurd h1 (Ae q_)),(fun q_ h1=>absurd h1 (Ae q_)),?_⟩
   ·omega
  clear hrd;clear K0;rintro i aU aV ⟨a',c',an,K0,a0,a4,a6,a7,ao,ap,hi⟩ ih1;obtain⟨ρ₀,rfl⟩:=an.ex;clear an;refine jG ?_;refine jF ?_ ?_
  ·intro hc25
   obtain⟨d,hd⟩:∃d,ds[i]? =some d:=⟨_,List.getElem?_eq_getElem Zo⟩;have hnd:=hds d (I9 hd);obtain⟨⟨hn1,hn2⟩,⟨hn3,hn4⟩,hn5,hn6⟩:=hds d (I9 hd);rw[PZ hd]at a0;refine jG ?_;refine jR<|jA ?_;intro a2 aW a8 a1 af;have a5:=An a0.oL a8;have ag:=An a4.oL a8;have:=Aaa K0.size a8;clear a8;refine jG ?_;refine jR<|AA.buildSlice ([some (⟨a2,0,none⟩:Addr),some (⟨a2,1,none⟩:Addr),some (⟨a2,2,none⟩:Addr)]:List (Option Addr)) underlying319 ty318 rfl rfl Ze ?_;intro aX aY ah a3 a9;replace a0:=a0.ext af;have aq:=Ah (CV ah) a0.oL;have ar:=Aw (CV ah) a1.lt;clear ah;refine jV (Az (c:=3) (Cw underlying319 rfl) rfl) ?_;refine jG ?_;refine Ai.unloop ?_;refine jG ?_;refine C4 ?_;refine El ?_;obtain⟨aZ,b0,aB,aC,aD,aE⟩:=a3.sl.el (i:=0) Zs;obtain rfl:some (⟨a2,0,none⟩:Addr)=aB:=Option.some.inj aC;refine jV (AS underlying319 ty318 rfl rfl aD Zs) ?_;refine jV (BQ (v:=jp a2) (y:=some (⟨a2,0,none⟩:Addr)) ty318 rfl aE rfl) ?_;refine jG ?_;replace a0:=a0.ext a9;refine jR<|jC (Dy _ _ _ _ d.node.toNat _ a0 Zo) ?_;rintro _ b1 ⟨rfl,au,aa⟩;replace K0:=(K0.ext af).ext a9;replace K0:=K0.trans aa (fun x hlt hx=>a7 x hx hlt);replace a0:=au;clear au;refine jG ?_;replace a1:=(a1.ext a9).keep aa a5;refine jR<|jS a1 ?_;intro b2 a1 ab;replace K0:=K0.n1 ab;refine jG ?_;refine Ai.condF rfl ?_;refine jG ?_;refine jV (Az (c:=1) (Au rfl rfl Zd Zd) Zd) ?_;refine jG ?_;refine Ai.inLoop ?_;refine jG ?_;refine C4 ?_;refine El ?_;replace a3:=(a3.kO aa aq).kO ab (Aa ar);obtain⟨b3,b4,aF,aG,aH,aI⟩:=a3.sl.el (i:=1) Zs;obtain rfl:some (⟨a2,1,none⟩:Addr)=aF:=Option.some.inj aG;refine jV (AS underlying319 ty318 rfl rfl aH Zs) ?_;refine jV (BQ (v:= .pointer (some ⟨a2,1,none⟩)) (y:=some (⟨a2,1,none⟩:Addr)) ty318 rfl aI rfl) ?_;refine jG ?_;replace a0:=a0.kO ab (Aa a5);refine jR<|jC (Dy _ _ _ _ d.life.toNat _ a0 Zo) ?_;rintro _ b5 ⟨rfl,av,ac⟩;replace K0:=K0.trans ac (fun x hlt hx=>a7 x hx hlt);replace a0:=av;clear av;refine jG ?_;replace a1:=a1.keep ac a5;refine jR<|jS a1 ?_;intro b6 a1 ad;replace K0:=K0.n1 ad;refine jG ?_;refine Ai.condF rfl ?_;refine jG ?_;refine jV (Az (c:=2) (Au rfl rfl Zd Zd) Zd) ?_;refine jG ?_;refine Ai.inLoop ?_;refine jG ?_;refine C4 ?_;refine El ?_;replace a3:=(a3.kO ac aq).kO ad (Aa ar);obtain⟨b7,b8,aJ,aK,aL,aM⟩:=a3.sl.el (i:=2) Zs;obtain rfl:some (⟨a2,2,none⟩:Addr)=aJ:=Option.some.inj aK;refine jV (AS underlying319 ty318 rfl rfl aL Zs) ?_;refine jV (BQ (v:= .pointer (some ⟨a2,2,none⟩)) (y:=some (⟨a2,2,none⟩:Addr)) ty318 rfl aM rfl) ?_;refine jG ?_;replace a0:=a0.kO ad (Aa a5);refine jR<|jC (Dy _ _ _ _ d.count.toNat _ a0 Zo) ?_;rintro _ b9 ⟨rfl,aw,ai⟩;replace K0:=K0.trans ai (fun x hlt hx=>a7 x hx hlt);replace a0:=aw;clear aw;refine jG ?_;replace a1:=a1.keep ai a5;refine jR<|jS a1 ?_;intro ba a1 aj;replace K0:=K0.n1 aj;refine jG ?_;refine Ai.condF rfl ?_;refine jG ?_;refine jV (Az (c:=3) (Au rfl rfl Zd Zd) Zd) ?_;refine jG ?_;refine Ai.inLoop ?_;refine jG ?_;refine Ai.condF rfl ?_;have htl:(ds.take i).length<=i:=Aba ..;refine jG ?_;refine jR<|AA.buildSlice ([(⟨((d.node.toNat:Nat):Int),((d.life.toNat:Nat):Int),((d.count.toNat:Nat):Int)⟩:Ag)]:List Ag) underlying29 ty73 rfl rfl Ze ?_;intro bb bc aN aO ak;clear aN;replace a4:=((((((((a4.ext af).ext a9).kO aa (Zf a6)).kO ab (Aa ag)).kO ac (Zf a6)).kO ad (Aa ag)).kO ai (Zf a6)).kO aj (Aa ag)).ext ak;refine jR<|AA.append (xs:=ds.take i) (ys:=([(⟨((d.node.toNat:Nat):Int),((d.life.toNat:Nat):Int),((d.count.toNat:Nat):Int)⟩:Ag)]:List Ag)) underlying29 ty73 rfl rfl rfl a4 aO.sl Zr Zd ?_
   intro al be bg aP ax ae aQ;replace a0:=(a0.kO aj (Aa a5)).ext ak;have aR:∀q_,own al q_->¬Z q_:=ae.apart (Zf a6) a0.oL;replace K0:=K0.ext ak;have aS:∀q_,own al q_->q_<w.heap.size->Z q_:=ae.inS ao K0.size;have aT:∀q_,own al q_->w.heap.size<=q_:=ae.ge ap K0.size;replace K0:=K0.trans ax (fun x hlt hx=>ao x hx hlt);clear ae;clear aQ;refine jG ?_;refine jV (Az (c:=((i+1:Nat):Int)) (Au rfl rfl Zo Zo) rfl) ?_;refine jG ?_;have e:ds.take (i+1)=(ds.take i)++([(⟨((d.node.toNat:Nat):Int),((d.life.toNat:Nat):Int),((d.count.toNat:Nat):Int)⟩:Ag)]:List Ag):=by rw[Da hd,gO hnd]
   refine ih1 (i+1) _ _ ?_ Zo;rw[e];replace a0:=a0.kO ax a6;refine⟨_,_,⟨rfl,rfl,rfl,rfl,rfl,trivial⟩,K0,a0,aP,(Zf aR),a7,aS,aT,?_⟩
   ·omega
  ·intro hc25
   refine jG ?_;refine jK func321 ?_;have hie:i=ds.length:=by omega
   subst hie;rw[Acu (Aac _),Ab1,Aaz]at a0;rw[Aas]at a4⊢;exact⟨_,rfl,⟨a',c',rfl,a4,ap⟩,a0,K0⟩
theorem YS (b:Nat)(Z:Nat->Prop)(bs r:List UInt8)(ms:List Ab)(cl:List Ag)(w:World)(hrd:BD w b Z bs (Ds ms cl++r))(hX:Ew ms cl):
  Calls prog 276 #[jp b] w (AN (fun v w'=>(∃am cm ac cc,v= .tuple #[.agg #[.slice am ms.length cm,.slice ac cl.length cc],.int .i64 0]∧Af w' 46 am cm ms∧Af w' 73 ac cc cl∧(∀q,own am q->w.heap.size<=q)∧(∀q,own ac q->w.heap.size<=q)∧(∀q,own am q->¬own ac q))∧BD w' b Z bs r∧Ad Z w w')):=by
 rw[Ds,Aap]at hrd;have hm64:=hX.1;have hc64:=hX.2.1;have hcan:=Gf hX;have hml:(ms.map Ab.d).length=ms.length:=Aad ..;have hmm:∀d∈ms.map Ab.d,VQ d:=fun d hd=>by obtain⟨m,hm,rfl⟩:=List.mem_map.1 hd;exact(hX.may hm).nn
 refine Ac (n:=48) func276 rfl rfl rfl ?_;refine jG ?_;refine jR<|jA ?_;intro ad b8 ap a0 ay;have aq:=An hrd.oL ap;have:w.heap.size<=ad:=ap;clear ap;have K0:=(ay:Ap w _).to (S:=Z);refine jG ?_;replace hrd:=hrd.ext ay;refine jR<|jC (XQ _ _ _ _ (ms.map Ab.d) _ hrd hmm Zo) ?_;rintro _ b9 ⟨⟨an,az,rfl,a3,aA⟩,aB,aC⟩;have aP:=Ah aA hrd.oL;clear aA;replace K0:=K0.trans aC (fun x hlt hx=>(fun q_ h_ _=>h_) x hx hlt);replace hrd:=aB;clear aB;refine jG ?_;refine Ai.condF rfl ?_;refine jG ?_;refine jR<|jC (XQ _ _ _ _ cl _ hrd (fun d hd=>(hX.mayC hd).nn) hc64) ?_;rintro _ ba ⟨⟨a6,ae,rfl,a1,ar⟩,aD,au⟩;replace a0:=a0.keep aC aq;have aQ:=Aw ar a0.lt;have aR:=Bd K0.size ar;clear ar;replace K0:=K0.trans au (fun x hlt hx=>(fun q_ h_ _=>h_) x hx hlt);replace hrd:=aD;clear aD;refine jG ?_;refine Ai.condF rfl ?_;refine jG ?_;refine jV (AI (cells:=#[.slice none 0 0,.slice a6 cl.length ae]) Zk) ?_;refine jR<|jA ?_;intro aj bb af a2 ak;replace a0:=a0.keep au aq;have bc:=Ak a0.lt af;have aE:=An hrd.oL af;replace a3:=a3.kO au aP;have aF:=An a3.oL af;have aG:=An a1.oL af;have:=Aaa K0.size af;clear af;refine jR<|jS a2 ?_;intro aS a2 al;replace K0:=K0.ext ak;replace K0:=K0.n1 al;refine jG ?_;replace hrd:=(hrd.ext ak).kO al (Aa aE);replace a0:=(a0.ext ak).kp al;replace a3:=(a3.ext ak).kO al (Aa aF);replace a1:=(a1.ext ak).kO al (Aa aG);refine Ai.loop (ι:=Nat) (fun i ρ' w'=>∃a':Option Addr,∃c':Nat,Holds ρ' [(2,jp ad),(7,jp aj),(30,.slice an ((ms.map Ab.d).length) az),(31,.int .i64 (((ms.map Ab.d).length:Nat):Int)),(32,.int .i64 ((i:Nat):Int))]∧Ad Z w w'∧(AB w' ad [.slice none 0 0,.slice none 0 0] 31)∧(AB w' aj [.slice a' ((ms.take i).length) c',.slice a6 cl.length ae] 31)∧(BD w' b Z bs r)∧(Af w' 73 an az (ms.map Ab.d))∧(Af w' 73 a6 ae cl)∧(Af w' 46 a' c' (ms.take i))∧(¬own a' ad)∧(¬own a' aj)∧(∀q_,own a' q_->¬Z q_)∧(∀q_,own a' q_->¬own an q_)∧(∀q_,own a' q_->¬own a6 q_)∧(∀q_,own a' q_->q_<w.heap.size->Z q_)∧(∀q_,own a' q_->w.heap.size<=q_)∧(i<=ms.length)) (fun i=>ms.length-i) 0 ?_ ?_
 ·rw[AaE]
  have aT:=Af.nil (α:=Ab) aS 46;refine⟨_,_,⟨rfl,rfl,rfl,rfl,rfl,trivial⟩,K0,a0,a2,hrd,a3,a1,aT,(Ae ad),(Ae aj),(fun q_ h1 _=>Ae q_ h1),(fun q_ h1 _=>Ae q_ h1),(fun q_ h1 _=>Ae q_ h1),(fun q_ h1 _=>absurd h1 (Ae q_)),(fun q_ h1=>absurd h1 (Ae q_)),?_⟩
  ·omega
 clear hrd a0 a3 a1 a2;clear K0;rintro i be bg ⟨a',c',aH,K0,a0,a2,hrd,a3,a1,a4,av,aI,aJ,aK,aw,aL,aM,hi⟩ ih1;obtain⟨ρ₀,rfl⟩:=aH.ex;clear aH;refine jG ?_;refine jF ?_ ?_
 ·intro hc33
  obtain⟨bh,bi,d,hd,bj,aU⟩:=a3.sl.eo i;refine jG ?_;refine jR<|jA ?_;intro bk bl a5 aN a8;have bm:=Ak a0.lt a5;have bn:=Ak a2.lt a5;have bo:=Ak aU.lt a5;have aV:=An hrd.oL a5;have aW:=An a3.oL a5;have aX:=An a1.oL a5;have aY:=An a4.oL a5;have:=Aaa K0.size a5;clear a5;refine jR<|jS aN ?_;intro bp aN a9;replace K0:=K0.ext a8;replace K0:=K0.n1 a9;obtain⟨m,hm,hmd⟩:∃m,ms[i]? =some m∧m.d=d:=by rw[Aax,Abp]at hd;exact hd
  have htl:(ms.take i).length<=i:=Aba ..;replace a2:=(a2.ext a8).kp a9;refine jG ?_;refine jR<|AA.buildSlice ([Ag.m d]:List Ab) underlying28 ty46 rfl rfl Ze ?_;intro bq bt aZ b0 aa;clear aZ;replace a4:=((a4.ext a8).kO a9 (Aa aY)).ext aa;refine jR<|AA.append (xs:=ms.take i) (ys:=([Ag.m d]:List Ab)) underlying28 ty46 rfl rfl rfl a4 b0.sl Zr Zd ?_;intro ab bu bv ax ag a7 b1;replace a0:=((a0.ext a8).kp a9).ext aa;have b2:¬own ab ad:=a7.not av a0.lt;replace a2:=a2.ext aa;have aO:¬own ab aj:=a7.not aI a2.lt;replace hrd:=((hrd.ext a8).kO a9 (Aa aV)).ext aa;have b3:∀q_,own ab q_->¬Z q_:=a7.apart aJ hrd.oL;replace a3:=((a3.ext a8).kO a9 (Aa aW)).ext aa;have b4:∀q_,own ab q_->¬own an q_:=a7.apart aK a3.oL;replace a1:=((a1.ext a8).kO a9 (Aa aX)).ext aa;have b5:∀q_,own ab q_->¬own a6 q_:=a7.apart aw a1.oL;replace K0:=K0.ext aa;have b6:∀q_,own ab q_->q_<w.heap.size->Z q_:=a7.inS aL K0.size;have b7:∀q_,own ab q_->w.heap.size<=q_:=a7.ge aM K0.size;replace K0:=K0.trans ag (fun x hlt hx=>aL x hx hlt);clear a7;clear b1;refine jG ?_;replace a2:=a2.keep ag aI;refine jR<|jS a2 ?_;intro bw a2 ah;replace K0:=K0.n1 ah;refine jG ?_;refine jV (Az (c:=((i+1:Nat):Int)) (Au rfl rfl Zo Zo) rfl) ?_;refine jG ?_;have e:ms.take (i+1)=ms.take i++[d.m]:=by rw[Da hm,<-hmd];try rfl
  refine ih1 (i+1) _ _ ?_ Zo;rw[e];replace a0:=(a0.keep ag av).kp ah;replace hrd:=(hrd.kO ag (Zf aJ)).kO ah (Aa aE);replace a3:=(a3.kO ag (Zf aK)).kO ah (Aa aF);replace a1:=(a1.kO ag (Zf aw)).kO ah (Aa aG);replace ax:=ax.kO ah (Aa aO);refine⟨_,_,⟨rfl,rfl,rfl,rfl,rfl,trivial⟩,K0,a0,a2,hrd,a3,a1,ax,b2,aO,b3,b4,b5,b6,b7,?_⟩
  ·omega
 ·intro hc33
  have hie:i=ms.length:=by omega
  subst hie;rw[Aas]at a4;rw[Aas]at a2;refine jG ?_;refine jR<|jC (UB a' ms c' a6 cl ae _ a4.sl a1.sl Zo Zo) ?_;rintro _ bx ⟨rfl,ai⟩;refine jG ?_;replace a0:=a0.ext ai;replace a2:=a2.ext ai;replace hrd:=hrd.ext ai;replace a1:=a1.ext ai;replace a4:=a4.ext ai;replace K0:=K0.ext ai;refine jF ?_ ?_
  ·intro hc45
   rw[hcan]at hc45;cases hc45
  ·intro hc45
   refine jG ?_;refine jR<|jS a0 ?_;intro bz a0 ao;replace K0:=K0.n1 ao;refine jG ?_;refine Ai.retCT (x:= .int .i64 0) (cs:=#[.slice a' ms.length c',.slice a6 cl.length ae]) func276 rfl ty31 rfl rfl a0.cl rfl ?_;replace hrd:=hrd.kO ao (Aa aq);replace a1:=a1.kO ao (Aa aQ);replace a4:=a4.kO ao (Aa av);exact⟨_,rfl,⟨a',c',a6,ae,rfl,a4,a1,aM,aR,aw⟩,hrd,K0⟩
theorem gc (b:Nat)(Z:Nat->Prop)(bs r:List UInt8)(ms:List Ab)(cl:List Ag)(w:World)(hrd:BD w b Z bs (Ds ms cl++r))(hX:Ew ms cl):
  Calls prog 230 #[jp b] w (AN (fun v w'=>(∃am cm ac cc,v= .tuple #[.agg #[.slice am ms.length cm,.slice ac cl.length cc],.int .i64 0]∧Af w' 46 am cm ms∧Af w' 73 ac cc cl∧(∀q,own am q->w.heap.size<=q)∧(∀q,own ac q->w.heap.size<=q)∧(∀q,own am q->¬own ac q))∧BD w' b Z bs r∧Ad Z w w')):=by
 refine Ac (n:=26) func230 rfl rfl rfl ?_;refine jG ?_;refine jR<|jA ?_;intro aq aB a9 a0 ag;have ah:=An hrd.oL a9;have:w.heap.size<=aq:=a9;clear a9;have K0:=(ag:Ap w _).to (S:=Z);refine jG ?_;refine jV (D9 (Dm underlying187 rfl rfl) rfl) ?_;refine jG ?_;refine Ai.condF rfl ?_;replace hrd:=hrd.ext ag;obtain⟨ra,rc,rp,-,hrb,-⟩:=id hrd;refine jG ?_;refine jR<|jA ?_;intro aC aD a5 a2 aa;have aE:=Ak a0.lt a5;have ai:=An hrd.oL a5;have:=Aaa K0.size a5;clear a5;refine jR<|jS a2 ?_;intro aF a2 ab;replace K0:=K0.ext aa;replace K0:=K0.n1 ab;refine jG ?_;replace hrd:=(hrd.ext aa).kO ab (Aa ai);refine jR<|jC (YS _ _ _ _ ms cl _ hrd hX) ?_;rintro _ aG ⟨⟨aj,ak,al,an,rfl,a6,a7,ad,ae,ar⟩,ao,af⟩;replace a0:=(a0.ext aa).kp ab;have au:=Aw ad a0.lt;have av:=Bd K0.size ad;have aw:=Aw ae a0.lt;have ax:=Bd K0.size ae;clear ad ae;replace K0:=K0.trans af (fun x hlt hx=>(fun q_ h_ _=>h_) x hx hlt);replace hrd:=ao;clear ao;refine jG ?_;refine jR<|jA ?_;intro aH aI a1 ap a3;replace a0:=a0.keep af ah;have aJ:=Ak a0.lt a1;replace a2:=a2.keep af ai;have aK:=Ak a2.lt a1;have ay:=An hrd.oL a1;have az:=An a6.oL a1;have aA:=An a7.oL a1;have:=Aaa K0.size a1;clear a1;refine jR<|jS ap ?_;intro aL ap a4;replace K0:=K0.ext a3;replace K0:=K0.n1 a4;refine jG ?_;refine Ai.condF rfl ?_;refine jG ?_;replace a0:=(a0.ext a3).kp a4;refine jR<|jS a0 ?_;intro aM a0 a8;replace K0:=K0.n1 a8;refine jG ?_;refine Ai.retCT (x:= .int .i64 0) (cs:=#[.slice aj ms.length ak,.slice al cl.length an]) func230 rfl ty31 rfl rfl a0.cl rfl ?_;replace hrd:=((hrd.ext a3).kO a4 (Aa ay)).kO a8 (Aa ah);replace a6:=((a6.ext a3).kO a4 (Aa az)).kO a8 (Aa au);replace a7:=((a7.ext a3).kO a4 (Aa aA)).kO a8 (Aa aw);exact⟨_,rfl,⟨aj,ak,al,an,rfl,a6,a7,av,ax,ar⟩,hrd,K0⟩
theorem gP (b:Nat)(Z:Nat->Prop)(bs r:List UInt8)(x:Aj)(w:World)(hrd:BD w b Z bs (Le x r))(hN:entN x):
  Calls prog 229 #[jp b] w (AN (fun v w'=>v= .tuple #[.agg #[.string x.item,.int .i64 x.dot.node,.int .i64 x.dot.life,.int .i64 x.dot.count,.int .i64 x.qty,.int .u64 x.price],.int .i64 0]∧BD w' b Z bs r∧Ad Z w w')):=by
 obtain⟨⟨⟨hn1,hn2⟩,⟨hn3,hn4⟩,hn5,hn6⟩,⟨hq1,hq2⟩,⟨hp1,hp2⟩,hi32⟩:=id hN;rw[Le,<-List.drop_zero (l:=EM x.price.toNat 8)]at hrd;refine Ac (n:=71) func229 rfl rfl rfl ?_;refine jG ?_;refine jR<|jA ?_;intro aa aY an a3 aw;have a6:=An hrd.oL an;have:w.heap.size<=aa:=an;clear an;have K0:=(aw:Ap w _).to (S:=Z);refine jG ?_;refine jR<|jA ?_;intro a1 aZ ab a0 ao;have b0:=Ak a3.lt ab;replace hrd:=hrd.ext aw;have a4:=An hrd.oL ab;have:=Aaa K0.size ab;clear ab;refine jG ?_;replace hrd:=hrd.ext ao;refine jR<|jC (ON _ _ _ _ x.item 32 _ hrd Zo Zo) ?_;rintro _ b1 ⟨rfl,ax,ap⟩;replace K0:=K0.ext ao;replace K0:=K0.trans ap (fun x hlt hx=>(fun q_ h_ _=>h_) x hx hlt);replace hrd:=ax;clear ax;refine jG ?_;refine Ai.condF rfl ?_;refine jG ?_;replace a0:=a0.keep ap a4;refine jR<|jS a0 ?_;intro b2 a0 aq;replace K0:=K0.n1 aq;refine jG ?_;refine jR<|AA.buildSlice ([some (⟨a1,1,none⟩:Addr),some (⟨a1,2,none⟩:Addr),some (⟨a1,3,none⟩:Addr),some (⟨a1,4,none⟩:Addr)]:List (Option Addr)) underlying319 ty318 rfl rfl Ze ?_;intro ay b3 ar a2 ac;replace hrd:=hrd.kO aq (Aa a4);have a7:=Ah (CV ar) hrd.oL;have a8:=Aw (CV ar) a0.lt;clear ar;refine jV (Az (c:=4) (Cw underlying319 rfl) rfl) ?_;refine jG ?_;refine Ai.unloop ?_;refine jG ?_;refine C4 ?_;refine El ?_;obtain⟨b4,b5,aI,aJ,aK,aL⟩:=a2.sl.el (i:=0) Zs;obtain rfl:some (⟨a1,1,none⟩:Addr)=aI:=Option.some.inj aJ;refine jV (AS underlying319 ty318 rfl rfl aK Zs) ?_;refine jV (BQ (v:= .pointer (some ⟨a1,1,none⟩)) (y:=some (⟨a1,1,none⟩:Addr)) ty318 rfl aL rfl) ?_;refine jG ?_;replace hrd:=hrd.ext ac;refine jR<|jC (Dy _ _ _ _ x.dot.node.toNat _ hrd Zo) ?_;rintro _ b6 ⟨rfl,az,ad⟩;replace K0:=K0.ext ac;replace K0:=K0.trans ad (fun x hlt hx=>(fun q_ h_ _=>h_) x hx hlt);replace hrd:=az;clear az;refine jG ?_;replace a0:=(a0.ext ac).keep ad a4;refine jR<|jS a0 ?_;intro b7 a0 ae;replace K0:=K0.n1 ae;refine jG ?_;refine Ai.condF rfl ?_;refine jG ?_;refine jV (Az (c:=1) (Au rfl rfl Zd Zd) Zd) ?_;refine jG ?_;refine Ai.inLoop ?_;refine jG ?_;refine C4 ?_;refine El ?_;replace a2:=(a2.kO ad a7).kO ae (Aa a8);obtain⟨b8,b9,aM,aN,aO,aP⟩:=a2.sl.el (i:=1) Zs;obtain rfl:some (⟨a1,2,none⟩:Addr)=aM:=Option.some.inj aN;refine jV (AS underlying319 ty318 rfl rfl aO Zs) ?_;refine jV (BQ (v:= .pointer (some ⟨a1,2,none⟩)) (y:=some (⟨a1,2,none⟩:Addr)) ty318 rfl aP rfl) ?_;refine jG ?_;replace hrd:=hrd.kO ae (Aa a4);refine jR<|jC (Dy _ _ _ _ x.dot.life.toNat _ hrd Zo) ?_;rintro _ ba ⟨rfl,aA,af⟩;replace K0:=K0.trans af (fun x hlt hx=>(fun q_ h_ _=>h_) x hx hlt);replace hrd:=aA;clear aA;refine jG ?_;replace a0:=a0.keep af a4;refine jR<|jS a0 ?_;intro bb a0 ag;replace K0:=K0.n1 ag;refine jG ?_;refine Ai.condF rfl ?_;refine jG ?_;refine jV (Az (c:=2) (Au rfl rfl Zd Zd) Zd) ?_;refine jG ?_;refine Ai.inLoop ?_;refine jG ?_;refine C4 ?_;refine El ?_;replace a2:=(a2.kO af a7).kO ag (Aa a8);obtain⟨bc,be,aQ,aR,aS,aT⟩:=a2.sl.el (i:=2) Zs;obtain rfl:some (⟨a1,3,none⟩:Addr)=aQ:=Option.some.inj aR;refine jV (AS underlying319 ty318 rfl rfl aS Zs) ?_;refine jV (BQ (v:= .pointer (some ⟨a1,3,none⟩)) (y:=some (⟨a1,3,none⟩:Addr)) ty318 rfl aT rfl) ?_;refine jG ?_;replace hrd:=hrd.kO ag (Aa a4);refine jR<|jC (Dy _ _ _ _ x.dot.count.toNat _ hrd Zo) ?_;rintro _ bg ⟨rfl,aB,ah⟩;replace K0:=K0.trans ah (fun x hlt hx=>(fun q_ h_ _=>h_) x hx hlt);replace hrd:=aB;clear aB;refine jG ?_;replace a0:=a0.keep ah a4;refine jR<|jS a0 ?_;intro bh a0 ai;replace K0:=K0.n1 ai;refine jG ?_;refine Ai.condF rfl ?_;refine jG ?_;refine jV (Az (c:=3) (Au rfl rfl Zd Zd) Zd) ?_
 refine jG ?_;refine Ai.inLoop ?_;refine jG ?_;refine C4 ?_;refine El ?_;replace a2:=(a2.kO ah a7).kO ai (Aa a8);obtain⟨bi,bj,aU,aV,aW,aX⟩:=a2.sl.el (i:=3) Zs;obtain rfl:some (⟨a1,4,none⟩:Addr)=aU:=Option.some.inj aV;refine jV (AS underlying319 ty318 rfl rfl aW Zs) ?_;refine jV (BQ (v:= .pointer (some ⟨a1,4,none⟩)) (y:=some (⟨a1,4,none⟩:Addr)) ty318 rfl aX rfl) ?_;refine jG ?_;replace hrd:=hrd.kO ai (Aa a4);refine jR<|jC (Dy _ _ _ _ x.qty.toNat _ hrd Zo) ?_;rintro _ bk ⟨rfl,aC,aj⟩;replace K0:=K0.trans aj (fun x hlt hx=>(fun q_ h_ _=>h_) x hx hlt);replace hrd:=aC;clear aC;refine jG ?_;replace a0:=a0.keep aj a4;refine jR<|jS a0 ?_;intro bl a0 ak;replace K0:=K0.n1 ak;refine jG ?_;refine Ai.condF rfl ?_;refine jG ?_;refine jV (Az (c:=4) (Au rfl rfl Zd Zd) Zd) ?_;refine jG ?_;refine Ai.inLoop ?_;refine jG ?_;refine Ai.condF rfl ?_;refine jG ?_;replace a3:=(((((((((((a3.ext ao).keep ap a6).kp aq).ext ac).keep ad a6).kp ae).keep af a6).kp ag).keep ah a6).kp ai).keep aj a6).kp ak;replace a2:=(a2.kO aj a7).kO ak (Aa a8);replace hrd:=hrd.kO ak (Aa a4);refine Ai.loop (ι:=Nat) (fun k ρ' w'=>Holds ρ' [(0,jp b),(2,jp aa),(4,jp a1),(48,.int .i64 ((k:Nat):Int))]∧Ad Z w w'∧(AB w' aa [.string (⟨#[]⟩),.int .i64 0,.int .i64 0,.int .i64 0,.int .i64 0,.int .u64 0] 76)∧(AB w' a1 [.string x.item,.int .i64 ((x.dot.node.toNat:Nat):Int),.int .i64 ((x.dot.life.toNat:Nat):Int),.int .i64 ((x.dot.count.toNat:Nat):Int),.int .i64 ((x.qty.toNat:Nat):Int),.int .u64 ((x.price.toNat%2^(8*k):Nat):Int)] 76)∧(Af w' 318 (some ⟨ay,0,none⟩) (([some (⟨a1,1,none⟩:Addr),some (⟨a1,2,none⟩:Addr),some (⟨a1,3,none⟩:Addr),some (⟨a1,4,none⟩:Addr)]:List (Option Addr)).length) ([some (⟨a1,1,none⟩:Addr),some (⟨a1,2,none⟩:Addr),some (⟨a1,3,none⟩:Addr),some (⟨a1,4,none⟩:Addr)]:List (Option Addr)))∧(BD w' b Z bs ((EM x.price.toNat 8).drop k++r))∧(¬Z aa)∧(¬Z a1)∧(∀q_,Z q_->¬own (some ⟨ay,0,none⟩) q_)∧(∀q_,Z q_->q_<w.heap.size->Z q_)∧(k<=8)) (fun k=>8-k) 0 ?_ ?_
 ·rw[show((x.price.toNat%2^(8*0):Nat):Int)=0 by rw[Nat.mul_zero,Nat.pow_zero,Nat.mod_one];rfl]
  refine⟨⟨rfl,rfl,rfl,rfl,trivial⟩,K0,a3,a0,a2,hrd,a6,a4,(Zf a7),(fun q_ h_ _=>h_),?_⟩
  ·omega
 clear hrd a3 a0 a2;clear K0;rintro k bm bn ⟨aD,K0,a3,a0,a2,a5,au,av,aE,aF,hk⟩ ih2;obtain⟨ρ₀,rfl⟩:=aD.ex;clear aD;refine jG ?_;refine jF ?_ ?_
 ·intro hc49
  rw[Vk Zo,Aap]at a5;have hpm:x.price.toNat%2^(8*k)<2^(8*k):=Aa0 _ (Nat.two_pow_pos _);refine jG ?_;refine jR<|jC (Rq _ _ _ _ (UInt8.ofNat (x.price.toNat/2^(8*k))) _ a5) ?_;rintro _ bo ⟨rfl,aG,al⟩;replace K0:=K0.trans al (fun x hlt hx=>aF x hx hlt);replace a5:=aG;clear aG;refine jG ?_;refine Ai.condF rfl ?_;refine jG ?_;have hk7:k<=7:=by omega
  have hub:=(UInt8.ofNat (x.price.toNat/2^(8*k))).toNat_lt;have h2k:2^(8*k)<=2^56:=Ab3 Zd Zo;have hbm:(UInt8.ofNat (x.price.toNat/2^(8*k))).toNat*2^(8*k)<18446744073709551616:=Ack (Nat.mul_le_mul (show _<=255 by omega) h2k) Zd;refine Ai.drawS [9] [0,1001,2,3,4,5,6,7,8,2009] ?_;intro bp a9;replace a0:=(a0.keep al av).ext a9;refine jM (jb a0 Jn) ?_;refine jG ?_;refine jP ?_ (hx:=by exact fun _=>(Ea (kd:= .u64) (a:=(UInt8.ofNat (x.price.toNat/2^(8*k))).toNat) rfl ⟨_,underlying3⟩ underlying74 (show(UInt8.ofNat (x.price.toNat/2^(8*k))).toNat<18446744073709551616 by omega)));refine jG ?_;refine jP ?_ (hx:=by exact fun _=>(Az (c:=((8*k:Nat):Int)) (Qx rfl rfl Zo Zo) rfl));refine jP ?_ (hx:=by exact fun _=>(O9 (kd:= .u64) (a:=(UInt8.ofNat (x.price.toNat/2^(8*k))).toNat) (b:=8*k) rfl rfl (by show 8*k<=64;omega) (by exact hbm)));refine jP ?_ (hx:=by exact fun _=>(Az (c:=((x.price.toNat%2^(8*(k+1)):Nat):Int)) (QE (kd:= .u64) (a:=x.price.toNat%2^(8*k)) (b:=((UInt8.ofNat (x.price.toNat/2^(8*k))).toNat)*2^(8*k)) rfl rfl (show _<18446744073709551616 from Nat.lt_trans hpm (Ack h2k Zd)) (by exact hbm)) (by rw[P1])));refine jG ?_;refine jU rfl<|jS a0 ?_;intro bq a0 am;replace K0:=K0.ext a9;replace K0:=K0.n1 am;refine jG ?_;refine jV (Az (c:=((k+1:Nat):Int)) (Au rfl rfl Zo Zo) rfl) ?_;refine jG ?_;refine ih2 (k+1) _ _ ?_ Zo;replace a3:=((a3.keep al au).ext a9).kp am;replace a2:=((a2.kO al (Zf aE)).ext a9).kO am (Aa a8);replace a5:=(a5.ext a9).kO am (Aa av);refine⟨⟨rfl,rfl,rfl,rfl,trivial⟩,K0,a3,a0,a2,a5,au,av,aE,aF,?_⟩
  ·omega
 ·intro hc49
  refine jG ?_;refine jR<|jS a3 ?_;intro bt a3 aH;replace K0:=K0.n1 aH;refine jG ?_;refine Ai.retCT (x:= .int .i64 0) (cs:=#[.string x.item,.int .i64 ((x.dot.node.toNat:Nat):Int),.int .i64 ((x.dot.life.toNat:Nat):Int),.int .i64 ((x.dot.count.toNat:Nat):Int),.int .i64 ((x.qty.toNat:Nat):Int),.int .u64 ((x.price.toNat%2^(8*k):Nat):Int)]) func229 rfl ty76 rfl rfl a3.cl rfl ?_;have hk8:k=8:=by omega
  subst hk8;replace a5:=a5.kO aH (Aa au);rw[Acu (by rw[IA];exact Aac _),Aaz]at a5;rw[SP hN.2.2.1,AaQ hn1,AaQ hn3,AaQ hn5,AaQ hq1];exact⟨_,rfl,rfl,a5,K0⟩
theorem gg (v:MV)(a:Option Addr)(bs:List UInt8)(c:Nat)(w:World)(hbs:bs=Cy v)(hs:Av w a bs)(hb:Fr v.ent)(hc:EJ v=0)(hvo:JT v):
  Calls prog 184 #[.slice a bs.length c] w (AN (fun r w'=>∃s',r= .tuple #[.agg #[.slice s'.ea v.ent.length s'.ec,.slice s'.ma v.mrk.length s'.mc,.slice s'.ca v.cl.length s'.cc],.int .i64 0]∧Dr w' s' v∧Iy s'∧(∀q,En s' q->w.heap.size<=q)∧Ap w w')):=by
 have hC:=Fq (show Br v.mrk v.cl v.ent=0 by unfold EJ at hc;exact hc);have h64:=hC.len;have hel:=Hb hb hc;have hbl:bs.length<=9000:=by rw[hbs];exact hel
 have hens:∀x∈v.ent,entN x:=fun x hx=>by
  obtain⟨j,hj⟩:=Abn hx;exact(hC.ent j x hj).entN hC.ctx (hb x hx).1
 have hv:JT v:=hvo;refine Ac (n:=62) func184 rfl rfl rfl ?_;refine jG ?_;refine jR<|jA ?_;intro a5 bh aI a1 aT;have:w.heap.size<=a5:=aI;clear aI;have K0:=(aT:Ap w _);refine jG ?_;refine jR<|jC (GF (bs:=bs) (hs.ext K0) Zo) ?_;rintro _ aU ⟨av,a6,rfl,a4,aw,aJ⟩;have aK:=Aw aw a1.lt;have aL:=Bd K0.size aw;clear aw;replace a4:BD aU av a6 bs (Aq v.ent.length++((v.ent.drop 0).flatMap AK++(Ds v.mrk v.cl++[]))):=by have h_:=a4;rw[hbs,Lf]at h_;rw[hbs,Lf];exact h_
 refine jG ?_;refine jR<|jC (Dy _ _ _ _ v.ent.length _ a4 Zo) ?_;rintro _ bi ⟨rfl,aM,aN⟩;replace a4:=aM;clear aM;refine jG ?_;refine Ai.condF rfl ?_;refine jG ?_;replace a1:=(a1.ext aJ).keep aN aK;replace K0:=(K0.ext aJ).new aN aL;refine jF ?_ ?_
 ·intro hc22
  exfalso;omega
 ·intro hc22
  refine jG ?_;refine jR<|jA ?_;intro a7 aV al a0 ax;have bj:=Ak a1.lt al;have aW:=An a4.oL al;have:=Aaa K0.size al;clear al;refine jG ?_;replace a1:=a1.ext ax;replace a4:=a4.ext ax;replace K0:=K0.ext ax;refine Ai.loop (ι:=Nat) (fun i ρ' w'=>∃a':Option Addr,∃c':Nat,Holds ρ' [(2,jp a5),(4,jp av),(7,jp a7),(24,.int .i64 ((v.ent.length:Nat):Int)),(25,.int .i64 ((i:Nat):Int))]∧Ap w w'∧(AB w' a5 [.slice none 0 0,.slice none 0 0,.slice none 0 0] 33)∧(AB w' a7 [.slice a' ((v.ent.take i).length) c',.slice none 0 0,.slice none 0 0] 33)∧(BD w' av a6 bs ((v.ent.drop i).flatMap AK++(Ds v.mrk v.cl++[])))∧(Af w' 76 a' c' (v.ent.take i))∧(¬a6 a5)∧(¬a6 a7)∧(∀q_,a6 q_->¬own a' q_)∧(∀q_,a6 q_->w.heap.size<=q_)∧(¬own a' a5)∧(¬own a' a7)∧(∀q_,own a' q_->w.heap.size<=q_)∧(i<=v.ent.length)) (fun i=>v.ent.length-i) 0 ?_ ?_
  ·rw[AaE]
   have aX:=Af.nil (α:=Aj) aV 76;refine⟨_,_,⟨rfl,rfl,rfl,rfl,rfl,trivial⟩,K0,a1,a0,a4,aX,aK,aW,(fun q_ h1 h2=>(fun q_ h1 _=>Ae q_ h1) q_ h2 h1),aL,(Ae a5),(Ae a7),(fun q_ h1=>absurd h1 (Ae q_)),?_⟩
   ·omega
  clear a1 a4 a0;clear K0;rintro i bk bl ⟨a',c',aO,K0,a1,a0,a2,a3,ay,ae,am,az,aA,aB,aC,hi⟩ ih1;obtain⟨ρ₀,rfl⟩:=aO.ex;clear aO;refine jG ?_;refine jF ?_ ?_
  ·intro hc26
   obtain⟨x,hx⟩:∃x,v.ent[i]? =some x:=⟨_,List.getElem?_eq_getElem Zo⟩;have hen:=hens x (I9 hx);rw[P2 hx]at a2;have htl:(v.ent.take i).length<=i:=Aba ..;refine jG ?_;refine jR<|jC (gP _ _ _ _ x _ a2 hen) ?_;rintro _ bm ⟨rfl,aP,an⟩;replace a2:=aP;clear aP;refine jG ?_;refine jR<|jA ?_;intro bn bo a8 aQ af;replace a1:=a1.keep an ay;have bp:=Ak a1.lt a8;replace a0:=a0.keep an ae;have bq:=Ak a0.lt a8;have aY:=An a2.oL a8;replace a3:=a3.kO an (Zf am);have aZ:=An a3.oL a8;replace K0:=K0.new an az;have:=Aaa K0.size a8;clear a8;refine jR<|jS aQ ?_;intro bt aQ ag;refine jG ?_;refine Ai.condF rfl ?_;replace a0:=(a0.ext af).kp ag;refine jG ?_;refine jR<|AA.buildSlice ([x]:List Aj) underlying27 ty76 rfl rfl Ze ?_;intro bu bv b0 b1 ah;clear b0;replace a3:=((a3.ext af).kO ag (Aa aZ)).ext ah;refine jR<|AA.append (xs:=v.ent.take i) (ys:=([x]:List Aj)) underlying27 ty76 rfl rfl rfl a3 b1.sl Zr Zd ?_;intro ao bw bx aD ap ai b2;replace a1:=((a1.ext af).kp ag).ext ah;have b3:¬own ao a5:=ai.not aA a1.lt;replace a0:=a0.ext ah;have aR:¬own ao a7:=ai.not aB a0.lt;replace a2:=((a2.ext af).kO ag (Aa aY)).ext ah;have b4:∀q_,own ao q_->¬a6 q_:=ai.apart (Zf am) a2.oL;replace K0:=((K0.ext af).n1 ag).ext ah;have b5:∀q_,own ao q_->w.heap.size<=q_:=ai.ge aC K0.size;clear ai;clear b2;refine jG ?_;replace a0:=a0.keep ap aB;refine jR<|jS a0 ?_;intro bz a0 aq;refine jG ?_;refine jV (Az (c:=((i+1:Nat):Int)) (Au rfl rfl Zo Zo) rfl) ?_;refine jG ?_;have e:=Da hx;refine ih1 (i+1) _ _ ?_ Zo;rw[e];replace a1:=(a1.keep ap aA).kp aq;replace a2:=(a2.kO ap am).kO aq (Aa ae);replace K0:=(K0.new ap aC).n1 aq;replace aD:=aD.kO aq (Aa aR);refine⟨_,_,⟨rfl,rfl,rfl,rfl,rfl,trivial⟩,K0,a1,a0,a2,aD,ay,ae,(Zf b4),az,b3,aR,b5,?_⟩
   ·omega
  ·intro hc26
   have hie:i=v.ent.length:=by omega
   subst hie;rw[Aas]at a3 a0;rw[Acu (Aac _),Ab1,Aaz]at a2;refine jG ?_;refine jR<|jC (gc _ _ _ _ v.mrk v.cl _ a2 hC.ctx) ?_;rintro _ bA ⟨⟨aE,aF,aG,aH,rfl,a9,aa,aj,ak,b6⟩,aS,ar⟩;have b7:=Aw aj a1.lt;have b8:=Aw aj a0.lt;have b9:=Ah aj a3.oL;have ba:=Bd K0.size aj;have bb:=Aw ak a1.lt;have bc:=Aw ak a0.lt;have be:=Ah ak a3.oL;have bg:=Bd K0.size ak;clear aj ak;replace a2:=aS;clear aS;refine jG ?_;replace a0:=a0.keep ar ae;refine jR<|jS a0 ?_;intro bB a0 ab;refine jG ?_;refine C4 ?_;refine jG ?_;replace a2:=a2.kO ab (Aa ae);refine jR<|jC (YQ _ _ _ _ a2) ?_;rintro _ bC ⟨rfl,ac⟩;refine jG ?_;refine C4 ?_;replace a0:=a0.ext ac;refine jG ?_;replace a3:=((a3.kO ar (Zf am)).kO ab (Aa aB)).ext ac;replace a9:=(a9.kO ab (Aa b8)).ext ac;replace aa:=(aa.kO ab (Aa bc)).ext ac;refine jR<|jC (YR v ⟨a',c',aE,aF,aG,aH,none,0,none,0,none,0⟩ _ ⟨a3.sl,a9.sl,aa.sl⟩ ⟨hv,hb,a3.le_cap⟩ hc) ?_;rintro _ bD ⟨rfl,ad⟩;refine jG ?_;refine Ai.condF rfl ?_;replace a0:=a0.ext ad;refine jG ?_;replace a1:=(((a1.keep ar ay).kp ab).ext ac).ext ad;refine jR<|jS a1 ?_;intro bE a1 au;refine jG ?_;refine Ai.retCT (x:= .int .i64 0) (cs:=#[.slice a' v.ent.length c',.slice aE v.mrk.length aF,.slice aG v.cl.length aH]) func184 rfl ty33 rfl rfl a1.cl rfl ?_;replace K0:=((((K0.new ar az).n1 ab).ext ac).ext ad).n1 au;replace a3:=(a3.ext ad).kO au (Aa aA);replace a9:=(a9.ext ad).kO au (Aa b7);replace aa:=(aa.ext ad).kO au (Aa bb)
   exact⟨_,rfl,⟨a',c',aE,aF,aG,aH,none,0,none,0,none,0⟩,rfl,⟨a3,a9,aa⟩,⟨(Zf b9),(Zf be),b6⟩,fun q hq=>by
    rcases hq with hq|hq|hq
    ·exact aC q hq
    ·exact ba q hq
    ·exact bg q hq,K0⟩
end
section
def YT (ms:List Ab)(cl:List Ag)(es:List Aj)(ms2:List Ab)(cl2:List Ag)(es2:List Aj):Prop:=WA ms cl ms2 cl2∧∀x∈es2,Cb ms cl x.dot->x∈es
instance (ms :List Ab)(cl:List Ag)(es:List Aj)(ms2:List Ab)(cl2:List Ag)(es2:List Aj):Decidable (YT ms cl es ms2 cl2 es2):=by unfold YT;infer_instance
def YU (a b:MV):Prop:=YT a.mrk a.cl a.ent b.mrk b.cl b.ent
theorem Ey {ms:List Ab}{cl:List Ag}(h:Ew ms cl):Co ms cl:=h.canon
theorem OP {a:MV}(h:EJ a=0):GD a.mrk a.cl a.ent:=Fq (by unfold EJ at h;exact h)
theorem Jw {a b:MV}(h:HG a b=0):EJ a=0∧EJ b=0∧(AU a.mrk a.cl b.mrk b.cl).1=0∧BN a.mrk a.cl a.ent b.mrk b.cl b.ent=(0,(AU a.mrk a.cl b.mrk b.cl).2,B2 a.mrk a.cl a.ent b.mrk b.cl b.ent):=by
 unfold HG at h
 unfold EJ
 by_cases h1:Br a.mrk a.cl a.ent=0
 ·by_cases h2:Br b.mrk b.cl b.ent=0
  ·by_cases h3:(AU a.mrk a.cl b.mrk b.cl).1=0
   ·by_cases h4:64<(B2 a.mrk a.cl a.ent b.mrk b.cl b.ent).length∨32<itemsN (B2 a.mrk a.cl a.ent b.mrk b.cl b.ent)
    ·rw[J0 h1 h2 h3 h4]at h;exact absurd h Zd
    ·by_cases h5:GM a.ent b.ent
     ·rw[J1 h1 h2 h3 h4 h5]at h;exact absurd h Zd
     ·exact⟨h1,h2,h3,Ix h1 h2 h3 h4 h5⟩
   ·rw[JZ h1 h2 h3]at h;exact absurd h h3
  ·rw[JY h1 h2]at h;exact absurd h h2
 ·rw[JX h1]at h;exact absurd h h1
theorem ST {ms ms2:List Ab}{cl cl2:List Ag}(hA:Ew ms cl)(hB:Ew ms2 cl2)(h:(AU ms cl ms2 cl2).1=0)(d:Ag):Cb (AU ms cl ms2 cl2).2.1 (AU ms cl ms2 cl2).2.2 d↔Cb ms cl d∨Cb ms2 cl2 d:=by
 have hM:∀m∈ms++ms2,AC m.d:=fun m hm=>(List.mem_append.1 hm).elim (fun h=>hA.may h) (fun h=>hB.may h)
 have hD:∀d∈cl++cl2,AC d:=fun d hd=>(List.mem_append.1 hd).elim (fun h=>hA.mayC h) (fun h=>hB.mayC h)
 have hp:=Rb hM hD
 obtain⟨hcn,hcv⟩:=HX hp.1 hp.2
 rw[Gg (Gf hA) (Gf hB)]at h⊢
 by_cases hl:64<(Cg (ms++ms2) (cl++cl2)).1.length∨64<(Cg (ms++ms2) (cl++cl2)).2.length
 ·rw[(Gh hM hD).1 hl]at h;exact absurd h Zd
 ·rw[(Gh hM hD).2 hl]
  refine(hcv d).trans ?_
  rw[(Ey hA).raw,(Ey hB).raw]
  unfold Jq
  constructor
  ·rintro⟨h1,⟨m,hm,h2⟩|h2⟩
   ·rcases List.mem_append.1 hm with hm|hm
    ·exact .inl ⟨h1,.inl ⟨m,hm,h2⟩⟩
    ·exact .inr ⟨h1,.inl ⟨m,hm,h2⟩⟩
   ·rcases List.mem_append.1 h2 with h2|h2
    ·exact .inl ⟨h1,.inr h2⟩
    ·exact .inr ⟨h1,.inr h2⟩
  ·rintro(⟨h1,⟨m,hm,h2⟩|h2⟩|⟨h1,⟨m,hm,h2⟩|h2⟩)
   ·exact⟨h1,.inl ⟨m,AaM _ hm,h2⟩⟩
   ·exact⟨h1,.inr (AaM _ h2)⟩
   ·exact⟨h1,.inl ⟨m,AaP _ hm,h2⟩⟩
   ·exact⟨h1,.inr (AaP _ h2)⟩
section
variable {a b c:MV}
theorem SU (h:HG a b=0)(d:Ag):Cb (CC a b).mrk (CC a b).cl d↔Cb a.mrk a.cl d∨Cb b.mrk b.cl d:=by
 obtain⟨h1,h2,h3,h4⟩:=Jw h
 unfold CC
 show Cb (BN a.mrk a.cl a.ent b.mrk b.cl b.ent).2.1.1 (BN a.mrk a.cl a.ent b.mrk b.cl b.ent).2.1.2 d↔_
 rw[h4]
 exact ST (OP h1).ctx (OP h2).ctx h3 d
theorem SV (h:HG a b=0)(x:Aj):x∈(CC a b).ent->(x∈a.ent∧(x∈b.ent∨¬Cb b.mrk b.cl x.dot))∨(x∈b.ent∧¬Cb a.mrk a.cl x.dot):=by
 obtain⟨h1,h2,h3,h4⟩:=Jw h
 unfold CC
 show x∈(BN a.mrk a.cl a.ent b.mrk b.cl b.ent).2.2->_
 rw[h4]
 intro hx
 rw[B2,Mt,Aak]at hx
 rcases hx with hx|hx
 ·obtain⟨h5,h6⟩:=List.mem_filter.1 hx
  refine .inl ⟨h5,?_⟩
  simpa[AbD]using h6
 ·exact .inr (kB_mem.1 hx)
theorem YU.left (hc:fX c)(hA:fX a)(h:HG a b=0)(hl:YU c a):YU c (CC a b):=by
 have hcov:=(Oq (Ey hc) (Ey hA)).1 hl.1
 refine⟨(Oq (Ey hc) (Ey (SN h))).2 fun d hd=>(SU h d).2 (.inl (hcov d hd)),fun x hx hd=> ?_⟩
 rcases SV h x hx with h1|h1
 ·exact hl.2 x h1.1 hd
 ·exact absurd (hcov _ hd) h1.2
end
section
variable {ms ms2 M M2:List Ab}{cl cl2 D D2:List Ag}{es es2:List Aj}{d:Ag}
theorem SW (h : GD ms cl es) : Br ms cl es = 0 := by
  refine Ri (Gf h.ctx) h.len ?_ h.items
  have : ∀ n, n <= es.length -> AO ms cl es n = 0 := by
    intro n
    induction n with
    | zero => intro _; rfl
    | succ n ih =>
      intro hn
      have hx : es[n]? = some es[n] := List.getElem?_eq_getElem Zo
      exact Jt (ih Zo) hx (errE_iff.2 (h.ent n _ hx))
  exact this _ (Aac _)
end
section
variable {a b x:MV}
end
theorem Lg {α:Type}{l:List α}{i:Nat}{x:α}{p:α->Bool}(h:l[i]? =some x)(hp:p x=true):(l.take (i+1)).filter p=(l.take i).filter p++[x]:=by
 rw[Da h,Abz,AbK,if_pos hp];rfl
theorem Nl {α:Type}{l:List α}{i:Nat}{x:α}{p:α->Bool}(h:l[i]? =some x)(hp:p x=false):(l.take (i+1)).filter p=(l.take i).filter p:=by
 rw[Da h,Abz,AbK,if_neg (by rw[hp];decide),List.filter_nil,Aaw]
theorem Lh {α:Type}(l:List α)(i:Nat)(p:α->Bool):((l.take i).filter p).length<=i:=Aaa (AaT ..) (Aba ..)
abbrev EK (a:AT)(m:Ab):Bool:= !decide ((Ab.d m).a=a)
abbrev EQ (a:AT)(d:Ag):Bool:= !decide (d.a=a)
abbrev Jb (a:AT)(x:Aj):Bool:= !decide (x.dot.a=a)
def Ax (v:MV)(a:AT):MV:={nilV with ent:=v.ent.filter (Jb a),mrk:=v.mrk.filter (EK a),cl:=v.cl.filter (EQ a)}
def SX (a:AT)(n:Int)(d:Ag):Int:=if d.a=a then max n d.count else n
def EW (ms:List Ab)(cl:List Ag)(a:AT):Int:=cl.foldl (SX a) (B4 ms a)
theorem OQ {ms:List Ab}{cl:List Ag}{a:AT}{i:Nat}{d:Ag}(h:cl[i]? =some d):EW ms (cl.take (i+1)) a=SX a (EW ms (cl.take i) a) d:=by
 rw[EW,Da h,Abf];rfl
theorem Vl {a:AT}{n:Int}{d:Ag}(h:d.a=a):SX a n d=max n d.count:=if_pos h
theorem Nm {a:AT}{n:Int}{d:Ag}(h:¬d.a=a):SX a n d=n:=if_neg h
theorem SY {ms:List Ab}{cl:List Ag}{a:AT}:EW ms (cl.take 0) a=B4 ms a:=rfl
theorem XR {x:Aj}{a:AT}:Jb a x=true↔¬(x.dot.node=a.node∧x.dot.life=a.life):=by
 unfold Jb
 rw[AaO,decide_eq_false_iff_not]
 constructor
 ·rintro h ⟨h1,h2⟩;exact h (by cases a;simp only[Ag.a]at*;rw[h1,h2])
 ·rintro h h2;exact h (by rw[<-h2];exact⟨rfl,rfl⟩)
theorem gh {x:Ag}{a:AT}(h:EQ a x=true):¬x.a=a:=by simpa[EQ]using h
section
variable {ms :List Ab}{cl:List Ag}{a b:AT}{v:MV}
theorem Hr {α:Type}{l:List α}{p:α->Bool}{i:Nat}{x:α}(h:(l.filter p)[i]? =some x):p x=true∧x∈l:=by
 have:=List.mem_filter.1 (Aan h);exact⟨this.2,this.1⟩
theorem Nn (hb:b≠a):B4 (ms.filter (EK a)) b=B4 ms b:=by
 unfold B4
 rw[List.find?_filter]
 have e:(fun m:Ab=>decide (EK a m=true∧decide ((Ab.d m).a=b)=true))=fun m=>decide ((Ab.d m).a=b):=by
  funext m
  by_cases h:(Ab.d m).a=b
  ·rw[decide_eq_true h];simp[EK,h,hb]
  ·rw[decide_eq_false h];simp
 rw[e]
theorem mkN_out :B4 (ms.filter (EK a)) a=0:=by
 have:(ms.filter (EK a)).find? (fun m=>decide ((Ab.d m).a=a))=none:=by
  rw[Abe]
  intro m hm
  have:=(List.mem_filter.1 hm).2
  simpa[EK]using this
 rw[B4,this]
theorem Vm (h:∀i,XL ms i):ms.Pairwise BH:=Ef (r:=BH) (fun _ _ _ h k=>CZ h k) fun i x y hx hy=>(h (i+1) y hy).2 Zo x hx
theorem Vn (h:∀i,Sp ms cl i):cl.Pairwise Cp:=Ef (r:=Cp) (fun _ _ _ h k=>E2 h k) fun i x y hx hy=>(h (i+1) y hy).2.1 Zo x hx
theorem EX {α:Type}{R:α->α->Prop}{l:List α}(h:l.Pairwise R){i j:Nat}{x y:α}(hx:l[i]? =some x)(hy:l[j]? =some y)(hij:i<j):R x y:=by
 obtain⟨h1,rfl⟩:=List.getElem?_eq_some_iff.1 hx
 obtain⟨h2,rfl⟩:=List.getElem?_eq_some_iff.1 hy
 exact List.pairwise_iff_getElem.1 h i j h1 h2 hij
theorem Ew.prune (h:Ew ms cl):Ew (ms.filter (EK a)) (cl.filter (EQ a)):=by
 have hP:=Vm h.2.2.1
 have hQ:=Vn h.2.2.2
 refine⟨Aaa (AaT ..) h.1,Aaa (AaT ..) h.2.1,fun i m hm=>⟨h.may (Hr hm).2,fun h0 x hx=>EX (hP.sublist AbB) hx hm Zo⟩,fun i d hd=> ?_⟩
 obtain⟨h1,h2⟩:=Hr hd
 have hda:d.a≠a:=gh h1
 obtain⟨j,hj⟩:=Abn h2
 refine⟨(h.2.2.2 j d hj).1,fun h0 x hx=>EX (hQ.sublist AbB) hx hd Zo,?_⟩
 rw[Nn hda];exact(h.2.2.2 j d hj).2.2
theorem W9 {d:Ag}(hd:d.a≠a):Cb (ms.filter (EK a)) (cl.filter (EQ a)) d↔Cb ms cl d:=by
 unfold Cb
 rw[Nn hd,AaZ]
 have:EQ a d=true:=by simp[EQ,hd]
 simp[this]
theorem Li (x:Aj):∀l:List Aj,1<=itemsN (x::l)
 |[]=>Aac _
 |y::l=>by have:=Li y l;rw[itemsN];omega
theorem itemsN_cons : ∀ (l : List Aj) (x : Aj) (k : List Aj), k.Sublist l -> itemsN (x :: k) <= itemsN (x :: l)
  | [], x, k, hk => by rw [List.sublist_nil.1 hk]; exact Aac _
  | y :: l, x, k, hk => by
    cases hk with
    | cons _ hk2 =>
      have h1 := itemsN_cons l y k hk2
      cases k with
      | nil => have := Li y l; rw [itemsN, itemsN]; split <;> omega
      | cons z k =>
        rw [itemsN, itemsN]
        rw [itemsN] at h1
        by_cases e : x.item = z.item
        · rw [if_pos e]; split at h1 <;> split <;> omega
        · rw [if_neg e]
          by_cases e2 : x.item = y.item
          · rw [if_pos e2]; rw [if_neg (fun e3 => e (e2.trans e3))] at h1; omega
          · rw [if_neg e2]; split at h1 <;> omega
    | cons_cons _ hk2 =>
      have h1 := itemsN_cons l y _ hk2
      rw [itemsN, itemsN]; omega
theorem P3 {k l : List Aj} (h : k.Sublist l) : itemsN k <= itemsN l := by
  induction h with
  | slnil => exact Aac _
  | cons x h ih =>
    rename_i k l
    refine Aaa ih ?_
    cases l with
    | nil => exact Aal _
    | cons y l => rw [itemsN]; omega
  | cons_cons x h _ => exact itemsN_cons _ x _ h
theorem P4 (h:EJ v=0):EJ (Ax v a)=0:=by
 have hC:GD v.mrk v.cl v.ent:=Fq (by unfold EJ at h;exact h)
 show Br (v.mrk.filter (EK a)) (v.cl.filter (EQ a)) (v.ent.filter (Jb a))=0
 have hs:=hC.sorted
 refine SW ⟨hC.ctx.prune,Aaa (AaT ..) hC.len,fun i x hx=> ?_,Aaa (P3 AbB) hC.items⟩
 obtain⟨h1,h2⟩:=Hr hx
 have hxa:x.dot.a≠a:=by simpa[Jb]using h1
 obtain⟨k1,k2,k3,k4⟩:=hC.mem h2
 refine⟨k1,k2,k3,(W9 hxa).2 k4,fun y hy=> ?_,fun y hy e=> ?_⟩
 ·obtain⟨h0,hy⟩:=FU (AbE (List.getElem?_eq_some_iff.1 hx).1) hy
  exact EX (hs.sublist AbB) hy hx Zo
 ·obtain⟨j,hj,rfl⟩:=List.mem_take_iff_getElem.1 hy
  have hyf:=List.getElem?_eq_getElem (l:=v.ent.filter (Jb a)) (i:=j) Zo
  have hlt:=EX (hs.sublist AbB) hyf hx Zo
  have:=hC.dots (Hr hyf).2 h2 e
  rw[this]at hlt
  exact Ng _ hlt
end
def AZ (m:Ab):AT:=(Ab.d m).a
def Cm (ml:List Ab)(v:MV):Int:=if ml.any (fun m=>decide (m.count<EW v.mrk v.cl (AZ m)))=true then 50 else 0
def Ao (ml:List Ab)(v:MV):MV:=ml.foldl (fun c m=>Ax c (AZ m)) v
theorem P5 {v:MV}{ml:List Ab}:Ao (ml.take 0) v=v:=rfl
theorem P6 {v:MV}{ml:List Ab}{i:Nat}{m:Ab}(h:ml[i]? =some m):Ao (ml.take (i+1)) v=Ax (Ao (ml.take i) v) (AZ m):=by
 rw[Ao,Da h,Abf];rfl
theorem HZ {ml:List Ab}:∀{v:MV},EJ v=0->EJ (Ao ml v)=0:=by
 induction ml with
 |nil=>exact fun h=>h
 |cons m l ih=>exact fun h=>ih (P4 h)
theorem SZ {ml:List Ab}{v:MV}{i:Nat}(hno:GL (fun m=>decide (m.count<EW v.mrk v.cl (AZ m))) ml i)(hi:ml.length<=i):Cm ml v=0:=by rw[Cm,TH hno hi];rfl
theorem S0 {ml:List Ab}{v:MV}{i:Nat}{m:Ab}(hx:ml[i]? =some m)(h:m.count<EW v.mrk v.cl (AZ m)):Cm ml v=50:=by rw[Cm,TG hx (by simpa using h)];rfl
attribute [local irreducible] AC DQ Cp BH Bz B4 Cb D4 Cj itemsN BW AO Br BK Gr AP A4 Ar Ck As A1 Ay A5 EM AW AK Cy DT
theorem OR {w:World}{v:MV}{a:AT}{s t:Ge}(h:Bl v s)(hO:Dr w t (Ax v a)):Bl (Ax v a) t:=
 ⟨⟨Aaa (AaT ..) h.ok.ent,Aaa (AaT ..) h.ok.mrk,Aaa (AaT ..) h.ok.cl,Aal _,Aal _,Aal _⟩,fun x hx=>h.ent x (List.mem_filter.1 hx).1,hO.ent.le_cap⟩
attribute [local irreducible] X
theorem Dz (m:Ab)(w:World):
  Calls prog 101 #[.agg #[.int .i64 m.node,.int .i64 m.life,.int .i64 m.count]] w (AN (fun v w'=>v= .agg #[.int .i64 ((AZ m).node),.int .i64 ((AZ m).life)]∧Ap w w')):=by
 refine Ac (n:=8) func101 rfl rfl rfl ?_;refine jG ?_;refine jR<|jB ?_;intro a5 a8 a3 a0 a6;have:w.heap.size<=a5:=a3;clear a3;have K0:=(a6:Ap w _);refine jR<|jA ?_;intro a9 aa a1 a2 a4;have ab:=Ak a0.lt a1;have:=Aaa K0.size a1;clear a1;replace a0:=a0.ext a4;refine jG ?_;refine jV (AI (cells:=#[.int .i64 m.node,.int .i64 m.life]) Zk) ?_;refine jR<|jS a2 ?_;intro ac a2 a7;refine jG ?_;refine Ai.retC (cs:=#[.int .i64 m.node,.int .i64 m.life]) func101 rfl ty170 rfl rfl a2.cl ?_;replace K0:=(K0.ext a4).n1 a7;exact⟨_,rfl,rfl,K0⟩
theorem YV (am:Option Addr)(ms:List Ab)(cm:Nat)(ac:Option Addr)(cl:List Ag)(cc:Nat)(a:AT)(w:World)(hs:Av w am ms)(ht:Av w ac cl)(hl:ms.length<=4294967295)(hl2:cl.length<=4294967295):
  Calls prog 102 #[.agg #[.slice am ms.length cm,.slice ac cl.length cc],.agg #[.int .i64 a.node,.int .i64 a.life]] w (AN (fun v w'=>v= .int .i64 (EW ms cl a)∧Ap w w')):=by
 refine Ac (n:=28) func102 rfl rfl rfl ?_;refine jG ?_;refine jR<|jB ?_;intro ab ai ad a0 ah;have:w.heap.size<=ab:=ad;clear ad;have K0:=(ah:Ap w _);refine jR<|jB ?_;intro ae aj a7 a1 af;have ak:=Ak a0.lt a7;have:=Aaa K0.size a7;clear a7;replace a0:=a0.ext af;refine jG ?_;replace K0:=K0.ext af;refine jR<|jC (Oh am ms cm ac cl cc a _ (hs.ext K0) (ht.ext K0) Zo Zo) ?_;rintro _ al ⟨rfl,a8⟩;replace a0:=a0.ext a8;refine jG ?_;replace a1:=a1.ext a8;replace K0:=K0.ext a8;refine Ai.loop (ι:=Nat) (fun i ρ' w'=>Holds ρ' [(3,jp ae),(5,.int .i64 (EW ms (cl.take i) a)),(12,.slice ac cl.length cc),(13,.int .i64 ((cl.length:Nat):Int)),(14,.int .i64 ((i:Nat):Int))]∧Ap w w'∧(AB w' ab [.slice am ms.length cm,.slice ac cl.length cc] 31)∧(AB w' ae [.int .i64 a.node,.int .i64 a.life] 170)∧(i<=cl.length)) (fun i=>cl.length-i) 0 ?_ ?_
 ·rw[SY]
  refine⟨⟨rfl,rfl,rfl,rfl,rfl,trivial⟩,K0,a0,a1,?_⟩
  ·omega
 clear a0 a1;clear K0;rintro i an ao ⟨ag,K0,a0,a1,hi⟩ ih1;obtain⟨ρ₀,rfl⟩:=ag.ex;clear ag;refine jG ?_;refine jF ?_ ?_
 ·intro hc15
  obtain⟨ap,aq,d,hd,ar,a4⟩:=ht.eo i;have hc_20_lt:=a4.lt;replace a4:=a4.ext K0;refine jG ?_;refine jR<|jA ?_;intro au av a3 a2 a9;have aw:=Ak a0.lt a3;have ax:=Ak a1.lt a3;have ay:=Ak a4.lt a3;have:=Aaa K0.size a3;clear a3;refine jR<|jS a2 ?_;intro az a2 aa;refine jG ?_;refine Ai.drawS [] [1000,1002,2001,3] ?_;intro aA a5;replace a1:=((a1.ext a9).kp aa).ext a5;replace a2:=a2.ext a5;refine jM (jb a1 (jb a2 Jn)) ?_;refine jG ?_;refine jU rfl<|jC (FR d _) ?_;rintro _ aB ⟨rfl,a6⟩;replace a1:=a1.ext a6;replace a2:=a2.ext a6;refine jG ?_;refine jP ?_ (hx:=by exact fun _=>(GJ Zk rfl rfl (DZ (Ag.a d) a)));refine jG ?_;replace a0:=(((a0.ext a9).kp aa).ext a5).ext a6;replace K0:=(((K0.ext a9).n1 aa).ext a5).ext a6;refine jF ?_ ?_
  ·intro hc21
   refine jG ?_;refine jV (II rfl rfl) ?_;refine jG ?_;refine jV (Az (c:=((i+1:Nat):Int)) (Au rfl rfl Zo Zo) rfl) ?_;refine jG ?_;have e:EW ms (cl.take (i+1)) a=max (EW ms (cl.take i) a) d.count:=(OQ hd).trans (Vl hc21);refine ih1 (i+1) _ _ ?_ Zo;rw[e];refine⟨⟨rfl,rfl,rfl,rfl,rfl,trivial⟩,K0,a0,a1,?_⟩
   ·omega
  ·intro hc21
   refine jG ?_;refine jV (Az (c:=((i+1:Nat):Int)) (Au rfl rfl Zo Zo) rfl) ?_;refine jG ?_;have e:EW ms (cl.take (i+1)) a=EW ms (cl.take i) a:=(OQ hd).trans (Nm hc21);refine ih1 (i+1) _ _ ?_ Zo;rw[e];refine⟨⟨rfl,rfl,rfl,rfl,rfl,trivial⟩,K0,a0,a1,?_⟩
   ·omega
 ·intro hc15
  refine jG ?_;refine jJ func102 ?_;have hie:i=cl.length:=by omega
  subst hie;exact⟨_,rfl,by rw[Aas],K0⟩
theorem Xa (am:Option Addr)(ms:List Ab)(cm:Nat)(ac:Option Addr)(cl:List Ag)(cc:Nat)(a:AT)(w:World)(hs:Av w am ms)(ht:Av w ac cl)(hl:ms.length<=4294967295)(hl2:cl.length<=4294967295):
  Calls prog 204 #[.agg #[.slice am ms.length cm,.slice ac cl.length cc],.agg #[.int .i64 a.node,.int .i64 a.life]] w (AN (fun v w'=>∃am' cm' ac' cc',v= .agg #[.slice am' (ms.filter (EK a)).length cm',.slice ac' (cl.filter (EQ a)).length cc']∧Af w' 46 am' cm' (ms.filter (EK a))∧Af w' 73 ac' cc' (cl.filter (EQ a))∧(∀q,own am' q->w.heap.size<=q)∧(∀q,own ac' q->w.heap.size<=q)∧(∀q,own am' q->¬own ac' q)∧Ap w w')):=by
 refine Ac (n:=48) func204 rfl rfl rfl ?_;refine jG ?_;refine jR<|jB ?_;intro a6 bs aW a1 b2;have:w.heap.size<=a6:=aW;clear aW;have K0:=(b2:Ap w _);refine jR<|jB ?_;intro a7 bt aM a0 aX;have bu:=Ak a1.lt aM;have:=Aaa K0.size aM;clear aM;refine jR<|jA ?_;intro a8 bv aC a2 aN;replace a1:=a1.ext aX;have bw:=Ak a1.lt aC;have bx:=Ak a0.lt aC;replace K0:=K0.ext aX;have:=Aaa K0.size aC;clear aC;refine jG ?_;refine jR<|jA ?_;intro a9 b3 ay a3 aD;replace a1:=a1.ext aN;have bz:=Ak a1.lt ay;replace a0:=a0.ext aN;have bA:=Ak a0.lt ay;have bB:=Ak a2.lt ay;replace K0:=K0.ext aN;have:=Aaa K0.size ay;clear ay;replace a1:=a1.ext aD;refine jG ?_;replace a0:=a0.ext aD;replace a2:=a2.ext aD;replace K0:=K0.ext aD;refine Ai.loop (ι:=Nat) (fun i ρ' w'=>∃a':Option Addr,∃c':Nat,Holds ρ' [(2,jp a6),(3,jp a7),(4,jp a8),(5,jp a9),(11,.slice am ms.length cm),(12,.int .i64 ((ms.length:Nat):Int)),(13,.int .i64 ((i:Nat):Int))]∧Ap w w'∧(AB w' a6 [.slice am ms.length cm,.slice ac cl.length cc] 31)∧(AB w' a7 [.int .i64 a.node,.int .i64 a.life] 170)∧(AB w' a8 [.slice none 0 0,.slice none 0 0] 31)∧(AB w' a9 [.slice a' (((ms.take i).filter (EK a)).length) c',.slice none 0 0] 31)∧(Af w' 46 a' c' ((ms.take i).filter (EK a)))∧(¬own a' a6)∧(¬own a' a7)∧(¬own a' a8)∧(¬own a' a9)∧(∀q_,own a' q_->w.heap.size<=q_)∧(i<=ms.length)) (fun i=>ms.length-i) 0 ?_ ?_
 ·rw[AaE,List.filter_nil]
  have b4:=Af.nil (α:=Ab) b3 46;refine⟨_,_,⟨rfl,rfl,rfl,rfl,rfl,rfl,rfl,trivial⟩,K0,a1,a0,a2,a3,b4,(Ae a6),(Ae a7),(Ae a8),(Ae a9),(fun q_ h1=>absurd h1 (Ae q_)),?_⟩
  ·omega
 clear a1 a0 a2 a3;clear K0;rintro i bC b5 ⟨a',c',aY,K0,a1,a0,a2,a3,a4,aO,aP,aE,aF,aG,hi⟩ ih1;obtain⟨ρ₀,rfl⟩:=aY.ex;clear aY;refine jG ?_;refine jF ?_ ?_
 ·intro hc14
  obtain⟨bD,bE,m,hm,bF,aH⟩:=hs.eo i;have hc_40_lt:=aH.lt;replace aH:=aH.ext K0;refine jG ?_;refine jR<|jA ?_;intro bG bH ad aa ap;have bI:=Ak a1.lt ad;have bJ:=Ak a0.lt ad;have bK:=Ak a2.lt ad;have bL:=Ak a3.lt ad;have bM:=Ak aH.lt ad;have b6:=An a4.oL ad;have:=Aaa K0.size ad;clear ad;refine jR<|jS aa ?_;intro bN aa aq;refine jG ?_;refine Ai.drawS [] [1000,1003,2001,2002,4] ?_;intro bO ag;replace a0:=((a0.ext ap).kp aq).ext ag;replace aa:=aa.ext ag;refine jM (jb a0 (jb aa Jn)) ?_;refine jG ?_;refine jU rfl<|jC (HV m _) ?_;rintro _ bP ⟨rfl,ah⟩;replace a0:=a0.ext ah;replace aa:=aa.ext ah;refine jG ?_;refine jU rfl<|jC (FR (Ab.d m) _) ?_;rintro _ bQ ⟨rfl,ai⟩;replace a0:=a0.ext ai;replace aa:=aa.ext ai;refine jG ?_;refine jP ?_ (hx:=by exact fun _=>(Jg Zk rfl rfl (DZ (Ag.a (Ab.d m)) a)));refine jG ?_;replace a1:=((((a1.ext ap).kp aq).ext ag).ext ah).ext ai;replace a2:=((((a2.ext ap).kp aq).ext ag).ext ah).ext ai;replace a3:=((((a3.ext ap).kp aq).ext ag).ext ah).ext ai;replace a4:=((((a4.ext ap).kO aq (Aa b6)).ext ag).ext ah).ext ai;replace K0:=((((K0.ext ap).n1 aq).ext ag).ext ah).ext ai;refine jF ?_ ?_
  ·intro hc21
   have hfl:=Lh ms i (EK a);refine jG ?_;refine jR<|AA.buildSlice ([m]:List Ab) underlying28 ty46 rfl rfl Ze ?_;intro bR bS b7 b8 ar;clear b7;replace a4:=a4.ext ar;refine jR<|AA.append (xs:=(ms.take i).filter (EK a)) (ys:=([m]:List Ab)) underlying28 ty46 rfl rfl rfl a4 b8.sl Zr Zd ?_;intro az bT bU aQ aA au b9;replace a1:=a1.ext ar;have ba:¬own az a6:=au.not aO a1.lt;replace a0:=a0.ext ar;have bb:¬own az a7:=au.not aP a0.lt;replace a2:=a2.ext ar;have bc:¬own az a8:=au.not aE a2.lt;replace a3:=a3.ext ar;have aZ:¬own az a9:=au.not aF a3.lt;replace K0:=K0.ext ar;have be:∀q_,own az q_->w.heap.size<=q_:=au.ge aG K0.size;clear au;clear b9;refine jG ?_;replace a3:=a3.keep aA aF;refine jR<|jS a3 ?_;intro bV a3 aB;refine jG ?_;refine jV (Az (c:=((i+1:Nat):Int)) (Au rfl rfl Zo Zo) rfl) ?_;refine jG ?_;have e:=Lg (p:=EK a) hm (by simp[hc21]);refine ih1 (i+1) _ _ ?_ Zo;rw[e];replace a1:=(a1.keep aA aO).kp aB;replace a0:=(a0.keep aA aP).kp aB;replace a2:=(a2.keep aA aE).kp aB;replace K0:=(K0.new aA aG).n1 aB;replace aQ:=aQ.kO aB (Aa aZ);refine⟨_,_,⟨rfl,rfl,rfl,rfl,rfl,rfl,rfl,trivial⟩,K0,a1,a0,a2,a3,aQ,ba,bb,bc,aZ,be,?_⟩
   ·omega
  ·intro hc21
   refine jG ?_;refine jV (Az (c:=((i+1:Nat):Int)) (Au rfl rfl Zo Zo) rfl) ?_;refine jG ?_;have e:=Nl (p:=EK a) hm (by simp[hc21]);refine ih1 (i+1) _ _ ?_ Zo;rw[e];refine⟨_,_,⟨rfl,rfl,rfl,rfl,rfl,rfl,rfl,trivial⟩,K0,a1,a0,a2,a3,a4,aO,aP,aE,aF,aG,?_⟩
   ·omega
 ·intro hc14
  have hiei:i=ms.length:=by omega
  subst hiei;rw[Aas]at a4 a3;refine jG ?_;refine Ai.loop (ι:=Nat) (fun j ρ' w'=>∃a'':Option Addr,∃c'':Nat,Holds ρ' [(3,jp a7),(4,jp a8),(5,jp a9),(30,.slice ac cl.length cc),(31,.int .i64 ((cl.length:Nat):Int)),(32,.int .i64 ((j:Nat):Int))]∧Ap w w'∧(AB w' a6 [.slice am ms.length cm,.slice ac cl.length cc] 31)∧(AB w' a7 [.int .i64 a.node,.int .i64 a.life] 170)∧(AB w' a8 [.slice none 0 0,.slice none 0 0] 31)∧(AB w' a9 [.slice a' ((ms.filter (EK a)).length) c',.slice a'' (((cl.take j).filter (EQ a)).length) c''] 31)∧(Af w' 46 a' c' (ms.filter (EK a)))∧(Af w' 73 a'' c'' ((cl.take j).filter (EQ a)))∧(¬own a'' a6)∧(¬own a'' a7)∧(¬own a'' a8)∧(¬own a'' a9)∧(∀q_,own a'' q_->¬own a' q_)∧(∀q_,own a'' q_->w.heap.size<=q_)∧(j<=cl.length)) (fun j=>cl.length-j) 0 ?_ ?_
  ·rw[AaE,List.filter_nil]
   have bg:=Af.nil (α:=Ag) b5 73;refine⟨_,_,⟨rfl,rfl,rfl,rfl,rfl,rfl,trivial⟩,K0,a1,a0,a2,a3,a4,bg,(Ae a6),(Ae a7),(Ae a8),(Ae a9),(fun q_ h1 _=>Ae q_ h1),(fun q_ h1=>absurd h1 (Ae q_)),?_⟩
   ·omega
  clear a1 a0 a2 a3 a4;clear K0;rintro j bW bX ⟨a'',c'',b0,K0,a1,a0,a2,a3,a4,a5,aR,aS,aI,aT,aJ,aK,hj⟩ ih2;obtain⟨ρ₀,rfl⟩:=b0.ex;clear b0;refine jG ?_;refine jF ?_ ?_
  ·intro hc33
   obtain⟨bY,bZ,d,hd,c0,aL⟩:=ht.eo j;have hc_104_lt:=aL.lt;replace aL:=aL.ext K0;refine jG ?_;refine jR<|jA ?_;intro c1 c2 ab aj ak;have c3:=Ak a1.lt ab;have c4:=Ak a0.lt ab;have c5:=Ak a2.lt ab;have c6:=Ak a3.lt ab;have c7:=Ak aL.lt ab;have bh:=An a4.oL ab;have bi:=An a5.oL ab;have:=Aaa K0.size ab;clear ab;refine jR<|jS aj ?_;intro c8 aj al;refine jG ?_;refine Ai.drawS [] [1000,1002,2001,3] ?_;intro c9 ae;replace a0:=((a0.ext ak).kp al).ext ae;replace aj:=aj.ext ae;refine jM (jb a0 (jb aj Jn)) ?_;refine jG ?_;refine jU rfl<|jC (FR d _) ?_;rintro _ ca ⟨rfl,af⟩;replace a0:=a0.ext af;replace aj:=aj.ext af;refine jG ?_;refine jP ?_ (hx:=by exact fun _=>(Jg Zk rfl rfl (DZ (Ag.a d) a)));refine jG ?_;replace a1:=(((a1.ext ak).kp al).ext ae).ext af;replace a2:=(((a2.ext ak).kp al).ext ae).ext af;replace a3:=(((a3.ext ak).kp al).ext ae).ext af;replace a4:=(((a4.ext ak).kO al (Aa bh)).ext ae).ext af;replace a5:=(((a5.ext ak).kO al (Aa bi)).ext ae).ext af;replace K0:=(((K0.ext ak).n1 al).ext ae).ext af;refine jF ?_ ?_
   ·intro hc39
    have hfl:=Lh cl j (EQ a);refine jG ?_;refine jR<|AA.buildSlice ([d]:List Ag) underlying29 ty73 rfl rfl Ze ?_;intro cb cd bj bk an;clear bj;replace a5:=a5.ext an;refine jR<|AA.append (xs:=(cl.take j).filter (EQ a)) (ys:=([d]:List Ag)) underlying29 ty73 rfl rfl rfl a5 bk.sl Zr Zd ?_;intro av ce cf aU aw ao bl;replace a1:=a1.ext an;have bm:¬own av a6:=ao.not aR a1.lt;replace a0:=a0.ext an;have bn:¬own av a7:=ao.not aS a0.lt;replace a2:=a2.ext an;have bo:¬own av a8:=ao.not aI a2.lt;replace a3:=a3.ext an;have b1:¬own av a9:=ao.not aT a3.lt;replace a4:=a4.ext an;have bp:∀q_,own av q_->¬own a' q_:=ao.apart aJ a4.oL;replace K0:=K0.ext an;have bq:∀q_,own av q_->w.heap.size<=q_:=ao.ge aK K0.size;clear ao;clear bl;refine jG ?_;replace a3:=a3.keep aw aT;refine jR<|jS a3 ?_;intro cg a3 ax;refine jG ?_;refine jV (Az (c:=((j+1:Nat):Int)) (Au rfl rfl Zo Zo) rfl) ?_;refine jG ?_;have e:=Lg (p:=EQ a) hd (by simp[hc39]);refine ih2 (j+1) _ _ ?_ Zo;rw[e];replace a1:=(a1.keep aw aR).kp ax;replace a0:=(a0.keep aw aS).kp ax;replace a2:=(a2.keep aw aI).kp ax;replace a4:=(a4.kO aw (Zf aJ)).kO ax (Aa aF);replace K0:=(K0.new aw aK).n1 ax;replace aU:=aU.kO ax (Aa b1);refine⟨_,_,⟨rfl,rfl,rfl,rfl,rfl,rfl,trivial⟩,K0,a1,a0,a2,a3,a4,aU,bm,bn,bo,b1,bp,bq,?_⟩
    ·omega
   ·intro hc39
    refine jG ?_;refine jV (Az (c:=((j+1:Nat):Int)) (Au rfl rfl Zo Zo) rfl) ?_;refine jG ?_;have e:=Nl (p:=EQ a) hd (by simp[hc39]);refine ih2 (j+1) _ _ ?_ Zo;rw[e];refine⟨_,_,⟨rfl,rfl,rfl,rfl,rfl,rfl,trivial⟩,K0,a1,a0,a2,a3,a4,a5,aR,aS,aI,aT,aJ,aK,?_⟩
    ·omega
  ·intro hc33
   have hiej:j=cl.length:=by omega
   subst hiej;rw[Aas]at a5 a3;refine jG ?_;refine jR<|jS a2 ?_;intro ch a2 aV;refine jG ?_;refine Ai.retC (cs:=#[.slice a' ((ms.filter (EK a)).length) c',.slice a'' ((cl.filter (EQ a)).length) c'']) func204 rfl ty31 rfl rfl a2.cl ?_;replace a4:=a4.kO aV (Aa aE);replace a5:=a5.kO aV (Aa aI);replace K0:=K0.n1 aV;exact⟨_,rfl,a',c',a'',c'',rfl,a4,a5,aG,aK,(Zf aJ),K0⟩
theorem Rs (v:MV)(s:Ge)(a:AT)(w:World)(hR:Bf w s v)(hok:Bl v s):
  Calls prog 147 #[.agg #[.slice s.ea v.ent.length s.ec,.slice s.ma v.mrk.length s.mc,.slice s.ca v.cl.length s.cc],.agg #[.int .i64 a.node,.int .i64 a.life]] w (AN (fun r w'=>∃s',r= .agg #[.slice (((CN (Ax v a) s').cart).entries.a) (((CN (Ax v a) s').cart).entries.len) (((CN (Ax v a) s').cart).entries.cap),.slice ((((CN (Ax v a) s').cart).ctx).marks.a) ((((CN (Ax v a) s').cart).ctx).marks.len) ((((CN (Ax v a) s').cart).ctx).marks.cap),.slice ((((CN (Ax v a) s').cart).ctx).cloud.a) ((((CN (Ax v a) s').cart).ctx).cloud.len) ((((CN (Ax v a) s').cart).ctx).cloud.cap)]∧Dr w' s' (Ax v a)∧Iy s'∧(∀q,En s' q->w.heap.size<=q)∧Ap w w')):=by
 have hv:=hok.ok;have hv0:=hv;obtain⟨hv1,hv2,hv3,hv4,hv5,hv6⟩:=hv;refine Ac (n:=42) func147 rfl rfl rfl ?_;refine jG ?_;refine jR<|jB ?_;intro ak bg aJ a0 aK;have:w.heap.size<=ak:=aJ;clear aJ;have K0:=(aK:Ap w _);refine jR<|jB ?_;intro al bh aA a2 aB;have bi:=Ak a0.lt aA;have:=Aaa K0.size aA;clear aA;refine jR<|jA ?_;intro am bj an a1 av;replace a0:=a0.ext aB;have bk:=Ak a0.lt an;have bl:=Ak a2.lt an;replace hR:=(hR.ext aK).ext aB;have aR:=An hR.oL an;replace K0:=K0.ext aB;have:=Aaa K0.size an;clear an;replace a0:=a0.ext av;replace a2:=a2.ext av;refine jG ?_;replace hR:=hR.ext av;refine jR<|jC (Xa s.ma v.mrk s.mc s.ca v.cl s.cc a _ hR.mrk hR.cl Zo Zo) ?_;rintro _ bm ⟨ag,ao,ah,ap,rfl,a3,a4,aC,aD,aS,aq⟩;have aT:=Aw aC a1.lt;replace K0:=K0.ext av;have aU:=Bd K0.size aC;have aV:=Aw aD a1.lt;have aW:=Bd K0.size aD;clear aC aD;refine jV (AI (cells:=#[.slice none 0 0,.slice ag ((v.mrk.filter (EK a)).length) ao,.slice ah ((v.cl.filter (EQ a)).length) ap]) Zk) ?_;refine jR<|jA ?_;intro ar bn ac a5 ai;replace a0:=a0.ext aq;have bo:=Ak a0.lt ac;replace a2:=a2.ext aq;have bp:=Ak a2.lt ac;replace a1:=a1.ext aq;have bq:=Ak a1.lt ac;replace hR:=hR.ext aq;have aL:=An hR.oL ac;have aM:=An a3.oL ac;have aN:=An a4.oL ac;replace K0:=K0.ext aq;have:=Aaa K0.size ac;clear ac;refine jR<|jS a5 ?_;intro aX a5 aj;replace a0:=(a0.ext ai).kp aj;refine jG ?_;replace hR:=(hR.ext ai).kO aj (Aa aL);replace a2:=(a2.ext ai).kp aj;replace a1:=(a1.ext ai).kp aj;replace a3:=(a3.ext ai).kO aj (Aa aM);replace a4:=(a4.ext ai).kO aj (Aa aN);replace K0:=(K0.ext ai).n1 aj;refine Ai.loop (ι:=Nat) (fun i ρ' w'=>∃a':Option Addr,∃c':Nat,Holds ρ' [(3,jp al),(4,jp am),(5,jp ar),(14,.slice s.ea v.ent.length s.ec),(15,.int .i64 ((v.ent.length:Nat):Int)),(16,.int .i64 ((i:Nat):Int))]∧Ap w w'∧(AB w' ak [.slice s.ea v.ent.length s.ec,.slice s.ma v.mrk.length s.mc,.slice s.ca v.cl.length s.cc] 33)∧(AB w' al [.int .i64 a.node,.int .i64 a.life] 170)∧(AB w' am [.slice none 0 0,.slice none 0 0,.slice none 0 0] 33)∧(AB w' ar [.slice a' (((v.ent.take i).filter (Jb a)).length) c',.slice ag ((v.mrk.filter (EK a)).length) ao,.slice ah ((v.cl.filter (EQ a)).length) ap] 33)∧(Bf w' s v)∧(Af w' 46 ag ao (v.mrk.filter (EK a)))∧(Af w' 73 ah ap (v.cl.filter (EQ a)))∧(Af w' 76 a' c' ((v.ent.take i).filter (Jb a)))∧(¬own a' ak)∧(¬own a' al)∧(¬own a' am)∧(¬own a' ar)∧(∀q_,own a' q_->¬BE s v q_)∧(∀q_,own a' q_->¬own ag q_)∧(∀q_,own a' q_->¬own ah q_)∧(∀q_,own a' q_->w.heap.size<=q_)∧(i<=v.ent.length)) (fun i=>v.ent.length-i) 0 ?_ ?_
 ·rw[AaE,List.filter_nil]
  have aY:=Af.nil (α:=Aj) aX 76;refine⟨_,_,⟨rfl,rfl,rfl,rfl,rfl,rfl,trivial⟩,K0,a0,a2,a1,a5,hR,a3,a4,aY,(Ae ak),(Ae al),(Ae am),(Ae ar),(fun q_ h1 _=>Ae q_ h1),(fun q_ h1 _=>Ae q_ h1),(fun q_ h1 _=>Ae q_ h1),(fun q_ h1=>absurd h1 (Ae q_)),?_⟩
  ·omega
 clear hR a0 a2 a1 a3 a4 a5;clear K0;rintro i bs bt ⟨a',c',aO,K0,a0,a2,a1,a5,hR,a3,a4,a6,aE,aF,aw,aG,aH,ax,ay,az,hi⟩ ih1;obtain⟨ρ₀,rfl⟩:=aO.ex;clear aO;refine jG ?_;refine jF ?_ ?_
 ·intro hc17
  obtain⟨bu,bv,x,hx,bw,aZ⟩:=hR.ent.eo i;refine jG ?_;refine jR<|jA ?_;intro bx bz a7 aP a8;have bA:=Ak a0.lt a7;have bB:=Ak a2.lt a7;have bC:=Ak a1.lt a7;have bD:=Ak a5.lt a7;have bE:=Ak aZ.lt a7;have b0:=An hR.oL a7;have b1:=An a3.oL a7;have b2:=An a4.oL a7;have b3:=An a6.oL a7;have:=Aaa K0.size a7;clear a7;refine jR<|jS aP ?_;intro bF aP a9;replace a2:=(a2.ext a8).kp a9;refine jG ?_;refine jV (D8 rfl rfl rfl) ?_;refine jG ?_;replace a0:=(a0.ext a8).kp a9;replace a1:=(a1.ext a8).kp a9;replace a5:=(a5.ext a8).kp a9;replace hR:=(hR.ext a8).kO a9 (Aa b0);replace a3:=(a3.ext a8).kO a9 (Aa b1);replace a4:=(a4.ext a8).kO a9 (Aa b2);replace a6:=(a6.ext a8).kO a9 (Aa b3);replace K0:=(K0.ext a8).n1 a9;refine jF ?_ ?_
  ·intro hc33
   have hoff:Jb a x=true:=XR.2 Zo;have hfl:=Lh v.ent i (Jb a);refine jG ?_;refine jR<|AA.buildSlice ([x]:List Aj) underlying27 ty76 rfl rfl Ze ?_;intro bG bH b4 b5 aa;clear b4;replace a6:=a6.ext aa;refine jR<|AA.append (xs:=(v.ent.take i).filter (Jb a)) (ys:=([x]:List Aj)) underlying27 ty76 rfl rfl rfl a6 b5.sl Zr Zd ?_;intro ad bI bJ aI ae ab b6;replace a0:=a0.ext aa;have b7:¬own ad ak:=ab.not aE a0.lt;replace a2:=a2.ext aa;have b8:¬own ad al:=ab.not aF a2.lt;replace a1:=a1.ext aa;have b9:¬own ad am:=ab.not aw a1.lt;replace a5:=a5.ext aa;have aQ:¬own ad ar:=ab.not aG a5.lt;replace hR:=hR.ext aa;have ba:∀q_,own ad q_->¬BE s v q_:=ab.apart aH hR.oL;replace a3:=a3.ext aa;have bb:∀q_,own ad q_->¬own ag q_:=ab.apart ax a3.oL;replace a4:=a4.ext aa;have bc:∀q_,own ad q_->¬own ah q_:=ab.apart ay a4.oL;replace K0:=K0.ext aa;have be:∀q_,own ad q_->w.heap.size<=q_:=ab.ge az K0.size;clear ab;clear b6;refine jG ?_;replace a5:=a5.keep ae aG;refine jR<|jS a5 ?_;intro bK a5 af;refine jG ?_;refine jV (Az (c:=((i+1:Nat):Int)) (Au rfl rfl Zo Zo) rfl) ?_;refine jG ?_;have e:=Lg hx hoff;refine ih1 (i+1) _ _ ?_ Zo;rw[e];replace a0:=(a0.keep ae aE).kp af;replace a2:=(a2.keep ae aF).kp af;replace a1:=(a1.keep ae aw).kp af;replace hR:=(hR.kO ae (Zf aH)).kO af (Aa aL);replace a3:=(a3.kO ae (Zf ax)).kO af (Aa aM);replace a4:=(a4.kO ae (Zf ay)).kO af (Aa aN);replace K0:=(K0.new ae az).n1 af;replace aI:=aI.kO af (Aa aQ);refine⟨_,_,⟨rfl,rfl,rfl,rfl,rfl,rfl,trivial⟩,K0,a0,a2,a1,a5,hR,a3,a4,aI,b7,b8,b9,aQ,ba,bb,bc,be,?_⟩
   ·omega
  ·intro hc33
   have hoff:Jb a x=false:=by rw[<-Bool.not_eq_true,XR];omega
   refine jG ?_;refine jV (Az (c:=((i+1:Nat):Int)) (Au rfl rfl Zo Zo) rfl) ?_;refine jG ?_;have e:=Nl hx hoff;refine ih1 (i+1) _ _ ?_ Zo;rw[e];refine⟨_,_,⟨rfl,rfl,rfl,rfl,rfl,rfl,trivial⟩,K0,a0,a2,a1,a5,hR,a3,a4,a6,aE,aF,aw,aG,aH,ax,ay,az,?_⟩
   ·omega
 ·intro hc17
  have hiei:i=v.ent.length:=by omega
  subst hiei;rw[Aas]at a6 a5;refine jG ?_;refine jR<|jS a1 ?_;intro bL a1 au;refine jG ?_;refine Ai.retC (cs:=#[.slice a' ((v.ent.filter (Jb a)).length) c',.slice ag ((v.mrk.filter (EK a)).length) ao,.slice ah ((v.cl.filter (EQ a)).length) ap]) func147 rfl ty33 rfl rfl a1.cl ?_;replace hR:=hR.kO au (Aa aR);replace a3:=a3.kO au (Aa aT);replace a4:=a4.kO au (Aa aV);replace a6:=a6.kO au (Aa aw);replace K0:=K0.n1 au
  exact⟨_,rfl,⟨a',c',ag,ao,ah,ap,none,0,none,0,none,0⟩,rfl,⟨a6,a3,a4⟩,⟨ax,ay,aS⟩,fun q hq=>by
   rcases hq with hq|hq|hq
   ·exact az q hq
   ·exact aU q hq
   ·exact aW q hq,K0⟩
theorem Xb (x:Aj)(b:Nat)(a:AT)(w:World)(hb:AB w b [.int .i64 a.node,.int .i64 a.life] 170):
  Calls prog 160 #[.agg #[.string x.item,.int .i64 x.dot.node,.int .i64 x.dot.life,.int .i64 x.dot.count,.int .i64 x.qty,.int .u64 x.price],jp b] w (AN (fun v w'=>v= .bool (decide (x.dot.a=a))∧Ap w w')):=by
 refine Ac (n:=18) func160 rfl rfl rfl ?_;refine jG ?_;refine jR<|jB ?_;intro a2 a3 a0 a4 a1;have a5:=Ak hb.lt a0;have:w.heap.size<=a2:=a0;clear a0;have K0:=(a1:Ap w _);replace hb:=hb.ext a1;refine jG ?_;refine jV (Be rfl rfl rfl) ?_;refine jG ?_;refine jJ func160 ?_;exact⟨_,rfl,congrArg Value.bool (by rw[AaC];simp only[Aao,decide_eq_true_eq,beq_iff_eq];cases a;simp[Ag.a]),K0⟩
theorem Vo (v:MV)(s:Ge)(a:AT)(w:World)(hR:Bf w s v)(hok:Bl v s):
  Calls prog 103 #[.agg #[.slice s.ea v.ent.length s.ec,.slice s.ma v.mrk.length s.mc,.slice s.ca v.cl.length s.cc],.agg #[.int .i64 a.node,.int .i64 a.life]] w (AN (fun r w'=>r= .bool (v.ent.any (fun x=>decide (x.dot.a=a)))∧Ap w w')):=by
 have hv:=hok.ok;have hv0:=hv;obtain⟨hv1,hv2,hv3,hv4,hv5,hv6⟩:=hv;refine Ac (n:=9) func103 rfl rfl rfl ?_;refine jG ?_;refine jR<|jB ?_;intro a6 a9 a3 a0 a4;have:w.heap.size<=a6:=a3;clear a3;have K0:=(a4:Ap w _);refine jR<|jB ?_;intro a5 aa a1 a7 a2;have ab:=Ak a0.lt a1;have:=Aaa K0.size a1;clear a1;replace a0:=a0.ext a2;refine jG ?_;refine jV (CQ (a:=[]) (c:=[jp a5]) rfl rfl) ?_;replace hR:=(hR.ext a4).ext a2;refine jR<|jC (I3 _ _ _ 160 _ (fun x=>decide (x.dot.a=a)) en160.h _ hR.ent Zo (fun x _ w' K'=>Xb x a5 a w' (a7.ext K'))) ?_;rintro _ ac ⟨rfl,a8⟩;refine jG ?_;refine jJ func103 ?_;replace K0:=(K0.ext a2).ext a8;exact⟨_,rfl,rfl,K0⟩
theorem Rt (b lg m1 m2 m3:Nat)(lk st:Int)(qs:List (ByteArray×Value))(ma:Option Addr)(ml:List Ab)(mc:Nat)(key:ByteArray)(v:MV)(s:Ge)(w:World)(hb:AB w b [.int .i32 lk,.int .u32 0,jp lg,.int .i64 st,.map (some m1),.map (some m2),.map (some m3)] 94)(hM3:At w m3 qs)(hgm:(BO qs key).getD (.slice none 0 0)= .slice ma ml.length mc)(hms:Av w ma ml)(hml:ml.length<=1048576)(hR:Bf w s v)(hok:Bl v s):
  Calls prog 82 #[jp b,.string key,.agg #[.slice s.ea v.ent.length s.ec,.slice s.ma v.mrk.length s.mc,.slice s.ca v.cl.length s.cc]] w (AN (fun r w'=>(Cm ml v≠0∧r= .tuple #[.agg #[.slice none 0 0,.slice none 0 0,.slice none 0 0],.int .i64 (Cm ml v)]∨Cm ml v=0∧∃s',r= .tuple #[.agg #[.slice (((CN (Ao ml v) s').cart).entries.a) (((CN (Ao ml v) s').cart).entries.len) (((CN (Ao ml v) s').cart).entries.cap),.slice ((((CN (Ao ml v) s').cart).ctx).marks.a) ((((CN (Ao ml v) s').cart).ctx).marks.len) ((((CN (Ao ml v) s').cart).ctx).marks.cap),.slice ((((CN (Ao ml v) s').cart).ctx).cloud.a) ((((CN (Ao ml v) s').cart).ctx).cloud.len) ((((CN (Ao ml v) s').cart).ctx).cloud.cap)],.int .i64 0]∧Dr w' s' (Ao ml v)∧Iy s'∧Bl (Ao ml v) s'∧(∀q,En s' q->w.heap.size<=q))∧Ap w w')):=by
 have hv:=hok.ok;have hv0:=hv;obtain⟨hv1,hv2,hv3,hv4,hv5,hv6⟩:=hv;refine Ac (n:=51) func82 rfl rfl rfl ?_;refine jG ?_;refine jR<|jB ?_;intro ae aS al a0 ap;have aT:=Ak hb.lt al;have aC:=An hM3.oL al;have aD:=An hR.oL al;have:w.heap.size<=ae:=al;clear al;have K0:=(ap:Ap w _);refine jR<|jA ?_;intro am aU af a1 an;replace hb:=hb.ext ap;have aV:=Ak hb.lt af;have aW:=Ak a0.lt af;replace hM3:=hM3.ext ap;have aE:=An hM3.oL af;replace hR:=hR.ext ap;have aw:=An hR.oL af;have:=Aaa K0.size af;clear af;replace hb:=hb.ext an;refine jG ?_;replace hM3:=hM3.ext an;refine jV (C7 (v':= .slice ma ml.length mc) (Dd underlying92 underlying9 rfl ty28 rfl rfl hM3) hgm) ?_;refine jG ?_;replace hR:=hR.ext an;replace a0:=a0.ext an;replace K0:=K0.ext an;refine Ai.loop (ι:=Nat) (fun i ρ' w'=>Holds ρ' [(0,jp b),(1,.string key),(5,jp ae),(6,jp am),(17,.slice ma ml.length mc),(18,.int .i64 ((ml.length:Nat):Int)),(19,.int .i64 ((i:Nat):Int))]∧Ap w w'∧(AB w' b [.int .i32 lk,.int .u32 0,jp lg,.int .i64 st,.map (some m1),.map (some m2),.map (some m3)] 94)∧(AB w' ae [.slice s.ea v.ent.length s.ec,.slice s.ma v.mrk.length s.mc,.slice s.ca v.cl.length s.cc] 33)∧(AB w' am [.slice none 0 0,.slice none 0 0,.slice none 0 0] 33)∧(At w' m3 qs)∧(Bf w' s v)∧(i<=ml.length)∧(GL (fun m=>decide (m.count<EW v.mrk v.cl (AZ m))) ml i)) (fun i=>ml.length-i) 0 ?_ ?_
 ·refine⟨⟨rfl,rfl,rfl,rfl,rfl,rfl,rfl,trivial⟩,K0,hb,a0,a1,hM3,hR,?_,?_⟩
  ·omega
  ·exact GL.zero _ _
 clear hb hM3 hR a0 a1;clear K0;rintro i aX aY ⟨ax,K0,hb,a0,a1,hM3,hR,hi,hno⟩ ih1;obtain⟨ρ₀,rfl⟩:=ax.ex;clear ax;refine jG ?_;refine jF ?_ ?_
 ·intro hc20
  obtain⟨aZ,b0,m,hm1,b1,aF⟩:=(hms.ext K0).eo i;refine jG ?_;refine jR<|jA ?_;intro b2 b3 a4 a2 ag;have b4:=Ak hb.lt a4;have b5:=Ak a0.lt a4;have b6:=Ak a1.lt a4;have b7:=Ak aF.lt a4;have aG:=An hM3.oL a4;have aH:=An hR.oL a4;have:=Aaa K0.size a4;clear a4;refine jR<|jS a2 ?_;intro b8 a2 ah;refine jG ?_;refine Ai.drawS [] [0,1001,1002,5,1006,2003,2004,7] ?_;intro b9 a6;replace a0:=((a0.ext ag).kp ah).ext a6;replace a2:=a2.ext a6;refine jM (jb a0 (jb a2 Jn)) ?_;refine jG ?_;refine jU rfl<|jC (Dz m _) ?_;rintro _ ba ⟨rfl,a7⟩;replace a0:=a0.ext a7;replace a2:=a2.ext a7;refine jG ?_;replace hR:=(((hR.ext ag).kO ah (Aa aH)).ext a6).ext a7;refine jU rfl<|jC (YV s.ma v.mrk s.mc s.ca v.cl s.cc (AZ m) _ hR.mrk hR.cl Zo Zo) ?_;rintro _ bb ⟨rfl,a8⟩;replace a0:=a0.ext a8;replace a2:=a2.ext a8;refine jG ?_;replace hb:=((((hb.ext ag).kp ah).ext a6).ext a7).ext a8;replace a1:=((((a1.ext ag).kp ah).ext a6).ext a7).ext a8;replace hM3:=((((hM3.ext ag).kO ah (Aa aG)).ext a6).ext a7).ext a8;replace K0:=((((K0.ext ag).n1 ah).ext a6).ext a7).ext a8;replace hR:=hR.ext a8;refine jF ?_ ?_
  ·intro hc30
   refine jG ?_;refine jV (AI (cells:=#[.slice none 0 0,.slice none 0 0,.slice none 0 0]) Zk) ?_;refine jR<|jS a1 ?_;intro bc a1 ao;refine jG ?_;refine Ai.retCT (x:= .int .i64 50) (cs:=#[.slice none 0 0,.slice none 0 0,.slice none 0 0]) func82 rfl ty33 rfl rfl a1.cl rfl ?_;have hcn:=S0 (v:=v) hm1 hc30;rw[hcn];replace hb:=hb.kp ao;replace a0:=a0.kp ao;replace hM3:=hM3.kO ao (Aa aE);replace hR:=hR.kO ao (Aa aw);replace K0:=K0.n1 ao;exact⟨_,rfl,.inl ⟨by decide,rfl⟩,K0⟩
  ·intro hc30
   refine jG ?_;refine jV (Az (c:=((i+1:Nat):Int)) (Au rfl rfl Zo Zo) rfl) ?_;refine jG ?_;refine ih1 (i+1) _ _ ?_ Zo;refine⟨⟨rfl,rfl,rfl,rfl,rfl,rfl,rfl,trivial⟩,K0,hb,a0,a1,hM3,hR,?_,?_⟩
   ·omega
   ·exact hno.step hm1 (decide_eq_false Zo)
 ·intro hc20
  refine jG ?_;refine jV (C7 (v':= .slice ma ml.length mc) (Dd underlying92 underlying9 rfl ty28 rfl rfl hM3) hgm) ?_;refine jG ?_;refine Ai.loop (ι:=Nat) (fun j ρ' w'=>∃vv:MV,∃ss:Ge,Holds ρ' [(5,jp ae),(6,jp am),(38,.slice ma ml.length mc),(39,.int .i64 ((ml.length:Nat):Int)),(40,.int .i64 ((j:Nat):Int))]∧Ap w w'∧(AB w' b [.int .i32 lk,.int .u32 0,jp lg,.int .i64 st,.map (some m1),.map (some m2),.map (some m3)] 94)∧(AB w' ae [.slice ss.ea vv.ent.length ss.ec,.slice ss.ma vv.mrk.length ss.mc,.slice ss.ca vv.cl.length ss.cc] 33)∧(AB w' am [.slice none 0 0,.slice none 0 0,.slice none 0 0] 33)∧(At w' m3 qs)∧(Bf w' ss vv)∧(¬BE ss vv ae)∧(¬BE ss vv am)∧(j<=ml.length)∧(Bl vv ss)∧(vv=Ao (ml.take j) v)) (fun j=>ml.length-j) 0 ?_ ?_
  ·refine⟨v,s,⟨rfl,rfl,rfl,rfl,rfl,trivial⟩,K0,hb,a0,a1,hM3,hR,aD,aw,?_,?_,?_⟩
   ·omega
   ·exact hok
   ·exact P5.symm
  clear hb a0 a1 hM3 hR;clear K0;rintro j be bg ⟨vv,ss,ay,K0,hb,a0,a1,hM3,a9,aI,bh,hj,hovv,hvv⟩ ih2;obtain⟨ρ₀,rfl⟩:=ay.ex;clear ay;refine jG ?_;refine jF ?_ ?_
  ·intro hc41
   obtain⟨bi,bj,m2,hm2,bk,aJ⟩:=(hms.ext K0).eo j;refine jG ?_;refine jR<|jA ?_;intro bl bm a5 a3 ai;have bn:=Ak hb.lt a5;have bo:=Ak a0.lt a5;have bp:=Ak a1.lt a5;have bq:=Ak aJ.lt a5;have aK:=An hM3.oL a5;have aL:=An a9.oL a5;have:=Aaa K0.size a5;clear a5;refine jR<|jS a3 ?_;intro bs a3 aj;refine jG ?_;refine Ai.drawS [4] [1000,1001,2002,2003,2004] ?_;intro bt aa;replace a0:=((a0.ext ai).kp aj).ext aa;replace a3:=a3.ext aa;refine jM (jb a0 (jb a3 Jn)) ?_;refine jG ?_;refine jU rfl<|jC (Dz m2 _) ?_;rintro _ bu ⟨rfl,ab⟩;replace a0:=a0.ext ab;replace a3:=a3.ext ab;refine jG ?_;replace a9:=(((a9.ext ai).kO aj (Aa aL)).ext aa).ext ab;refine jU rfl<|jC (Rs vv ss (AZ m2) _ a9 hovv) ?_;rintro _ bv ⟨aM,rfl,aq,bw,au,ac⟩;have hopr:=OR hovv aq;have az:=Aw au a0.lt;replace a1:=(((a1.ext ai).kp aj).ext aa).ext ab;have aN:=Aw au a1.lt;clear au;replace a0:=a0.ext ac;replace a3:=a3.ext ac;refine jG ?_;refine jU rfl<|jS a0 ?_;intro bx a0 ak;refine jG ?_;refine jV (Az (c:=((j+1:Nat):Int)) (Au rfl rfl Zo Zo) rfl) ?_;refine jG ?_;replace aq:=aq.kO ak (Aa az);have aO:=aq.r;refine ih2 (j+1) _ _ ?_ Zo;replace hb:=(((((hb.ext ai).kp aj).ext aa).ext ab).ext ac).kp ak;replace hM3:=(((((hM3.ext ai).kO aj (Aa aK)).ext aa).ext ab).ext ac).kO ak (Aa aC);replace K0:=(((((K0.ext ai).n1 aj).ext aa).ext ab).ext ac).n1 ak;replace a1:=(a1.ext ac).kp ak;replace a9:=(a9.ext ac).kO ak (Aa aI);refine⟨(Ax vv (AZ m2)),aM,⟨rfl,rfl,rfl,rfl,rfl,trivial⟩,K0,hb,a0,a1,hM3,aO,(fun h_=>az (cart_d _ h_)),(fun h_=>aN (cart_d _ h_)),?_,?_,?_⟩
   ·omega
   ·exact hopr
   ·rw[P6 hm2,hvv]
  ·intro hc41
   refine jG ?_;refine jR<|jC (Fs vv ss _ a9 hovv.ok) ?_;rintro _ bz ⟨ad,rfl,ar,aP,av,aA⟩;have aQ:=Aw av a1.lt;have aR:=Bd K0.size av;clear av;replace a1:=a1.ext aA;refine jR<|jS a1 ?_;intro bA a1 aB;refine jG ?_;refine Ai.retCT (x:= .int .i64 0) (cs:=#[.slice ad.ea vv.ent.length ad.ec,.slice ad.ma vv.mrk.length ad.mc,.slice ad.ca vv.cl.length ad.cc]) func82 rfl ty33 rfl rfl a1.cl rfl ?_;have hje:j=ml.length:=by omega
   subst hje;rw[Aas]at hvv;subst hvv;replace K0:=(K0.ext aA).n1 aB;replace ar:=ar.kO aB (Aa aQ);exact⟨_,rfl,.inr ⟨SZ hno Zo,ad,rfl,ar,aP,⟨hovv.ok,hovv.ent,ar.ent.le_cap⟩,aR⟩,K0⟩
theorem P7 (b lg m1 m2 m3:Nat)(lk st:Int)(qs:List (ByteArray×Value))(ma:Option Addr)(ml:List Ab)(mc:Nat)(ps:List (ByteArray×Value))(o:Option Kc)(key:ByteArray)(v:MV)(s:Ge)(w:World)(hb:AB w b [.int .i32 lk,.int .u32 0,jp lg,.int .i64 st,.map (some m1),.map (some m2),.map (some m3)] 94)(hM1:At w m1 ps)(hM3:At w m3 qs)(hgm:(BO qs key).getD (.slice none 0 0)= .slice ma ml.length mc)(hms:Av w ma ml)(hml:ml.length<=1048576)(hR:Bf w s v)(hok:Bl v s)(hget:BO ps key=o.map (fun t=>(Kc.kv t).2))(hTo:∀t,o=some t->Bf w t.s t.v∧Bl t.v t.s):
  Calls prog 36 #[jp b,.string key,.agg #[.slice s.ea v.ent.length s.ec,.slice s.ma v.mrk.length s.mc,.slice s.ca v.cl.length s.cc]] w (AN (fun r w'=>(Cm ml v≠0∧r= .tuple #[.agg #[.slice none 0 0,.slice none 0 0,.slice none 0 0],.agg #[.slice none 0 0,.slice none 0 0,.slice none 0 0],.int .i64 (Cm ml v)]∨Cm ml v=0∧(wN (o.map (·.v)) (Ao ml v)≠0∧r= .tuple #[.agg #[.slice none 0 0,.slice none 0 0,.slice none 0 0],.agg #[.slice none 0 0,.slice none 0 0,.slice none 0 0],.int .i64 (wN (o.map (·.v)) (Ao ml v))]∨wN (o.map (·.v)) (Ao ml v)=0∧∃s1 s2,r= .tuple #[.agg #[.slice (((CN (wV (o.map (·.v)) (Ao ml v)) s1).cart).entries.a) (((CN (wV (o.map (·.v)) (Ao ml v)) s1).cart).entries.len) (((CN (wV (o.map (·.v)) (Ao ml v)) s1).cart).entries.cap),.slice ((((CN (wV (o.map (·.v)) (Ao ml v)) s1).cart).ctx).marks.a) ((((CN (wV (o.map (·.v)) (Ao ml v)) s1).cart).ctx).marks.len) ((((CN (wV (o.map (·.v)) (Ao ml v)) s1).cart).ctx).marks.cap),.slice ((((CN (wV (o.map (·.v)) (Ao ml v)) s1).cart).ctx).cloud.a) ((((CN (wV (o.map (·.v)) (Ao ml v)) s1).cart).ctx).cloud.len) ((((CN (wV (o.map (·.v)) (Ao ml v)) s1).cart).ctx).cloud.cap)],.agg #[.slice (((CN (Ao ml v) s2).cart).entries.a) (((CN (Ao ml v) s2).cart).entries.len) (((CN (Ao ml v) s2).cart).entries.cap),.slice ((((CN (Ao ml v) s2).cart).ctx).marks.a) ((((CN (Ao ml v) s2).cart).ctx).marks.len) ((((CN (Ao ml v) s2).cart).ctx).marks.cap),.slice ((((CN (Ao ml v) s2).cart).ctx).cloud.a) ((((CN (Ao ml v) s2).cart).ctx).cloud.len) ((((CN (Ao ml v) s2).cart).ctx).cloud.cap)],.int .i64 0]∧Bf w' s1 (wV (o.map (·.v)) (Ao ml v))∧Bl (wV (o.map (·.v)) (Ao ml v)) s1∧Bf w' s2 (Ao ml v)∧Bl (Ao ml v) s2∧(∀q,En s1 q->w.heap.size<=q)∧(∀q,En s2 q->w.heap.size<=q)))∧Ap w w')):=by
 obtain⟨u,hu⟩:∃u_,u_=Ao ml v:=⟨_,rfl⟩;refine Ac (n:=52) func36 rfl rfl rfl ?_;refine El ?_;by_cases hh:o.isSome=true
 ·obtain⟨t,rfl⟩:=Option.isSome_iff_exists.1 hh
  have hTt:=hTo t rfl;have hRt:=hTt.1;refine jG ?_;refine jR<|jB ?_;intro be bM az a1 aH;have bN:=Ak hb.lt az;have b2:=An hM1.oL az;have b3:=An hM3.oL az;have b4:=An hR.oL az;have b5:=An hRt.oL az;have:w.heap.size<=be:=az;clear az;have K0:=(aH:Ap w _);refine jR<|jA ?_;intro bO bP aq a0 aA;replace hb:=hb.ext aH;have bQ:=Ak hb.lt aq;have bR:=Ak a1.lt aq;replace hM1:=hM1.ext aH;have aT:=An hM1.oL aq;replace hM3:=hM3.ext aH;have aU:=An hM3.oL aq;replace hR:=hR.ext aH;have aV:=An hR.oL aq;replace hRt:=hRt.ext aH;have aW:=An hRt.oL aq;have:=Aaa K0.size aq;clear aq;refine jR<|jA ?_;intro bS bT an a2 ar;replace hb:=hb.ext aA;have bU:=Ak hb.lt an;replace a1:=a1.ext aA;have bV:=Ak a1.lt an;have bW:=Ak a0.lt an;replace hM1:=hM1.ext aA;have aX:=An hM1.oL an;replace hM3:=hM3.ext aA;have aY:=An hM3.oL an;replace hR:=hR.ext aA;have aZ:=An hR.oL an;replace hRt:=hRt.ext aA;have b0:=An hRt.oL an;replace K0:=K0.ext aA;have:=Aaa K0.size an;clear an;replace a1:=a1.ext ar;refine jG ?_;replace hb:=hb.ext ar;replace hM3:=hM3.ext ar;replace hR:=hR.ext ar;replace K0:=K0.ext ar;refine jR<|jC (Rt _ _ _ _ _ _ _ qs ma ml mc _ v s _ hb hM3 hgm (hms.ext K0) hml hR hok) ?_;rintro r_ bX ⟨hw_,a5⟩;rw[<-hu]at hw_;replace hM1:=hM1.ext ar;replace hRt:=hRt.ext ar;replace a0:=a0.ext ar;rcases hw_ with⟨hcn,rfl⟩|⟨hcn,s0,rfl,hO0,hA0,hok0,hg0⟩
  ·replace hb:=hb.ext a5
   refine jG ?_;replace a1:=a1.ext a5;refine jR<|jS a1 ?_;intro bY a1 au;refine jG ?_;replace hM1:=(hM1.ext a5).kO au (Aa b2);replace hM3:=(hM3.ext a5).kO au (Aa b3);replace hR:=(hR.ext a5).kO au (Aa b4);replace hRt:=(hRt.ext a5).kO au (Aa b5);replace a0:=(a0.ext a5).kp au;replace a2:=(a2.ext a5).kp au;replace K0:=(K0.ext a5).n1 au;replace hb:=hb.kp au;refine jF ?_ ?_
   ·intro hc21
    refine jG ?_;refine jV (AI (cells:=#[.slice none 0 0,.slice none 0 0,.slice none 0 0]) Zk) ?_;refine jV (AI (cells:=#[.slice none 0 0,.slice none 0 0,.slice none 0 0]) Zk) ?_;refine jG ?_;refine jR<|jS a0 ?_;intro bZ a0 av;replace a2:=a2.kp av;refine jR<|jS a2 ?_;intro c0 a2 aw;refine jG ?_;replace a0:=a0.kp aw;refine Ai.retCCT (x:= .int .i64 (Cm ml v)) (cs:=#[.slice none 0 0,.slice none 0 0,.slice none 0 0]) (ds:=#[.slice none 0 0,.slice none 0 0,.slice none 0 0]) func36 rfl ty33 rfl rfl a0.cl rfl rfl a2.cl rfl ?_;subst hu;replace hb:=(hb.kp av).kp aw;replace hM1:=(hM1.kO av (Aa aT)).kO aw (Aa aX);replace hM3:=(hM3.kO av (Aa aU)).kO aw (Aa aY);replace hR:=(hR.kO av (Aa aV)).kO aw (Aa aZ);replace hRt:=(hRt.kO av (Aa aW)).kO aw (Aa b0);replace a1:=(a1.kp av).kp aw;replace K0:=(K0.n1 av).n1 aw;exact⟨_,rfl,.inl ⟨hcn,rfl⟩,K0⟩
   ·intro hc21
    exact absurd (by simpa using hc21) hcn
  ·have c1:=Aw hg0 hb.lt
   have bg:=Aw hg0 a1.lt;have b6:=Aw hg0 a0.lt;have b7:=Aw hg0 a2.lt;have bh:=Bd K0.size hg0;clear hg0;refine jG ?_;replace a1:=a1.ext a5;refine jR<|jS a1 ?_;intro c2 a1 ao;refine jG ?_;refine Ai.condF rfl ?_;replace hb:=(hb.ext a5).kp ao;refine jG ?_;replace hM1:=(hM1.ext a5).kO ao (Aa b2);refine jV (C7 (v':= .tuple #[.agg #[.slice t.s.ea t.v.ent.length t.s.ec,.slice t.s.ma t.v.mrk.length t.s.mc,.slice t.s.ca t.v.cl.length t.s.cc],.bool true]) (BA underlying90 underlying9 rfl ty33 rfl rfl hM1) (by rw[hget];rfl)) ?_;refine jG ?_;refine jR<|jA ?_;intro c3 c4 ab aK ak;have c5:=Ak hb.lt ab;have c6:=Ak a1.lt ab;replace a0:=(a0.ext a5).kp ao;have c7:=Ak a0.lt ab;replace a2:=(a2.ext a5).kp ao;have c8:=Ak a2.lt ab;have bi:=An hM1.oL ab;replace hM3:=(hM3.ext a5).kO ao (Aa b3);have bj:=An hM3.oL ab;replace hR:=(hR.ext a5).kO ao (Aa b4);have bk:=An hR.oL ab;replace hRt:=(hRt.ext a5).kO ao (Aa b5);have bl:=An hRt.oL ab;replace hO0:=hO0.kO ao (Aa bg);have bm:=An hO0.oL ab;replace K0:=(K0.ext a5).n1 ao;have:=Aaa K0.size ab;clear ab;refine jR<|jS aK ?_;intro c9 aK al;refine Em ?_;refine jV (Bn (b:=true) rfl) ?_;refine jG ?_;refine Ai.condF rfl ?_;replace a1:=(a1.ext ak).kp al;refine jG ?_;replace hRt:=(hRt.ext ak).kO al (Aa bl);replace hO0:=(hO0.ext ak).kO al (Aa bm);refine jR<|jC (YK t.v u t.s s0 _ hRt hO0.r hTt.2 hok0) ?_;rintro _ cb ⟨bn,rfl,ap,cd,b1,ac⟩;replace a0:=(a0.ext ak).kp al;have bo:=Aw b1 a0.lt;replace a2:=(a2.ext ak).kp al;have bp:=Aw b1 a2.lt;clear b1;have hjok:=Vh hTt.2.ent hok0.ent ap;refine jG ?_;refine jR<|jA ?_;intro ce cf a8 a9 ad;replace hb:=((hb.ext ak).kp al).ext ac;have cg:=Ak hb.lt a8;replace a1:=a1.ext ac;have ch:=Ak a1.lt a8;replace a0:=a0.ext ac;have ci:=Ak a0.lt a8;replace a2:=a2.ext ac;have cj:=Ak a2.lt a8;replace aK:=aK.ext ac;have ck:=Ak aK.lt a8;replace hM1:=((hM1.ext ak).kO al (Aa bi)).ext ac;have bq:=An hM1.oL a8;replace hM3:=((hM3.ext ak).kO al (Aa bj)).ext ac;have bs:=An hM3.oL a8;replace hR:=((hR.ext ak).kO al (Aa bk)).ext ac;have bt:=An hR.oL a8;replace hRt:=hRt.ext ac;have bu:=An hRt.oL a8;replace hO0:=hO0.ext ac;have bv:=An hO0.oL a8;have bw:=An ap.oL a8;replace K0:=((K0.ext ak).n1 al).ext ac;have:=Aaa K0.size a8;clear a8;refine jR<|jS a9 ?_;intro cm a9 ae;refine jG ?_;replace hb:=(hb.ext ad).kp ae;replace hM1:=(hM1.ext ad).kO ae (Aa bq);replace hM3:=(hM3.ext ad).kO ae (Aa bs);replace hR:=(hR.ext ad).kO ae (Aa bt);replace hRt:=(hRt.ext ad).kO ae (Aa bu);replace a1:=(a1.ext ad).kp ae;replace a0:=(a0.ext ad).kp ae;replace a2:=(a2.ext ad).kp ae;replace hO0:=(hO0.ext ad).kO ae (Aa bv);replace ap:=(ap.ext ad).kO ae (Aa bw);replace K0:=(K0.ext ad).n1 ae;refine jF ?_ ?_
   ·intro hc45
    refine jG ?_;refine jV (AI (cells:=#[.slice none 0 0,.slice none 0 0,.slice none 0 0]) Zk) ?_;refine jV (AI (cells:=#[.slice none 0 0,.slice none 0 0,.slice none 0 0]) Zk) ?_;refine jG ?_;refine jR<|jS a0 ?_;intro cn a0 af;replace a2:=a2.kp af;refine jR<|jS a2 ?_;intro co a2 ag;refine jG ?_;replace a0:=a0.kp ag;refine Ai.retCCT (x:= .int .i64 (HG t.v u)) (cs:=#[.slice none 0 0,.slice none 0 0,.slice none 0 0]) (ds:=#[.slice none 0 0,.slice none 0 0,.slice none 0 0]) func36 rfl ty33 rfl rfl a0.cl rfl rfl a2.cl rfl ?_;subst hu;replace hb:=(hb.kp af).kp ag;replace hM1:=(hM1.kO af (Aa aT)).kO ag (Aa aX);replace hM3:=(hM3.kO af (Aa aU)).kO ag (Aa aY);replace hR:=(hR.kO af (Aa aV)).kO ag (Aa aZ);replace hRt:=(hRt.kO af (Aa aW)).kO ag (Aa b0);replace a1:=(a1.kp af).kp ag;replace hO0:=(hO0.kO af (Aa b6)).kO ag (Aa b7);replace ap:=(ap.kO af (Aa bo)).kO ag (Aa bp);replace a9:=(a9.kp af).kp ag;replace K0:=(K0.n1 af).n1 ag;exact⟨_,rfl,.inr ⟨hcn,.inl ⟨hc45,rfl⟩⟩,K0⟩
   ·intro hc45
    refine jG ?_;refine Ai.drawS [] [1000,1002,2001,2003,2004,5] ?_;intro cp aa;replace a1:=a1.ext aa;replace a9:=a9.ext aa;refine jM (jb a1 (jb a9 Jn)) ?_;refine jG ?_;replace ap:=ap.ext aa;refine jU rfl<|jC (Fs (CC t.v u) bn _ ap.r hjok.ok) ?_;rintro _ cq ⟨aB,rfl,aP,cr,aQ,ah⟩;replace a0:=a0.ext aa;have bx:=Aw aQ a0.lt;replace a2:=a2.ext aa;have bz:=Aw aQ a2.lt;replace K0:=K0.ext aa;have bA:=Bd K0.size aQ;clear aQ;replace a1:=a1.ext ah;replace a9:=a9.ext ah;refine jG ?_;replace a0:=a0.ext ah;refine jU rfl<|jS a0 ?_;intro ct a0 ai;replace a1:=a1.kp ai;replace a9:=a9.kp ai;refine jG ?_;replace a2:=(a2.ext ah).kp ai;refine jU rfl<|jS a2 ?_;intro cu a2 aj;replace a1:=a1.kp aj;replace a9:=a9.kp aj;refine jG ?_;replace a0:=a0.kp aj;refine Ai.retCCT (x:= .int .i64 0) (cs:=#[.slice aB.ea ((CC t.v u).ent.length) aB.ec,.slice aB.ma ((CC t.v u).mrk.length) aB.mc,.slice aB.ca ((CC t.v u).cl.length) aB.cc]) (ds:=#[.slice s0.ea u.ent.length s0.ec,.slice s0.ma u.mrk.length s0.mc,.slice s0.ca u.cl.length s0.cc]) func36 rfl ty33 rfl rfl a0.cl rfl rfl a2.cl rfl ?_;subst hu;replace hb:=(((hb.ext aa).ext ah).kp ai).kp aj;replace hM1:=(((hM1.ext aa).ext ah).kO ai (Aa aT)).kO aj (Aa aX);replace hM3:=(((hM3.ext aa).ext ah).kO ai (Aa aU)).kO aj (Aa aY);replace hR:=(((hR.ext aa).ext ah).kO ai (Aa aV)).kO aj (Aa aZ);replace hRt:=(((hRt.ext aa).ext ah).kO ai (Aa aW)).kO aj (Aa b0);replace hO0:=(((hO0.ext aa).ext ah).kO ai (Aa b6)).kO aj (Aa b7);replace K0:=((K0.ext ah).n1 ai).n1 aj;replace aP:=(aP.kO ai (Aa bx)).kO aj (Aa bz);exact⟨_,rfl,.inr ⟨hcn,.inr ⟨hc45,aB,s0,rfl,aP.r,⟨hjok.ok,hjok.ent,aP.ent.le_cap⟩,hO0.r,hok0,bA,bh⟩⟩,K0⟩
 ·have ho_:o=none:=by cases o with|none=>rfl|some _=>exact absurd rfl hh
  subst ho_;refine jG ?_;refine jR<|jB ?_;intro bB cw aI a3 aL;have cx:=Ak hb.lt aI;have b8:=An hM1.oL aI;have b9:=An hM3.oL aI;have ba:=An hR.oL aI;have:w.heap.size<=bB:=aI;clear aI;have K0:=(aL:Ap w _);refine jR<|jA ?_;intro cy cz aC a4 aJ;replace hb:=hb.ext aL;have cA:=Ak hb.lt aC;have cB:=Ak a3.lt aC;replace hM1:=hM1.ext aL;have bC:=An hM1.oL aC;replace hM3:=hM3.ext aL;have bD:=An hM3.oL aC;replace hR:=hR.ext aL;have bE:=An hR.oL aC;have:=Aaa K0.size aC;clear aC;refine jR<|jA ?_;intro cC cD ax a6 aD;replace hb:=hb.ext aJ;have cE:=Ak hb.lt ax;replace a3:=a3.ext aJ;have cF:=Ak a3.lt ax;have cG:=Ak a4.lt ax;replace hM1:=hM1.ext aJ;have bF:=An hM1.oL ax;replace hM3:=hM3.ext aJ;have bG:=An hM3.oL ax;replace hR:=hR.ext aJ;have bH:=An hR.oL ax;replace K0:=K0.ext aJ;have:=Aaa K0.size ax;clear ax;replace a3:=a3.ext aD;refine jG ?_;replace hb:=hb.ext aD;replace hM3:=hM3.ext aD;replace hR:=hR.ext aD;replace K0:=K0.ext aD;refine jR<|jC (Rt _ _ _ _ _ _ _ qs ma ml mc _ v s _ hb hM3 hgm (hms.ext K0) hml hR hok) ?_;rintro r_ cH ⟨hw_,a7⟩;rw[<-hu]at hw_;replace hM1:=hM1.ext aD;replace a4:=a4.ext aD;rcases hw_ with⟨hcn,rfl⟩|⟨hcn,s0,rfl,hO0,hA0,hok0,hg0⟩
  ·replace hb:=hb.ext a7
   refine jG ?_;replace a3:=a3.ext a7;refine jR<|jS a3 ?_;intro cI a3 aE;refine jG ?_;replace hM1:=(hM1.ext a7).kO aE (Aa b8);replace hM3:=(hM3.ext a7).kO aE (Aa b9);replace hR:=(hR.ext a7).kO aE (Aa ba);replace a4:=(a4.ext a7).kp aE;replace a6:=(a6.ext a7).kp aE;replace K0:=(K0.ext a7).n1 aE;replace hb:=hb.kp aE;refine jF ?_ ?_
   ·intro hc21
    refine jG ?_;refine jV (AI (cells:=#[.slice none 0 0,.slice none 0 0,.slice none 0 0]) Zk) ?_;refine jV (AI (cells:=#[.slice none 0 0,.slice none 0 0,.slice none 0 0]) Zk) ?_;refine jG ?_;refine jR<|jS a4 ?_;intro cJ a4 aF;replace a6:=a6.kp aF;refine jR<|jS a6 ?_;intro cK a6 aG;refine jG ?_;replace a4:=a4.kp aG;refine Ai.retCCT (x:= .int .i64 (Cm ml v)) (cs:=#[.slice none 0 0,.slice none 0 0,.slice none 0 0]) (ds:=#[.slice none 0 0,.slice none 0 0,.slice none 0 0]) func36 rfl ty33 rfl rfl a4.cl rfl rfl a6.cl rfl ?_;subst hu;replace hb:=(hb.kp aF).kp aG;replace hM1:=(hM1.kO aF (Aa bC)).kO aG (Aa bF);replace hM3:=(hM3.kO aF (Aa bD)).kO aG (Aa bG);replace hR:=(hR.kO aF (Aa bE)).kO aG (Aa bH);replace a3:=(a3.kp aF).kp aG;replace K0:=(K0.n1 aF).n1 aG;exact⟨_,rfl,.inl ⟨hcn,rfl⟩,K0⟩
   ·intro hc21
    exact absurd (by simpa using hc21) hcn
  ·have cL:=Aw hg0 hb.lt
   have bI:=Aw hg0 a3.lt;have bJ:=Aw hg0 a4.lt;have bK:=Aw hg0 a6.lt;have bb:=Bd K0.size hg0;clear hg0;refine jG ?_;replace a3:=a3.ext a7;refine jR<|jS a3 ?_;intro cM a3 ay;refine jG ?_;refine Ai.condF rfl ?_;replace hb:=(hb.ext a7).kp ay;refine jG ?_;replace hM1:=(hM1.ext a7).kO ay (Aa b8);refine jV (C7 (v':= .tuple #[.agg #[.slice none 0 0,.slice none 0 0,.slice none 0 0],.bool false]) (BA underlying90 underlying9 rfl ty33 rfl rfl hM1) (by rw[hget];rfl)) ?_;refine jG ?_;refine jR<|jA ?_;intro cN cO am bc aM;have cP:=Ak hb.lt am;have cQ:=Ak a3.lt am;replace a4:=(a4.ext a7).kp ay;have cR:=Ak a4.lt am;replace a6:=(a6.ext a7).kp ay;have cS:=Ak a6.lt am;have cT:=An hM1.oL am;replace hM3:=(hM3.ext a7).kO ay (Aa b9);have cU:=An hM3.oL am;replace hR:=(hR.ext a7).kO ay (Aa ba);have cV:=An hR.oL am;replace hO0:=hO0.kO ay (Aa bI);have bL:=An hO0.oL am;replace K0:=(K0.ext a7).n1 ay;have:=Aaa K0.size am;clear am;refine jR<|jS bc ?_;intro cW bc aN;refine Em ?_;refine jV (Bn (b:=false) rfl) ?_;refine jG ?_;refine C4 ?_;refine jG ?_;refine Ai.drawS [] [1000,1001,2002,2003,4] ?_;intro cX aO;replace a3:=((a3.ext aM).kp aN).ext aO;refine jM (jb a3 Jn) ?_;refine jG ?_;replace a4:=((a4.ext aM).kp aN).ext aO;refine jU rfl<|jS a4 ?_;intro cY a4 aR;replace a3:=a3.kp aR;refine jG ?_;replace a6:=(((a6.ext aM).kp aN).ext aO).kp aR;refine jU rfl<|jS a6 ?_;intro cZ a6 aS;replace a3:=a3.kp aS;refine jG ?_;replace a4:=a4.kp aS;refine Ai.retCCT (x:= .int .i64 0) (cs:=#[.slice s0.ea u.ent.length s0.ec,.slice s0.ma u.mrk.length s0.mc,.slice s0.ca u.cl.length s0.cc]) (ds:=#[.slice s0.ea u.ent.length s0.ec,.slice s0.ma u.mrk.length s0.mc,.slice s0.ca u.cl.length s0.cc]) func36 rfl ty33 rfl rfl a4.cl rfl rfl a6.cl rfl ?_;subst hu;replace hO0:=((((hO0.ext aM).kO aN (Aa bL)).ext aO).kO aR (Aa bJ)).kO aS (Aa bK);replace K0:=((((K0.ext aM).n1 aN).ext aO).n1 aR).n1 aS;exact⟨_,rfl,.inr ⟨hcn,.inr ⟨rfl,s0,s0,rfl,hO0.r,hok0,hO0.r,hok0,bb,bb⟩⟩,K0⟩
end
section
attribute [local irreducible] AC DQ Cp BH Bz B4 Cb D4 Cj itemsN BW AO Br BK Gr AP A4 Ar Ck As A1 Ay A5 EM AW AK Cy DT Ax setM
def P8 (a b:Ab):Int:=if a.node=b.node then a.life-b.life else a.node-b.node
theorem Xc {a b:Ab}(h:P8 a b<0):BH a b:=by unfold P8 at h;unfold BH;split at h<;>omega
theorem Xd {a b:Ab}(h:¬P8 a b<0):¬BH a b:=by unfold P8 at h;unfold BH;split at h<;>omega
theorem Vp {ml:List Ab}{m:Ab}{i:Nat}(h:UN ml m i)(hno:∀x∈ml,AZ x≠AZ m):Fp ml i m=setM ml (Ab.d m):=(setM_new (d:=Ab.d m) h (fun y hy=>hno y (Aan hy))).symm
theorem S1 {ml:List Ab}{m:Ab}(hno:∀x∈ml,AZ x≠AZ m):F2 (fun x=>decide (AZ x=AZ m)) ml= -1:=F3 (i:=ml.length) (fun j x _ hx=>decide_eq_false (hno x (Aan hx))) (Aac _)
attribute [local irreducible] X
theorem Ru (a b:Ab)(w:World)(ha:AC (Ab.d a))(hb:AC (Ab.d b)):
  Calls prog 164 #[.agg #[.int .i64 a.node,.int .i64 a.life,.int .i64 a.count],.agg #[.int .i64 b.node,.int .i64 b.life,.int .i64 b.count]] w (AN (fun v w'=>v= .int .i64 (P8 a b)∧Ap w w')):=by
 simp only[AC,Ab.d]at ha hb;refine Ac (n:=20) func164 rfl rfl rfl ?_;refine jG ?_;refine jR<|jB ?_;intro a4 a6 a2 a0 a5;have:w.heap.size<=a4:=a2;clear a2;have K0:=(a5:Ap w _);refine jR<|jB ?_;intro a7 a8 a1 a9 a3;have aa:=Ak a0.lt a1;have:=Aaa K0.size a1;clear a1;replace a0:=a0.ext a3;refine jG ?_;replace K0:=K0.ext a3;refine jF ?_ ?_
 ·intro hc9
  refine jG ?_;refine jV (BT rfl rfl Zo Zo) ?_;refine jG ?_;refine jJ func164 ?_;exact⟨_,rfl,by rw[P8,if_neg Zo],K0⟩
 ·intro hc9
  refine jG ?_;refine jV (BT rfl rfl Zo Zo) ?_;refine jG ?_;refine jJ func164 ?_;exact⟨_,rfl,by rw[P8,if_pos Zo],K0⟩
theorem S2 (am:Option Addr)(ms:List Ab)(cm:Nat)(t:Ab)(w:World)(hs:Av w am ms)(hS:ms.Pairwise BH)(hM:∀m∈ms,AC (Ab.d m))(hd:AC (Ab.d t))(hl:ms.length<=1000000):
  Calls prog 163 #[.slice am ms.length cm,.agg #[.int .i64 t.node,.int .i64 t.life,.int .i64 t.count],.func (.func 164) #[] #[]] w (AN (fun v w'=>∃(i:Nat) (b:Bool),v= .tuple #[.int .i64 (i:Int),.bool b]∧UN ms t i∧Ap w w')):=by
 refine Ac (n:=49) func163 rfl rfl rfl ?_;refine jG ?_;refine jR<|jB ?_;intro a3 ae a8 a0 aa;have:w.heap.size<=a3:=a8;clear a8;have K0:=(aa:Ap w _);refine jG ?_;refine Ai.loop (ι:=Nat) (fun m ρ' w'=>∃i:Nat,∃j:Nat,Holds ρ' [(0,.slice am ms.length cm),(2,.func (.func 164) #[] #[]),(4,jp a3),(8,.int .i64 ((ms.length:Nat):Int)),(9,.int .i64 ((i:Nat):Int)),(10,.int .i64 ((j:Nat):Int))]∧Ap w w'∧(AB w' a3 [.int .i64 t.node,.int .i64 t.life,.int .i64 t.count] 46)∧(i<=j∧j<=ms.length)∧(∀k,k<i->∀x,ms[k]? =some x->BH x t)∧(∀k,j<=k->∀x,ms[k]? =some x->¬BH x t)∧(m=j-i)) (fun m=>m) ms.length ?_ ?_
 ·refine⟨0,ms.length,⟨rfl,rfl,rfl,rfl,rfl,rfl,trivial⟩,K0,a0,?_,?_,?_,?_⟩
  ·omega
  ·exact fun k hk=>absurd hk (Abg k)
  ·exact fun k hk x hx=>absurd (List.getElem?_eq_some_iff.1 hx).1 Zo
  ·omega
 clear a0;clear K0;rintro m af ag ⟨i,j,a9,K0,a0,hij,h1,h2,hm⟩ ih1;obtain⟨ρ₀,rfl⟩:=a9.ex;clear a9;refine jG ?_;refine jF ?_ ?_
 ·intro hc17
  refine jG ?_;refine jV (Az (c:=((i+j:Nat):Int)) (Au rfl rfl Zo Zo) rfl) ?_;refine jV (Ea (kd:= .u64) (a:=i+j) rfl ⟨_,underlying3⟩ underlying106 (show i+j<18446744073709551616 by omega)) ?_;refine jV (HO (kd:= .u64) (a:=i+j) (b:=1) 2 Zd rfl rfl Zd) ?_;refine jV (Ea (kd:= .i64) (a:=(i+j)/2) rfl ⟨_,underlying106⟩ underlying3 (show(i+j)/2<9223372036854775808 by omega)) ?_;refine jG ?_;obtain⟨ah,ai,y,hy,ab,a1⟩:=hs.el (i:=(i+j)/2) Zl;have hc_14_lt:=a1.lt;refine Ai.drawS [] [0,1,2,3,1004,1005,2006,7] ?_;intro aj a4;replace a1:=(a1.ext K0).ext a4;replace a0:=a0.ext a4;refine jM (jb a0 (jl a1 Jn)) ?_;refine Em ?_;refine FW ?_;refine jP ?_ (hx:=by exact fun _=>(AS underlying28 ty46 rfl rfl ab Zl));refine jG ?_;refine jU rfl<|AA.callV (vals:=[.agg #[.int .i64 y.node,.int .i64 y.life,.int .i64 y.count],.agg #[.int .i64 t.node,.int .i64 t.life,.int .i64 t.count]]) en164.h rfl rfl (Ru y t _ (hM y (BI hy)) hd) ?_;rintro _ ak ⟨rfl,a5⟩;replace a0:=a0.ext a5;replace a1:=a1.ext a5;refine jG ?_;replace K0:=(K0.ext a4).ext a5;refine jF ?_ ?_
  ·intro hc31
   refine jG ?_;refine jV (Az (c:=((((i+j)/2)+1:Nat):Int)) (Au rfl rfl Zo Zo) rfl) ?_;refine jG ?_;refine ih1 (j-((i+j)/2+1)) _ _ ?_ Zo;refine⟨((i+j)/2+1),j,⟨rfl,rfl,rfl,rfl,rfl,rfl,trivial⟩,K0,a0,?_,?_,?_,?_⟩
   ·omega
   ·exact XM hS hy (Xc Zo)
   ·exact h2
   ·rfl
  ·intro hc31
   refine jG ?_;refine ih1 ((i+j)/2-i) _ _ ?_ Zo;refine⟨i,((i+j)/2),⟨rfl,rfl,rfl,rfl,rfl,rfl,trivial⟩,K0,a0,?_,?_,?_,?_⟩
   ·omega
   ·exact h1
   ·exact XN hS hy (Xd Zo)
   ·rfl
 ·intro hc17
  refine El ?_;by_cases hL:i<ms.length
  ·obtain⟨al,an,z,hz,ac,a2⟩:=hs.eo i
   have hc_24_lt:=a2.lt;refine Ai.drawS [] [0,1,2,3,4,5,6,7,8,1009,1010,2011,12,13,14,15] ?_;intro ao a6;replace a2:=(a2.ext K0).ext a6;replace a0:=a0.ext a6;refine jM (jb a0 (jl a2 Jn)) ?_;refine Em ?_;refine FW ?_;refine jP ?_ (hx:=by exact fun _=>(DN (FZ rfl rfl) Zi));refine H7 ?_;refine jQ ?_ (hx:=by exact fun _ hg=>(AS underlying28 ty46 rfl rfl ac Zl));refine jG ?_;refine jX rfl<|AA.callV (vals:=[.agg #[.int .i64 z.node,.int .i64 z.life,.int .i64 z.count],.agg #[.int .i64 t.node,.int .i64 t.life,.int .i64 t.count]]) en164.h rfl rfl (Ru z t _ (hM z (BI hz)) hd) ?_;rintro _ ap ⟨rfl,a7⟩;replace a0:=a0.ext a7;replace a2:=a2.ext a7;refine jG ?_;refine jP ?_ (hx:=by exact fun _=>(BU rfl rfl rfl));refine jG ?_;refine jK func163 ?_;replace K0:=(K0.ext a6).ext a7;exact⟨_,rfl,i,_,rfl,⟨by omega,h1,fun k hk=>h2 k Zo⟩,K0⟩
  ·refine Ai.drawS [] [0,1,2,3,4,5,6,7,8,9,10,2011,12,13,14,15] ?_
   intro aq ad;refine jM Jn ?_;refine Em ?_;refine FW ?_;refine jP ?_ (hx:=by exact fun _=>(D9 (FZ rfl rfl) Zi));refine jG ?_;refine jY ?_;refine jG ?_;refine jP ?_ (hx:=by exact fun _=>(Be (b:=false) (e:=false) rfl rfl rfl));refine jG ?_;refine jK func163 ?_;replace K0:=K0.ext ad;exact⟨_,rfl,i,_,rfl,⟨by omega,h1,fun k hk=>h2 k Zo⟩,K0⟩
theorem Vq (a:Option Addr)(xs:List Ab)(c:Nat)(gf:FuncId)(caps:List Value)(q:Ab->Bool)(hen:DB prog gf)(w:World)(hs:Av w a xs)(hl:xs.length<=4294967295)(hq:∀x∈xs,∀w',Ap w w'->Calls prog gf (Enc.val x::caps).toArray w' (AN fun v w''=>v= .bool (q x)∧Ap w' w''))(hno:F2 q xs= -1):
  Calls prog 161 #[.slice a xs.length c,.func (.func gf) #[] caps.toArray] w (AN (fun v w'=>v= .slice a xs.length c∧Ap w w')):=by
 refine Ac (n:=42) func161 rfl rfl rfl ?_;refine jG ?_;refine jR<|jC (HE _ _ _ _ _ q hen _ hs Zo hq) ?_;rintro _ a1 ⟨rfl,a0⟩;have K0:=(a0:Ap w _);refine jG ?_;refine jF ?_ ?_
 ·intro hc12
  refine jG ?_;refine jJ func161 ?_;exact⟨_,rfl,rfl,K0⟩
 ·intro hc12
  exact absurd hno (by simpa using hc12)
theorem Vr (x:Ab)(b:Nat)(m:Ab)(w:World)(hb:AB w b [.int .i64 m.node,.int .i64 m.life,.int .i64 m.count] 46):
  Calls prog 162 #[.agg #[.int .i64 x.node,.int .i64 x.life,.int .i64 x.count],jp b] w (AN (fun v w'=>v= .bool (decide (AZ x=AZ m))∧Ap w w')):=by
 refine Ac (n:=9) func162 rfl rfl rfl ?_;refine jG ?_;refine jR<|jB ?_;intro a6 a7 a1 a0 a5;have a8:=Ak hb.lt a1;have:w.heap.size<=a6:=a1;clear a1;have K0:=(a5:Ap w _);refine jG ?_;refine Ai.drawS [] [1000,1002,2001,2003,4,5] ?_;intro a9 a2;replace hb:=(hb.ext a5).ext a2;replace a0:=a0.ext a2;refine jM (jb hb (jb a0 Jn)) ?_;refine jG ?_;refine jU rfl<|jC (Dz x _) ?_;rintro _ aa ⟨rfl,a3⟩;replace hb:=hb.ext a3;replace a0:=a0.ext a3;refine jG ?_;refine jU rfl<|jC (Dz m _) ?_;rintro _ ab ⟨rfl,a4⟩;replace hb:=hb.ext a4;replace a0:=a0.ext a4;refine jG ?_;refine jP ?_ (hx:=by exact fun _=>(GJ Zk rfl rfl (DZ (AZ x) (AZ m))));refine jG ?_;refine jJ func162 ?_;replace K0:=((K0.ext a2).ext a3).ext a4;exact⟨_,rfl,rfl,K0⟩
theorem No (b lg m1 m2 m3:Nat)(lk st:Int)(qs:List (ByteArray×Value))(ma:Option Addr)(ml:List Ab)(mc:Nat)(ps:List (ByteArray×Value))(o:Option Kc)(key:ByteArray)(m:Ab)(w:World)(hb:AB w b [.int .i32 lk,.int .u32 0,jp lg,.int .i64 st,.map (some m1),.map (some m2),.map (some m3)] 94)(hM1:At w m1 ps)(hM3:At w m3 qs)(hgm:(BO qs key).getD (.slice none 0 0)= .slice ma ml.length mc)(hms:Av w ma ml)(hml:ml.length<=1048576)(hapM:∀x,ma=some x->ml≠ []->¬(fun q_=>q_=m1∨q_=m3) x.block)(n2:b≠m1)(n3:b≠m3)(n5:m1≠m3)(hS:ml.Pairwise BH)(hM:∀x∈ml,AC (Ab.d x))(hm:AC (Ab.d m))(hno:∀x∈ml,AZ x≠AZ m)(hml2:ml.length<=1000)(hget:BO ps key=o.map (fun t=>(Kc.kv t).2))(hTo:∀t,o=some t->Bf w t.s t.v∧Bl t.v t.s∧∀q,BE t.s t.v q->¬(fun q_=>q_=m1∨q_=m3) q):
  Calls prog 105 #[jp b,.string key,.agg #[.int .i64 m.node,.int .i64 m.life,.int .i64 m.count]] w (AN (fun r_ w'=>r_= .tuple #[]∧∃a' c',At w' m3 (CX qs key (.slice a' (setM ml (Ab.d m)).length c'))∧Av w' a' (setM ml (Ab.d m))∧(∀q,own a' q->w.heap.size<=q)∧((o=none∧At w' m1 ps)∨∃t s',o=some t∧At w' m1 (CX ps key (.agg #[.slice s'.ea ((Ax t.v (AZ m)).ent.length) s'.ec,.slice s'.ma ((Ax t.v (AZ m)).mrk.length) s'.mc,.slice s'.ca ((Ax t.v (AZ m)).cl.length) s'.cc]))∧Bf w' s' (Ax t.v (AZ m))∧Bl (Ax t.v (AZ m)) s'∧(∀q,BE s' (Ax t.v (AZ m)) q->w.heap.size<=q)∧(∀q,BE s' (Ax t.v (AZ m)) q->¬own a' q))∧Ad (fun q_=>q_=m1∨q_=m3) w w')):=by
 refine Ac (n:=56) func105 rfl rfl rfl ?_;refine jG ?_;refine jR<|jB ?_;intro az b6 ak a0 ao;have b7:=Ak hb.lt ak;have aG:=An hM1.oL ak;have aH:=An hM3.oL ak;have:w.heap.size<=az:=ak;clear ak;have K0:=(ao:Ap w _).to (S:=(fun q_=>q_=m1∨q_=m3));replace hb:=hb.ext ao;refine jG ?_;replace hM3:=hM3.ext ao;refine jV (C7 (v':= .slice ma ml.length mc) (Dd underlying92 underlying9 rfl ty28 rfl rfl hM3) hgm) ?_;refine jR<|jC (Hm _ _ _ _ (hms.keepN K0 hapM) Zo) ?_;rintro _ b8 ⟨aI,ba,rfl,a4,aa,al⟩;have aJ:=Aw aa hb.lt;replace hM1:=hM1.ext ao;have aA:=Ah aa hM1.oL;have aB:=Ah aa hM3.oL;have aK:=Aw aa a0.lt;have aL:∀q_,own aI q_->q_<w.heap.size->(fun q_=>q_=m1∨q_=m3) q_:=Hx K0.size aa;have aM:=Bd K0.size aa;clear aa;refine jV (CQ (a:=[]) (c:=[jp az]) rfl rfl) ?_;replace a0:=a0.ext al;refine jR<|jC (Vq _ ml _ 162 _ (fun x=>decide (AZ x=AZ m)) en162.h _ a4.sl Zo (fun x_ _ w_ K_=>Vr x_ az m w_ (a0.ext K_)) (S1 hno)) ?_;rintro _ bb ⟨rfl,ag⟩;replace a0:=a0.ext ag;refine jG ?_;replace a4:=a4.ext ag;refine jR<|jC (S2 _ ml _ m _ a4.sl hS hM hm Zo) ?_;rintro _ bc ⟨i,b9,rfl,hL,ah⟩;have hLi:=hL.hi;refine jG ?_;refine Ai.drawS [10] [0,1,2,1003,4,5,6,1007,2008,2009,2010] ?_;intro be ai;replace hb:=(((hb.ext al).ext ag).ext ah).ext ai;replace a0:=(a0.ext ah).ext ai;refine jM (jb hb (jb a0 Jn)) ?_;refine jG ?_;refine jU rfl<|AA.buildSlice ([m]:List Ab) underlying28 ty46 rfl rfl Ze ?_;intro aN bg aC aO aj;replace a4:=(a4.ext ah).ext ai;have aP:=Ah (CV aC) a4.oL;clear aC;replace hb:=hb.ext aj;replace a0:=a0.ext aj;refine jG ?_;replace a4:=a4.ext aj;refine jU rfl<|jC (Oz _ _ _ i m aN _ a4 aO (fun h_=>(Zf aP) _ h_ (CG.2 rfl)) hLi Zo) ?_;rintro _ bh ⟨ab,ap,rfl,a1,aq,am⟩;rw[Vp hL hno]at a1⊢;replace hM1:=((((hM1.ext al).ext ag).ext ah).ext ai).ext aj;have aQ:∀q_,own ab q_->¬one m1 q_:=aq.apart aA hM1.oL;replace hM3:=((((hM3.ext al).ext ag).ext ah).ext ai).ext aj;have aR:∀q_,own ab q_->¬one m3 q_:=aq.apart aB hM3.oL;replace K0:=((((K0.ext al).ext ag).ext ah).ext ai).ext aj;have aD:∀q_,own ab q_->w.heap.size<=q_:=aq.ge aM K0.size;replace K0:=K0.trans am (fun x hlt hx=>aL x hx hlt);clear aq;replace hb:=hb.keep am aJ;replace a0:=a0.keep am aK;refine jG ?_;replace hM3:=hM3.kO am (Zf aB);refine jU rfl<|AA.mapUpdate (v:= .slice ab ((setM ml (Ab.d m)).length) ap) underlying92 underlying9 rfl rfl rfl rfl hM3 ?_;intro aS ar an;replace ar:At aS m3 (CX qs key (.slice ab ((setM ml (Ab.d m)).length) ap)):=ar;replace K0:=K0.trans an (fun x hlt hx=>(fun q_ h_ _=>Or.inr h_) x hx hlt);replace hM3:=ar;clear ar;refine El ?_;replace hM1:=(hM1.kO am (Zf aA)).kO an (fun q_ (e1_:q_=m1) (e2_:q_=m3)=>n5 (e1_.symm.trans e2_));replace hb:=hb.keep an (fun e_=>n3 e_);replace a0:=a0.keep an aH;replace a1:=a1.kO an aR;by_cases hh:o.isSome=true
 ·obtain⟨t,ho⟩:=Option.isSome_iff_exists.1 hh
  have hTt:=hTo t ho;have hRt:=hTt.1.kO K0 hTt.2.2;have hget2:BO ps key=some (Kc.kv t).2:=by rw[hget,ho];rfl
  have hovv:=hTt.2.1;refine jG ?_;refine jV (C7 (v':= .tuple #[.agg #[.slice t.s.ea t.v.ent.length t.s.ec,.slice t.s.ma t.v.mrk.length t.s.mc,.slice t.s.ca t.v.cl.length t.s.cc],.bool true]) (BA underlying90 underlying9 rfl ty33 rfl rfl hM1) (by rw[hget2];rfl)) ?_;refine jG ?_;refine jR<|jA ?_;intro bi bj a5 a3 ac;have bk:=Ak hb.lt a5;have bl:=Ak a0.lt a5;have aT:=An hM1.oL a5;have aU:=An hM3.oL a5;have aV:=An a1.oL a5;have aW:=An hRt.oL a5;have:=Aaa K0.size a5;clear a5;refine jR<|jS a3 ?_;intro bm a3 ad;replace K0:=K0.ext ac;replace K0:=K0.n1 ad;refine jG ?_;refine C4 ?_;refine Ai.drawS [10] [0,1,2,1003,4,1005,1006,2007,2008,2009,2010] ?_;intro bn a6;replace hb:=((hb.ext ac).kp ad).ext a6;replace a0:=((a0.ext ac).kp ad).ext a6;replace a3:=a3.ext a6;refine jM (jb hb (jb a0 (jb a3 Jn))) ?_;refine jG ?_;refine jU rfl<|jC (Dz m _) ?_;rintro _ bo ⟨rfl,a7⟩;replace hb:=hb.ext a7;replace a0:=a0.ext a7;replace a3:=a3.ext a7;refine jG ?_;replace hRt:=(((hRt.ext ac).kO ad (Aa aW)).ext a6).ext a7;refine jU rfl<|jC (Rs t.v t.s (AZ m) _ hRt hovv) ?_;rintro _ bp ⟨aX,rfl,aE,bq,aY,a8⟩;have hopr:=OR hovv aE;clear aY;replace hb:=hb.ext a8;replace a0:=a0.ext a8;replace a3:=a3.ext a8;refine jG ?_;refine jU rfl<|jC (Fs (Ax t.v (AZ m)) aX _ aE.r hopr.ok) ?_;rintro _ bs ⟨a2,rfl,au,bt,av,a9⟩;replace hM1:=((((hM1.ext ac).kO ad (Aa aT)).ext a6).ext a7).ext a8;have aZ:=Ah av hM1.oL;replace a1:=((((a1.ext ac).kO ad (Aa aV)).ext a6).ext a7).ext a8;have b0:=Ah av a1.oL;replace K0:=((K0.ext a6).ext a7).ext a8;have b1:=Bd K0.size av;clear av;replace hb:=hb.ext a9;replace a0:=a0.ext a9;replace a3:=a3.ext a9;refine jG ?_;replace hM1:=hM1.ext a9;refine jU rfl<|AA.mapUpdate (v:= .agg #[.slice a2.ea ((Ax t.v (AZ m)).ent.length) a2.ec,.slice a2.ma ((Ax t.v (AZ m)).mrk.length) a2.mc,.slice a2.ca ((Ax t.v (AZ m)).cl.length) a2.cc]) underlying90 underlying9 rfl rfl rfl rfl hM1 ?_;intro b2 aw ae;replace aw:At b2 m1 (CX ps key (.agg #[.slice a2.ea ((Ax t.v (AZ m)).ent.length) a2.ec,.slice a2.ma ((Ax t.v (AZ m)).mrk.length) a2.mc,.slice a2.ca ((Ax t.v (AZ m)).cl.length) a2.cc])):=aw;replace K0:=K0.ext a9;replace K0:=K0.trans ae (fun x hlt hx=>(fun q_ h_ _=>Or.inl h_) x hx hlt);replace hM1:=aw;clear aw;refine jG ?_;refine Ai.fin0 func105 rfl ?_;replace hM3:=((((((hM3.ext ac).kO ad (Aa aU)).ext a6).ext a7).ext a8).ext a9).kO ae (fun q_ h1 h2=>(fun q_ (e1_:q_=m1) (e2_:q_=m3)=>n5 (e1_.symm.trans e2_)) q_ h2 h1);replace hRt:=((hRt.ext a8).ext a9).kO ae (fun q_ h_ (e_:q_=m1)=>hTt.2.2 q_ h_ (Or.inl e_));replace a1:=(a1.ext a9).kO ae aQ;replace hb:=hb.keep ae (fun e_=>n2 e_);replace a0:=a0.keep ae aG;replace au:=au.kO ae aZ;exact⟨_,rfl,rfl,ab,ap,hM3,a1.sl,aD,.inr ⟨t,a2,ho,hM1,au.r,⟨hopr.ok,hopr.ent,au.ent.le_cap⟩,(fun q_ h_=>b1 q_ (cart_d q_ h_)),(fun q_ h_=>b0 q_ (cart_d q_ h_))⟩,K0⟩
 ·have ho:o=none:=by cases o with|none=>rfl|some _=>exact absurd rfl hh
  have hget2:BO ps key=none:=by rw[hget,ho];rfl
  refine jG ?_;refine jV (C7 (v':= .tuple #[.agg #[.slice none 0 0,.slice none 0 0,.slice none 0 0],.bool false]) (BA underlying90 underlying9 rfl ty33 rfl rfl hM1) (by rw[hget2];rfl)) ?_;refine jG ?_;refine jR<|jA ?_;intro bu bv af aF ax;have bw:=Ak hb.lt af;have bx:=Ak a0.lt af;have b3:=An hM1.oL af;have b4:=An hM3.oL af;have b5:=An a1.oL af;have:=Aaa K0.size af;clear af;refine jR<|jS aF ?_;intro bz aF ay;replace K0:=K0.ext ax;replace K0:=K0.n1 ay;refine jG ?_;refine Ai.condF rfl ?_;refine jG ?_;refine Ai.fin0 func105 rfl ?_;replace hM1:=(hM1.ext ax).kO ay (Aa b3);replace hM3:=(hM3.ext ax).kO ay (Aa b4);replace a1:=(a1.ext ax).kO ay (Aa b5);exact⟨_,rfl,rfl,ab,ap,hM3,a1.sl,aD,.inl ⟨ho,hM1⟩,K0⟩
end
end Go.Proofs.YtjkaicjmfgekjaaGreatDoor
