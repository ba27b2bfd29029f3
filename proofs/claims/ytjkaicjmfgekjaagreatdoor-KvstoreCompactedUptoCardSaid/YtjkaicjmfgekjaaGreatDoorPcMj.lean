/-
  Mj, Mk, Ml, Mm, Mn, Mo
-/
import Derived.Test.YtjkaicjmfgekjaaGreatDoorPcMe
set_option linter.all false
set_option maxRecDepth 100000
set_option maxHeartbeats 4000000
namespace Go.Proofs.YtjkaicjmfgekjaaGreatDoor
open Go.Proofs.Tryz
attribute [local irreducible] RD RS AB RL RA RT CB Ai AD DP Cx BI By Ca B6 DJ Cf itemsN BZ AQ Bl BL Gr AK A2 At BW Ar A7 Aw A6 EG AL AN Cv setM
section
attribute [local irreducible] CK
section
variable {ml :List Ab}{v:MV}{a b:AZ}{ms:List Ab}{cl:List Ah}
def V0 {n : Int} : (cl.filter (Ep a)).foldl (Tw b) n = if b = a then n else cl.foldl (Tw b) n := by
  induction cl generalizing n with
  | nil => simp
  | cons x cl ih =>
    rw [AbJ];by_cases hx : x.a = a
    · rw [if_neg (by simp [Ep, hx]), ih];split
      · rfl
      rename_i hb;rw [AaK, NX (λe => hb (e.symm.trans hx))]
    rw [if_pos (by simp [Ep, hx]), AaK, ih, AaK];split
    · rename_i hb; rw [NX (λe => hx (e.trans hb))]
    rfl
def topX_prune :E5 (ms.filter (Eo a)) (cl.filter (Ep a)) b=if b=a then 0 else E5 ms cl b:=by
 rw[E5,V0,E5];split
 ·rename_i e;rw[e];exact mkN_out
 rename_i e;rw[NY e]
def M6 {b : AZ} : ∀ {ml : List Ab} {v : MV}, E5 (Ap ml v).mrk (Ap ml v).cl b = 0 \/ E5 (Ap ml v).mrk (Ap ml v).cl b = E5 v.mrk v.cl b
  | [], v => .inr rfl
  | m :: l, v => by
    have e : E5 (Au v (AX m)).mrk (Au v (AX m)).cl b = if b = AX m then 0 else E5 v.mrk v.cl b := topX_prune
    rcases M6 (ml := l) (v := Au v (AX m)) (b := b) with h | h
    · exact .inl h
    rw [e] at h;split at h
    · exact .inl h
    exact .inr h
def cleanN_iff :Cw ml v=0↔∀m∈ml,¬m.count<E5 v.mrk v.cl (AX m):=by
 unfold Cw;split
 ·rename_i h;rw[Abj]at h;obtain⟨m,hm,h⟩:=h;constructor
  ·intro e;cases e
  intro e;exact absurd (by simpa using h) (e m hm)
 rename_i h;rw[Abj]at h;exact⟨λ_ m hm c=>h ⟨m,hm,by simpa using c⟩,λ_=>rfl⟩
def N1 (hM:∀m∈ml,AD (Ab.d m))(h:Cw ml v=0):Cw ml (Ap ml v)=0:=by
 rw[cleanN_iff]at h⊢;intro m hm;have h1:=h m hm;have h2:=hM m hm;simp only[AD,Ab.d]at h2;rcases M6 (ml:=ml) (v:=v) (b:=AX m)with e|e<;>rw[e]<;>omega
def prune_prune :Au (Au v a) a=Au v a:=by
 unfold Au;simp only[AbX,Bool.and_self]
def prune_comm :Au (Au v a) b=Au (Au v b) a:=by
 unfold Au;simp only[AbX,Bool.and_comm]
def M7 (h:Ez v.ent):Ez (Au v a).ent:=λx hx=>h x (List.mem_filter.1 hx).1
def M8 (k:IY v):IY (Au v a):=⟨Aaa (AaX ..) k.ent,Aaa (AaX ..) k.mrk,Aaa (AaX ..) k.cl,Aal _,Aal _,Aal _⟩
def DH {m:Ab}{l:List Ab}:Ap (m::l) v=Ap l (Au v (AX m)):=rfl
attribute [local irreducible] Au Ap
def clean_nil :Ap [] v=v:=by with_unfolding_all rfl
def clean_prune :Au (Ap ml v) a=Ap ml (Au v a):=by
 induction ml generalizing v with
 |nil=>rw[clean_nil,clean_nil]
 |cons m l ih=>rw[DH,ih,DH,prune_comm]
def TG {m : Ab} (h : m ∈ ml) : Au (Ap ml v) (AX m) = Ap ml v := by
  induction ml generalizing v with
  | nil => cases h
  | cons x l ih =>
    rw [DH];rcases List.mem_cons.1 h with rfl | h
    · rw [clean_prune, prune_prune]
    exact ih h
def TH (h : ∀ m ∈ ml, Au v (AX m) = v) : Ap ml v = v := by
  induction ml with
  | nil => exact clean_nil
  | cons x l ih =>
    rw [DH, h x AaC];exact ih λm hm => h m (Aau _ hm)
def clean_clean :Ap ml (Ap ml v)=Ap ml v:=TH λ_=>TG
def M9 (h:Ez v.ent)(k:IY v):Ez (Ap ml v).ent/\IY (Ap ml v):=by
 induction ml generalizing v with
 |nil=>rw[clean_nil];exact⟨h,k⟩
 |cons x l ih=>rw[DH];exact ih (M7 h) (M8 k)
end
structure FE (s:KF):Prop where
 c:∀key v,s.c key=some v->AK key=true
 h:∀x,s.h x->(0<=x.owner/\x.owner<8)/\AK x.key=true
def FE.app {s : KF} {r : BM} (h : FE s) (hr : Kn s r) : FE (Dz s r) := by
  cases r with
  | o n => exact ⟨h.c, h.h⟩
  | j key v =>
    refine ⟨λk u hk => ?_, h.h⟩;by_cases e : k = key
    · rw [e]; exact hr.1
    exact h.c k u (by rw [<- hk]; exact (BT e).symm)
  | d key =>
    refine ⟨λk u hk => ?_, h.h⟩;by_cases e : k = key
    · rw [e]; exact hr
    exact h.c k u (by rw [<- hk]; exact (BT e).symm)
  | h x => exact ⟨h.c, λy hy => hy.elim (λe => e ▸ hr) (h.h y)⟩
  | u x => exact ⟨h.c, λy hy => h.h y hy.2⟩
  | r key m =>
    refine ⟨λk u hk => ?_, h.h⟩;by_cases e : k = key
    · rw [e]; exact hr.1
    exact h.c k u (by rw [<- hk]; exact (BT e).symm)
def Gl (w:World)(b d:Nat)(Z:Nat->Prop)(pl:List PF)(s:KF)(w':World):Prop:=
 ∃(Z':Nat->Prop) (pl':List PF) (s':KF),GQ w' b d Z' pl' s'/\AR w Z Z'/\Ae Z w w'/\((s'=s/\pl'=pl)\/∃r,Kn s r/\s'.st=s.st/\s'=Dz s r/\pl'=(Aw 4194304 pl (encK r)).2)
section
variable {w w':World}{b d lg m1 m2 m3:Nat}{F F' Z S:Nat->Prop}{st:Int}{pl pl':List PF}{ts ts':List Kc}{ks ks':List Km}{hs hs':List AE}{s:KF}{key:ByteArray}
def TI {κ:Type}[DecidableEq κ]{ps:List (κ×Value)}{k:κ}(h:BU ps k=none):∀p∈ps,p.1≠k:=by
 intro p hp e;rw[BU,Option.map_eq_none_iff,Abf]at h;exact h p hp (by simpa using e.symm)
def Gm (h:H7 w b d lg m1 m2 m3 F pl st ts ks hs):(ts.map λy=>(Kc.kv y).1).Nodup:=by
 have:=h.mc.nodup;rw[Aat]at this;exact this
def LH (h:H7 w b d lg m1 m2 m3 F pl st ts ks hs):(ks.map λy=>(Km.kv y).1).Nodup:=by
 have:=h.mm.nodup;rw[Aat]at this;exact this
def IS (h:H7 w b d lg m1 m2 m3 F pl st ts ks hs):(hs.map λy=>(Ju y).1).Nodup:=by
 have:=h.mh.nodup;rw[Aat]at this;exact this
def H7.lookC (h : H7 w b d lg m1 m2 m3 F pl st ts ks hs) (T : Ds s st ts ks hs) (key : ByteArray) : ∃ o : Option Kc, BU (ts.map Kc.kv) key = o.map (λt => (Kc.kv t).2) /\ (∀ t, o = some t -> t ∈ ts /\ t.key = key) /\ s.c key = o.map (·.v) := by
  cases e : BU (ts.map Kc.kv) key with
  | none =>
    refine ⟨none, rfl, λt ht => (nomatch ht), ?_⟩;cases hc : s.c key with
    | none => rfl
    | some v =>
      obtain ⟨t, ht, hk, -⟩ := (T.c key v).1 hc;exact absurd hk (TI e _ (List.mem_map.2 ⟨t, ht, rfl⟩))
  | some v =>
    obtain ⟨t, ht, hk, hv⟩ := Sg e;refine ⟨some t, by rw [<- hv]; rfl, λt' ht' => ?_, ?_⟩
    · obtain rfl := Option.some.inj ht'; exact ⟨ht, hk⟩
    exact (T.c key t.v).2 ⟨t, ht, hk, rfl⟩
def H7.lookM (h:H7 w b d lg m1 m2 m3 F pl st ts ks hs)(T:Ds s st ts ks hs)(key:ByteArray):∃(ma:Option Addr) (mc:Nat),(BU (ks.map Km.kv) key).getD (.slice none 0 0)= .slice ma (s.m key).length mc/\Ax w ma (s.m key)/\(∀x,ma=some x->s.m key≠ []->¬Cn b m1 m2 m3 F x.block)/\(s.m key).Pairwise BI/\(∀x∈s.m key,AD (Ab.d x))/\(s.m key).length<=1000:=by
 rcases T.m key with⟨k,hk,rfl,e⟩|⟨hno,e⟩
 ·obtain⟨h1,h2,h3,h4,h5⟩:=h.mark k hk;refine⟨k.a,k.c,?_,e▸h1,e▸h2,e▸h3,e▸h4,e▸h5.1⟩;have:=TE (kv:=Km.kv) (LH h) hk
  rw[show(Km.kv k).1=k.key from rfl]at this;rw[this,e];rfl
 rw[e];refine⟨none,0,?_,Ax.nil _ _,λx hx=>(nomatch hx),List.Pairwise.nil,λx hx=>(nomatch hx),Aal _⟩;rw[QS (kv:=Km.kv) (λy hy=>hno y hy)];rfl
def Ds.same (T:Ds s st ts ks hs):Ds s st ts ks hs:=T
def Ds.put {x:Kc}(T:Ds s st ts ks hs)(hx:∀y,y∈ts'↔y=x\/(y∈ts/\y.key≠x.key)):Ds ⟨s.st,Dy s.c x.key (some x.v),s.m,s.h⟩ st ts' ks hs:=by
 refine⟨T.st,λkey v=> ?_,T.m,T.h⟩;show Dy s.c x.key (some x.v) key=some v↔_
 by_cases e:key=x.key
 ·subst e;rw[BD];constructor
  ·intro h;exact⟨x,(hx x).2 (.inl rfl),rfl,Option.some.inj h⟩
  rintro⟨t,ht,hk,rfl⟩;rcases (hx t).1 ht with rfl|⟨-,hne⟩
  ·rfl
  exact absurd hk hne
 rw[BT e,T.c];constructor
 ·rintro⟨t,ht,hk,hv⟩;exact⟨t,(hx t).2 (.inr ⟨ht,λe2=>e (hk.symm.trans e2)⟩),hk,hv⟩
 rintro⟨t,ht,hk,hv⟩;rcases (hx t).1 ht with rfl|⟨h,-⟩
 ·exact absurd hk.symm e
 exact⟨t,h,hk,hv⟩
def Ds.del (T:Ds s st ts ks hs)(hx:∀y,y∈ts'↔y∈ts/\y.key≠key):Ds ⟨s.st,Dy s.c key none,s.m,s.h⟩ st ts' ks hs:=by
 refine⟨T.st,λk v=> ?_,T.m,T.h⟩;show Dy s.c key none k=some v↔_
 by_cases e:k=key
 ·subst e;rw[BD];constructor
  ·intro h;cases h
  rintro⟨t,ht,hk,-⟩;exact absurd hk ((hx t).1 ht).2
 rw[BT e,T.c];constructor
 ·rintro⟨t,ht,hk,hv⟩;exact⟨t,(hx t).2 ⟨ht,λe2=>e (hk.symm.trans e2)⟩,hk,hv⟩
 rintro⟨t,ht,hk,hv⟩;exact⟨t,((hx t).1 ht).1,hk,hv⟩
end
end
section
attribute [local irreducible] CK Au Ap
section
variable {w w':World}{b d lg m1 m2 m3:Nat}{F F' Z S:Nat->Prop}{st:Int}{pl pl':List PF}{ts ts':List Kc}{ks ks':List Km}{hs hs':List AE}{s:KF}{key:ByteArray}
def Gl.none {Z':Nat->Prop}(h:GQ w' b d Z' pl s)(hm:AR w Z Z')(k:Ae Z w w'):Gl w b d Z pl s w':=⟨Z',pl,s,h,hm,k,.inl ⟨rfl,rfl⟩⟩
def Dd {q:Nat}(h:Cn b m1 m2 m3 F q):Fc b lg m1 m2 m3 F ts ks q:= .inl h
def iE (h:GQ w b d Z pl s)(hL:A5 w){v:MV}{sx:Gc}(hks:key.size<=4294967295)(hR:Bi w sx v)(hok:Bn v sx)(hap:∀q,BS sx v q->¬Z q)(happ:∀r,Kn s r->(Aw 4194304 pl (encK r)).1=0):
  Calls prog 9 #[jp b,.string key,.agg #[.slice sx.ea v.ent.length sx.ec,.slice sx.ma v.mrk.length sx.mc,.slice sx.ca v.cl.length sx.cc]] w (AU λ_ w'=>Gl w b d Z pl s w'):=by
 obtain⟨lg,m1,m2,m3,F,st,ts,ks,hs,rfl,H,T⟩:=h;have hL7:7<=w.heap.size:=hL.size;obtain⟨o,hget,ho,hco⟩:=H.lookC T key;obtain⟨ma,mc,hgm,hms,hapM,hsort,hmay,hlen⟩:=H.lookM T key;obtain⟨n1,n2,n3,n4,n5,n6,n7,n8,n9,n10⟩:=H.ne;obtain⟨f1,f2,f3,f4,f5⟩:=H.nf;have hft:∀q,F q\/(q=b\/q=m1)->Cn b m1 m2 m3 F q:=λq hq=>hq.imp id λe=>e.imp id .inl
 have happ':AK key=true->Dr v=0->Cw (s.m key) v=0->wN (o.map (·.v)) (Ap (s.m key) v)=0->Kn s (.j key (Ap (s.m key) v)):=λx1 x2 x3 x4=>by
  obtain⟨y1,y2⟩:=M9 (ml:=s.m key) hok.ent hok.ok;refine⟨x1,GH x2,y1,y2,N1 hmay x3,?_⟩;rw[clean_clean,hco];exact x4
 refine(ZN b lg m1 m2 m3 d F st pl _ o _ ma (s.m key) mc key v sx w hks H.blk H.log H.disk H.mc H.mm hgm hms hlen (λx hx hn e=>hapM x hx hn (hft _ e)) hL (λq hq=>H.ge q (.inl hq)) (H.ge b (.inr (.inl rfl))) (H.ge m1 (.inr (.inr (.inl rfl)))) n1 n2 n4 n5 n9 f1 f2 f3 f5 hget
  (λt ht=>⟨(H.cart t (ho t ht).1).1,(H.cart t (ho t ht).1).2.1,λq hq e=>(H.cart t (ho t ht).1).2.2 q hq (hft q e)⟩) hR hok (λq hq e=>hap q hq (Dd (hft q e))) (λx1 x2 x3 x4=>happ _ (happ' x1 x2 x3 x4))).mono λe w' hh=> ?_
 obtain⟨r,rfl,hb,K,hcase⟩:=hh;refine⟨r,rfl,?_⟩;have K':Ae (Cn b m1 m2 m3 F) w w':=K.mono λq _ hq=>hft q hq
 have KZ:Ae (Fc b lg m1 m2 m3 F ts ks) w w':=K'.mono λq _ hq=>Dd hq
 have hMh:Aq w' m2 (hs.map Ju):=H.mh.kO K λq (e:q=m2) (hq:F q\/(q=b\/q=m1))=>by subst e;rcases hq with x|x|x<;>first|exact f4 x|omega
 have hMm:Aq w' m3 (ks.map Km.kv):=H.mm.kO K λq (e:q=m3) (hq:F q\/(q=b\/q=m1))=>by subst e;rcases hq with x|x|x<;>first|exact f5 x|omega
 rcases hcase with⟨hD,hM⟩|⟨x1,x2,x3,x4,F',s2,hD,hm,hR2,hok2,hg,hF,hM⟩
 ·obtain⟨a,c⟩:=H.step hL7 K' hb hD (AR.refl w F) hM hMh hMm (λt ht=> .inl ht) (λx hx=> .inl hx);exact Gl.none ⟨lg,m1,m2,m3,F,st,ts,ks,hs,rfl,a,T⟩ c KZ
 obtain⟨ts',e,hts⟩:=DO (kv:=Kc.kv) (x:=⟨key,_,s2⟩) (Gm H);have hM':Aq w' m1 (ts'.map Kc.kv):=e▸hM;obtain⟨a,c⟩:=H.step hL7 K' hb hD hm hM' hMh hMm (λt ht=>((hts t).1 ht).elim (λe=> .inr (e▸⟨hR2,hok2,hg,hF⟩)) (λe=> .inl e.1)) (λx hx=> .inl hx);have T':=T.put hts;refine⟨_,_,Dz s (.j key (Ap (s.m key) v)),⟨lg,m1,m2,m3,F',st,ts',ks,hs,rfl,a,?_⟩,c,KZ,.inr ⟨_,happ' x1 x2 x3 x4,rfl,rfl,rfl⟩⟩;rw[Dz,clean_clean,hco];exact T'
def Yq (h:GQ w b d Z pl s)(hG:FE s)(hL:A5 w)(happ:∀r,Kn s r->(Aw 4194304 pl (encK r)).1=0):
  Calls prog 46 #[jp b,.string key] w (AU λ_ w'=>Gl w b d Z pl s w'):=by
 obtain⟨lg,m1,m2,m3,F,st,ts,ks,hs,rfl,H,T⟩:=h;have hL7:7<=w.heap.size:=hL.size;obtain⟨o,hget,ho,hco⟩:=H.lookC T key;obtain⟨n1,n2,n3,n4,n5,n6,n7,n8,n9,n10⟩:=H.ne;obtain⟨f1,f2,f3,f4,f5⟩:=H.nf;have hft:∀q,F q\/(q=b\/q=m1)->Cn b m1 m2 m3 F q:=λq hq=>hq.imp id λe=>e.imp id .inl
 have hnm:o.isSome=true->AK key=true:=λhx=>by
  obtain⟨t,ht⟩:=Option.isSome_iff_exists.1 hx;exact hG.c key t.v (by rw[hco,ht];rfl)
 refine(XN b lg m1 m2 m3 d F st pl _ o key w (λhx=>Bc (hnm hx)) H.blk H.log H.disk H.mc hL (λq hq=>H.ge q (.inl hq)) (H.ge b (.inr (.inl rfl))) (H.ge m1 (.inr (.inr (.inl rfl)))) n1 n2 n4 n5 n9 f1 f2 f3 f5 hget
  (λt ht=>⟨(H.cart t (ho t ht).1).1,(H.cart t (ho t ht).1).2.1,λq hq e=>(H.cart t (ho t ht).1).2.2 q hq (hft q e)⟩) (λhx=>happ (.d key) (hnm hx))).mono λe w' hh=> ?_
 obtain⟨r,rfl,hb,K,hcase⟩:=hh;refine⟨r,rfl,?_⟩;have K':Ae (Cn b m1 m2 m3 F) w w':=K.mono λq _ hq=>hft q hq
 have KZ:Ae (Fc b lg m1 m2 m3 F ts ks) w w':=K'.mono λq _ hq=>Dd hq
 have hMh:Aq w' m2 (hs.map Ju):=H.mh.kO K λq (e:q=m2) (hq:F q\/(q=b\/q=m1))=>by subst e;rcases hq with x|x|x<;>first|exact f4 x|omega
 have hMm:Aq w' m3 (ks.map Km.kv):=H.mm.kO K λq (e:q=m3) (hq:F q\/(q=b\/q=m1))=>by subst e;rcases hq with x|x|x<;>first|exact f5 x|omega
 rcases hcase with⟨hD,hM⟩|⟨hx,F',hD,hm,hM⟩
 ·obtain⟨a,c⟩:=H.step hL7 K' hb hD (AR.refl w F) hM hMh hMm (λt ht=> .inl ht) (λx hx=> .inl hx);exact Gl.none ⟨lg,m1,m2,m3,F,st,ts,ks,hs,rfl,a,T⟩ c KZ
 obtain⟨ts',e,hts⟩:=Hy (kv:=Kc.kv) (key:=key) (Gm H);have hM':Aq w' m1 (ts'.map Kc.kv):=e▸hM;obtain⟨a,c⟩:=H.step hL7 K' hb hD hm hM' hMh hMm (λt ht=> .inl ((hts t).1 ht).1) (λx hx=> .inl hx);exact⟨_,_,Dz s (.d key),⟨lg,m1,m2,m3,F',st,ts',ks,hs,rfl,a,T.del hts⟩,c,KZ,.inr ⟨.d key,hnm hx,rfl,rfl,rfl⟩⟩
def Ds.hint (T:Ds s st ts ks hs){P:AE->Prop}(hx:∀y,P y↔y∈hs'):Ds ⟨s.st,s.c,s.m,P⟩ st ts ks hs':=⟨T.st,T.c,T.m,hx⟩
def H7.lookH (h : H7 w b d lg m1 m2 m3 F pl st ts ks hs) (T : Ds s st ts ks hs) (x : AE) : ∃ th : Bool, BU (hs.map Ju) x = (if th = true then some (.agg #[]) else none) /\ (th = true -> s.h x) := by
  cases e : BU (hs.map Ju) x with
  | none => exact ⟨false, rfl, λh => nomatch h⟩
  | some v =>
    obtain ⟨y, hy, hk, hv⟩ := Sg e;refine ⟨true, by rw [<- hv]; rfl, λ_ => (T.h x).2 ?_⟩;rw [<- show y = x from hk]; exact hy
def Na (H:H7 w b d lg m1 m2 m3 F pl st ts ks hs)(T:Ds s st ts ks hs)(hL7:7<=w.heap.size){r:BM}{ps':List (AE×Value)}{ok:Prop}(hb:AC w' b [.int .i32 0,.int .u32 0,jp lg,.int .i64 st,.map (some m1),.map (some m2),.map (some m3)] 94)(K:Ae (λq_=>F q_\/(q_=b\/q_=m2)) w w')
  (hcase:(AJ w' d F 4194304 pl/\Aq w' m2 (hs.map Ju))\/(ok/\∃F',AJ w' d F' 4194304 (Aw 4194304 pl (encK r)).2/\AR w F F'/\Aq w' m2 ps')) (hr:ok->Kn s r) (hst:(Dz s r).st=s.st) (hps:∃hs',ps'=hs'.map Ju/\Ds (Dz s r) st ts ks hs'):Gl w b d (Fc b lg m1 m2 m3 F ts ks) pl s w':=by
 obtain⟨n1,n2,n3,n4,n5,n6,n7,n8,n9,n10⟩:=H.ne;obtain⟨f1,f2,f3,f4,f5⟩:=H.nf;have hft:∀q,F q\/(q=b\/q=m2)->Cn b m1 m2 m3 F q:=λq hq=>hq.imp id λe=>e.imp id λe=> .inr (.inl e)
 have K':Ae (Cn b m1 m2 m3 F) w w':=K.mono λq _ hq=>hft q hq
 have KZ:Ae (Fc b lg m1 m2 m3 F ts ks) w w':=K'.mono λq _ hq=>Dd hq
 have hMc:Aq w' m1 (ts.map Kc.kv):=H.mc.kO K λq (e:q=m1) (hq:F q\/(q=b\/q=m2))=>by subst e;rcases hq with x|x|x<;>first|exact f3 x|omega
 have hMm:Aq w' m3 (ks.map Km.kv):=H.mm.kO K λq (e:q=m3) (hq:F q\/(q=b\/q=m2))=>by subst e;rcases hq with x|x|x<;>first|exact f5 x|omega
 rcases hcase with⟨hD,hM⟩|⟨hx,F',hD,hm,hM⟩
 ·obtain⟨a,c⟩:=H.step hL7 K' hb hD (AR.refl w F) hMc hM hMm (λt ht=> .inl ht) (λx hx=> .inl hx);exact Gl.none ⟨lg,m1,m2,m3,F,st,ts,ks,hs,rfl,a,T⟩ c KZ
 obtain⟨hs',rfl,T'⟩:=hps;obtain⟨a,c⟩:=H.step hL7 K' hb hD hm hMc hM hMm (λt ht=> .inl ht) (λx hx=> .inl hx);exact⟨_,_,Dz s r,⟨lg,m1,m2,m3,F',st,ts,ks,hs',rfl,a,T'⟩,c,KZ,.inr ⟨r,hr hx,hst,rfl,rfl⟩⟩
def Yr {x:AE}(h:GQ w b d Z pl s)(hL:A5 w)(hks:x.key.size<=4294967295)(happ:∀r,Kn s r->(Aw 4194304 pl (encK r)).1=0):
  Calls prog 47 #[jp b,.agg #[.int .i64 x.owner,.string x.key]] w (AU λ_ w'=>Gl w b d Z pl s w'):=by
 obtain⟨lg,m1,m2,m3,F,st,ts,ks,hs,rfl,H,T⟩:=h;have hL7:7<=w.heap.size:=hL.size;obtain⟨th,hget,hth⟩:=H.lookH T x;obtain⟨n1,n2,n3,n4,n5,n6,n7,n8,n9,n10⟩:=H.ne;obtain⟨f1,f2,f3,f4,f5⟩:=H.nf;refine(XO b lg m1 m2 m3 d F st pl _ th x w hks H.blk H.log H.disk H.mh hL (λq hq=>H.ge q (.inl hq)) (H.ge b (.inr (.inl rfl))) (H.ge m2 (.inr (.inr (.inr (.inl rfl))))) n1 n3 n6 f1 f2 f4 hget (λx1 x2=>happ (.h x) ⟨x1,x2⟩)).mono λe w' hh=> ?_;obtain⟨r,rfl,hb,K,hcase⟩:=hh;refine⟨r,rfl,Na (r:= .h x) (ok:=Kn s (.h x)) H T hL7 hb K (hcase.imp id λ⟨y1,y2,y3⟩=>⟨⟨y1,y2⟩,y3⟩) (λe=>e) rfl ?_⟩;obtain⟨hs',e,hhs⟩:=DO (kv:=Ju) (x:=x) (IS H);refine⟨hs',e,T.hint λy=> ?_⟩;rw[hhs,T.h];by_cases c:y=x
 ·simp[c]
 exact⟨λk=> .inr ⟨k.resolve_left c,c⟩,λk=> .inr (k.resolve_left c).1⟩
def Sh {x:AE}(h:GQ w b d Z pl s)(hG:FE s)(hL:A5 w)(happ:∀r,Kn s r->(Aw 4194304 pl (encK r)).1=0):
  Calls prog 48 #[jp b,.agg #[.int .i64 x.owner,.string x.key]] w (AU λ_ w'=>Gl w b d Z pl s w'):=by
 obtain⟨lg,m1,m2,m3,F,st,ts,ks,hs,rfl,H,T⟩:=h;have hL7:7<=w.heap.size:=hL.size;obtain⟨th,hget,hth⟩:=H.lookH T x;obtain⟨n1,n2,n3,n4,n5,n6,n7,n8,n9,n10⟩:=H.ne;obtain⟨f1,f2,f3,f4,f5⟩:=H.nf;have hok:th=true->Kn s (.u x):=λe=>hG.h x (hth e)
 refine(TF b lg m1 m2 m3 d F st pl _ th x w (λe=>⟨Bc (hok e).2,(hok e).1⟩) H.blk H.log H.disk H.mh hL (λq hq=>H.ge q (.inl hq)) (H.ge b (.inr (.inl rfl))) (H.ge m2 (.inr (.inr (.inr (.inl rfl))))) n1 n3 n6 f1 f2 f4 hget (λe=>happ (.u x) (hok e))).mono λe w' hh=> ?_;obtain⟨r,rfl,hb,K,hcase⟩:=hh;refine⟨r,rfl,Na (r:= .u x) H T hL7 hb K hcase hok rfl ?_⟩;obtain⟨hs',e,hhs⟩:=Hy (kv:=Ju) (key:=x) (IS H);refine⟨hs',e,T.hint λy=> ?_⟩;rw[hhs,T.h];exact and_comm
def Ds.mark {x:Km}(T:Ds s st ts ks hs)(hx:∀y,y∈ks'↔y=x\/(y∈ks/\y.key≠x.key)):Ds ⟨s.st,s.c,Dy s.m x.key x.l,s.h⟩ st ts ks' hs:=by
 refine⟨T.st,T.c,λk=> ?_,T.h⟩;show(∃y∈ks',y.key=k/\Dy s.m x.key x.l k=y.l)\/((∀y∈ks',y.key≠k)/\Dy s.m x.key x.l k=[])
 by_cases e:k=x.key
 ·subst e;rw[BD];exact .inl ⟨x,(hx x).2 (.inl rfl),rfl,rfl⟩
 rw[BT e];rcases T.m k with⟨y,hy,hk,h⟩|⟨hno,h⟩
 ·exact .inl ⟨y,(hx y).2 (.inr ⟨hy,λe2=>e (hk.symm.trans e2)⟩),hk,h⟩
 refine .inr ⟨λy hy=> ?_,h⟩;rcases (hx y).1 hy with rfl|⟨hy,-⟩
 ·exact λe2=>e e2.symm
 exact hno y hy
def iF {m:Ab}(h:GQ w b d Z pl s)(hL:A5 w)(hks:key.size<=4294967295)(hm9:∀k,(s.m k).length<1000)(happ:∀r,Kn s r->(Aw 4194304 pl (encK r)).1=0):
  Calls prog 49 #[jp b,.string key,.agg #[.int .i64 m.node,.int .i64 m.life,.int .i64 m.count]] w (AU λ_ w'=>Gl w b d Z pl s w'):=by
 obtain⟨lg,m1,m2,m3,F,st,ts,ks,hs,rfl,H,T⟩:=h;have hL7:7<=w.heap.size:=hL.size;obtain⟨o,hget,ho,hco⟩:=H.lookC T key;obtain⟨ma,mc,hgm,hms,hapM,hsort,hmay,hlen⟩:=H.lookM T key;obtain⟨n1,n2,n3,n4,n5,n6,n7,n8,n9,n10⟩:=H.ne;obtain⟨f1,f2,f3,f4,f5⟩:=H.nf;have hft:∀q,F q\/(q=b\/(q=m1\/q=m3))->Cn b m1 m2 m3 F q:=λq hq=>hq.imp id λe=>e.imp id λe=>e.imp id .inr
 have hok:AK key=true->AD (Ab.d m)->(∀x∈s.m key,AX x≠AX m)->Kn s (.r key m):=λx1 x2 x3=>⟨x1,x2,x3,hm9 key⟩
 refine(ZO b lg m1 m2 m3 d F st pl _ o _ ma (s.m key) mc key m w hks H.blk H.log H.disk H.mc H.mm hgm hms hlen (λx hx hn e=>hapM x hx hn (hft _ e)) (H.ge m3 (.inr (.inr (.inr (.inr rfl))))) n7 hsort hmay (hm9 key) hL (λq hq=>H.ge q (.inl hq)) (H.ge b (.inr (.inl rfl))) (H.ge m1 (.inr (.inr (.inl rfl)))) n1 n2 n4 n5 n9 f1 f2 f3 f5 hget
  (λt ht=>⟨(H.cart t (ho t ht).1).1,(H.cart t (ho t ht).1).2.1,λq hq e=>(H.cart t (ho t ht).1).2.2 q hq (hft q e)⟩) (λx1 x2 x3=>happ _ (hok x1 x2 x3))).mono λe w' hh=> ?_
 obtain⟨r,rfl,hb,K,hcase⟩:=hh;refine⟨r,rfl,?_⟩;have K':Ae (Cn b m1 m2 m3 F) w w':=K.mono λq _ hq=>hft q hq
 have KZ:Ae (Fc b lg m1 m2 m3 F ts ks) w w':=K'.mono λq _ hq=>Dd hq
 have hMh:Aq w' m2 (hs.map Ju):=H.mh.kO K λq (e:q=m2) (hq:F q\/(q=b\/(q=m1\/q=m3)))=>by subst e;rcases hq with x|x|x|x<;>first|exact f4 x|omega
 rcases hcase with⟨hD,hM,hMm⟩|⟨⟨x1,x2,x3⟩,F',a',c',hD,hm,hMm,hS,hga,hFa,hcs⟩
 ·obtain⟨a,c⟩:=H.step hL7 K' hb hD (AR.refl w F) hM hMh hMm (λt ht=> .inl ht) (λx hx=> .inl hx);exact Gl.none ⟨lg,m1,m2,m3,F,st,ts,ks,hs,rfl,a,T⟩ c KZ
 obtain⟨ks',e,hks'⟩:=DO (kv:=Km.kv) (x:=⟨key,a',c',setM (s.m key) (Ab.d m)⟩) (LH H);have hMm':Aq w' m3 (ks'.map Km.kv):=e▸hMm;have hnew:Ax w' a' (setM (s.m key) (Ab.d m))/\(∀q,own a' q->w.heap.size<=q)/\(∀q,own a' q->¬F' q)/\(setM (s.m key) (Ab.d m)).Pairwise BI/\(∀y∈setM (s.m key) (Ab.d m),AD (Ab.d y))/\(setM (s.m key) (Ab.d m)).length<=1000/\setM (s.m key) (Ab.d m)≠ []:=
  ⟨hS,hga,hFa,E1 hsort,λy hy=>(E0 hy).elim (λe=>e▸x2) (hmay y),Aaa (IG _ _) (hm9 key),Ko⟩
 have T1:=T.mark hks';rcases hcs with⟨rfl,hM⟩|⟨t,s',rfl,hM,hR',hok',hgd,hFd⟩
 ·obtain⟨a,c⟩:=H.step hL7 K' hb hD hm hM hMh hMm' (λt ht=> .inl ht) (λx hx=>((hks' x).1 hx).elim (λe=> .inr (e▸hnew)) (λe=> .inl e.1));refine⟨_,_,Dz s (.r key m),⟨lg,m1,m2,m3,F',st,ts,ks',hs,rfl,a,?_⟩,c,KZ,.inr ⟨_,hok x1 x2 x3,rfl,rfl,rfl⟩⟩;refine⟨T1.st,λk v=> ?_,T1.m,T1.h⟩;rw[<-T.c];show Dy s.c key _ k=some v↔_
  by_cases e:k=key
  ·subst e;rw[BD,hco];exact Iff.rfl
  rw[BT e]
 obtain⟨ts',e,hts⟩:=DO (kv:=Kc.kv) (x:=⟨key,Au t.v (AX m),s'⟩) (Gm H);have hM':Aq w' m1 (ts'.map Kc.kv):=e▸hM;obtain⟨a,c⟩:=H.step hL7 K' hb hD hm hM' hMh hMm' (λt ht=>((hts t).1 ht).elim (λe=> .inr (e▸⟨hR',hok',hgd,hFd⟩)) (λe=> .inl e.1)) (λx hx=>((hks' x).1 hx).elim (λe=> .inr (e▸hnew)) (λe=> .inl e.1));refine⟨_,_,Dz s (.r key m),⟨lg,m1,m2,m3,F',st,ts',ks',hs,rfl,a,?_⟩,c,KZ,.inr ⟨_,hok x1 x2 x3,rfl,rfl,rfl⟩⟩;have T2:=T1.put hts;rw[Dz,hco];exact T2
end
end
section
attribute [local irreducible] CK Au Ap Co
def Gn (b:Nat)(Z:Nat->Prop)(bs r:List UInt8)(x:UInt8)(n:Int)(w:World)(hrd:BK w b Z bs ([x]++r))(hx:(x.toNat:Int)=n):
  Calls prog 116 #[jp b] w (AU λv w'=>v= .tuple #[.int .i64 n,.int .i64 0]/\BK w' b Z bs r/\Ae Z w w'):=hx▸R8 b Z bs r x w hrd
attribute [local irreducible] X
def ZP (b lg m1 m2 m3:Nat)(lk st:Int)(n:Nat)(a9:Option Addr)(bs:List UInt8)(c9:Nat)(w:World)(hbs:bs=[UInt8.ofNat 1]++Al n)(hrc:Ax w a9 bs)(hb:AC w b [.int .i32 lk,.int .u32 0,jp lg,.int .i64 st,.map (some m1),.map (some m2),.map (some m3)] 94)(hn:n<4611686018427387904):
  Calls prog 60 #[jp b,.slice a9 bs.length c9] w (AU (λv_ w'=>v_= .bool true/\AC w' b [.int .i32 lk,.int .u32 0,jp lg,.int .i64 ((n:Nat):Int),.map (some m1),.map (some m2),.map (some m3)] 94/\Ae (one b) w w')):=by
 have hbs2:bs=[UInt8.ofNat 1]++(Al n++[]):=by rw[hbs];simp only[Aar,Aax]
 have hvl:=Bb (n:=n) Zo;have hbl:bs.length<=100:=by rw[hbs,Aab];have:([UInt8.ofNat 1]:List UInt8).length=1:=rfl;omega
 refine kD (n:=157) func60 ?_;refine kS (GG (bs:=bs) hrc Zo) ?_;rintro _ a4 ⟨a5,a1,rfl,a0,a2,a6⟩;replace a0:BK a4 a5 a1 bs ([UInt8.ofNat 1]++(Al n++[])):=(congrArg (λr_=>BK a4 a5 a1 bs r_) hbs2).mp a0;have a3:=Ay a2 hb.lt;have a7:∀q_,a1 q_->q_<w.heap.size->(one b) q_:=GY (Aac _) a2;clear a2;have K0:=(a6:As w _).to (S:=(one b));refine jG ?_;refine kS (Gn _ _ _ _ _ 1 _ a0 rfl) ?_;rintro _ al ⟨rfl,a8,aa⟩;replace K0:=K0.trans aa (λx hlt hx=>a7 x hx hlt);replace a0:=a8;clear a8;refine kG ?_;refine C8 ?_;refine jG ?_;refine kS (Js _ _ _ _ n _ a0 Zo) ?_;rintro _ am ⟨⟨an,ao,rfl,af,ag⟩,ab,ac⟩;clear ag;replace K0:=K0.trans ac (λx hlt hx=>a7 x hx hlt);replace a0:=ab;clear ab;refine kJ ?_;refine ET ?_;obtain⟨ap,aq,ah,ai,aj,ak⟩:=af.sl.el (i:=0) Zs;obtain rfl:((n:Nat):Int)=ah:=Option.some.inj ai;refine jV (AY underlying185 ty3 rfl rfl aj Zs) ?_;refine kE (B9 (v:= .int .i64 ((n:Nat):Int)) (y:=((n:Nat):Int)) ty3 rfl ak rfl) ?_;replace hb:=((hb.ext a6).keep aa a3).keep ac a3;refine jR<|jS hb ?_;intro ar hb ad;replace K0:=K0.tf ad rfl;refine jG ?_;replace a0:=a0.kO ad (Aa a3);refine jT<|jC (FP a0) ?_;rintro _ au ⟨rfl,ae⟩;refine jG ?_;refine kE (BP rfl rfl rfl) ?_;refine jJ func60 ?_;replace hb:=hb.ext ae;replace K0:=K0.ext ae;exact⟨_,rfl,rfl,hb,K0⟩
def ZQ (b lg m1 m2 m3:Nat)(lk st:Int)(ps:List (ByteArray×Value))(key:ByteArray)(a9:Option Addr)(bs:List UInt8)(c9:Nat)(w:World)(hbs:bs=[UInt8.ofNat 3]++AL key)(hrc:Ax w a9 bs)(hb:AC w b [.int .i32 lk,.int .u32 0,jp lg,.int .i64 st,.map (some m1),.map (some m2),.map (some m3)] 94)(hM1:Aq w m1 ps)(n2:b≠m1)(hnm:AK key=true):
  Calls prog 60 #[jp b,.slice a9 bs.length c9] w (AU (λv_ w'=>v_= .bool true/\Aq w' m1 (GV ps key)/\Ae (one m1) w w')):=by
 have hbs2:bs=[UInt8.ofNat 3]++(AL key++[]):=by rw[hbs];simp only[Aar,Aax]
 have htl:=CA (Bc hnm);have hbl:bs.length<=200:=by rw[hbs];simp only[Aab];have:([UInt8.ofNat 3]:List UInt8).length=1:=rfl;omega
 refine kD (n:=157) func60 ?_;refine kS (GG (bs:=bs) hrc Zo) ?_;rintro _ a8 ⟨aa,a3,rfl,a0,a1,a4⟩;replace a0:BK a8 aa a3 bs ([UInt8.ofNat 3]++(AL key++[])):=(congrArg (λr_=>BK a8 aa a3 bs r_) hbs2).mp a0;have ab:=Ay a1 hb.lt;have a5:=Ag a1 hM1.oL;have ac:∀q_,a3 q_->q_<w.heap.size->(one m1) q_:=GY (Aac _) a1;clear a1;have K0:=(a4:As w _).to (S:=(one m1));refine jG ?_;refine kS (Gn _ _ _ _ _ 3 _ a0 rfl) ?_;rintro _ ai ⟨rfl,ad,a6⟩;replace K0:=K0.trans a6 (λx hlt hx=>ac x hx hlt);replace a0:=ad;clear ad;refine kG ?_;refine Ai.condF rfl ?_;refine kG ?_;refine C8 ?_;refine jG ?_;refine kS (Pu _ _ _ _ key _ a0 hnm) ?_;rintro _ aj ⟨rfl,ae,a7⟩;replace K0:=K0.trans a7 (λx hlt hx=>ac x hx hlt);replace a0:=ae;clear ae;replace hb:=((hb.ext a4).keep a6 ab).keep a7 ab;refine jG ?_;replace hM1:=((hM1.ext a4).kO a6 (Zf a5)).kO a7 (Zf a5);refine jR<|AB.deleteMap underlying90 underlying9 rfl rfl rfl hM1 ?_;intro ah a2 af;replace a2:Aq ah m1 (GV ps key):=a2;replace K0:=K0.trans af (λx hlt hx=>(λq_ h_ _=>h_) x hx hlt);replace hM1:=a2;clear a2;refine jG ?_;replace a0:=a0.kO af a5;refine jT<|jC (FP a0) ?_;rintro _ ak ⟨rfl,ag⟩;refine jG ?_;refine kE (BP rfl rfl rfl) ?_;refine jJ func60 ?_;replace hM1:=hM1.ext ag;replace K0:=K0.ext ag;exact⟨_,rfl,rfl,hM1,K0⟩
def ZR (b lg m1 m2 m3:Nat)(lk st:Int)(hps:List (AE×Value))(n:Nat)(key:ByteArray)(a9:Option Addr)(bs:List UInt8)(c9:Nat)(w:World)(hbs:bs=([UInt8.ofNat 4]++Al n)++AL key)(hrc:Ax w a9 bs)(hb:AC w b [.int .i32 lk,.int .u32 0,jp lg,.int .i64 st,.map (some m1),.map (some m2),.map (some m3)] 94)(hM2:Aq w m2 hps)(n3:b≠m2)(hn:n<8)(hnm:AK key=true):
  Calls prog 60 #[jp b,.slice a9 bs.length c9] w (AU (λv_ w'=>v_= .bool true/\Aq w' m2 (C7 hps (⟨((n:Nat):Int),key⟩:AE) (.agg #[]))/\Ae (one m2) w w')):=by
 have hbs2:bs=[UInt8.ofNat 4]++(Al n++(AL key++[])):=by rw[hbs];simp only[Aar,Aax]
 have htl:=CA (Bc hnm);have hvl:=Bb (n:=n) Zo;have hbl:bs.length<=200:=by rw[hbs];simp only[Aab];have:([UInt8.ofNat 4]:List UInt8).length=1:=rfl;omega
 refine kD (n:=157) func60 ?_;refine kS (GG (bs:=bs) hrc Zo) ?_;rintro _ aj ⟨ak,ad,rfl,a0,a6,ae⟩;replace a0:BK aj ak ad bs ([UInt8.ofNat 4]++(Al n++(AL key++[]))):=(congrArg (λr_=>BK aj ak ad bs r_) hbs2).mp a0;have af:=Ay a6 hb.lt;have a7:=Ag a6 hM2.oL;have ag:∀q_,ad q_->q_<w.heap.size->(one m2) q_:=GY (Aac _) a6;clear a6;have K0:=(ae:As w _).to (S:=(one m2));refine jG ?_;refine kS (Gn _ _ _ _ _ 4 _ a0 rfl) ?_;rintro _ aF ⟨rfl,al,ah⟩;replace K0:=K0.trans ah (λx hlt hx=>ag x hx hlt);replace a0:=al;clear al;refine kG ?_;refine Ai.condF rfl ?_;refine kG ?_;refine kH ?_;refine C8 ?_;refine kI ?_;refine kS (Js _ _ _ _ n _ a0 Zo) ?_;rintro _ aG ⟨⟨aH,aI,rfl,a1,am⟩,an,ai⟩;have av:=Ag am a0.oL;clear am;replace K0:=K0.trans ai (λx hlt hx=>ag x hx hlt);replace a0:=an;clear an;refine Ii ?_;refine ET ?_;refine jV (Bp (b:=true) rfl) ?_;refine ET ?_;obtain⟨aJ,aK,aw,ao,ax,ay⟩:=a1.sl.el (i:=0) Zs;obtain rfl:((n:Nat):Int)=aw:=Option.some.inj ao;refine jT<|jO (AY underlying185 ty3 rfl rfl ax Zs) ?_;refine jT<|jO (B9 (v:= .int .i64 ((n:Nat):Int)) (y:=((n:Nat):Int)) ty3 rfl ay rfl) ?_;refine jT<|jC (LG ((n:Nat):Int) _) ?_;rintro _ aL ⟨rfl,a3⟩;refine jG ?_;refine kE (Ed rfl rfl rfl) ?_;replace hb:=(((hb.ext ae).keep ah af).keep ai af).ext a3;replace hM2:=(((hM2.ext ae).kO ah (Zf a7)).kO ai (Zf a7)).ext a3;replace a0:=a0.ext a3;replace a1:=a1.ext a3;replace K0:=K0.ext a3;refine jF ?_ ?_
 ·intro hc82;exfalso;simp at hc82;omega
 intro hc82;refine jG ?_;refine kS (Pu _ _ _ _ key _ a0 hnm) ?_;rintro _ aM ⟨rfl,ap,a8⟩;replace K0:=K0.trans a8 (λx hlt hx=>ag x hx hlt);replace a0:=ap;clear ap;refine Ii ?_;refine ET ?_;replace a1:=a1.kO a8 av;obtain⟨aN,aO,az,aA,aB,aq⟩:=a1.sl.el (i:=0) Zs;obtain rfl:((n:Nat):Int)=az:=Option.some.inj (ao.symm.trans aA);refine jV (AY underlying185 ty3 rfl rfl aB Zs) ?_;refine kE (B9 (v:= .int .i64 ((n:Nat):Int)) (y:=((n:Nat):Int)) ty3 rfl aq rfl) ?_;refine jV (AO (cells:=#[.int .i64 ((n:Nat):Int),.string key]) Zk) ?_;refine kR ?_;intro aP aQ a2 a4 aa;replace hb:=hb.keep a8 af;have aR:=Ak hb.lt a2;have aS:=Ak aq.lt a2;replace hM2:=hM2.kO a8 (Zf a7);have aC:=An hM2.oL a2;have aD:=An a0.oL a2;have:=Aaa K0.size a2;clear a2;refine jR<|jS a4 ?_;intro aT a4 ab;replace K0:=K0.ext aa;replace K0:=K0.n1 ab;refine jG ?_;refine Ai.drawS [6] [0,1,2,1003,1004,5,2006] ?_;intro aU a5;replace hb:=((hb.ext aa).kp ab).ext a5;replace a4:=a4.ext a5;refine kF (jb hb (jb a4 Jn)) ?_;refine jP ?_ (hx:=by exact λ_=>(AO (cells:=#[]) Zk));replace hM2:=((hM2.ext aa).kO ab (Aa aC)).ext a5;refine jU rfl<|AB.mapUpdate (a:=(⟨((n:Nat):Int),key⟩:AE)) (v:= .agg #[]) underlying91 underlying110 IR rfl rfl rfl hM2 ?_;intro aE ac ar;replace ac:Aq aE m2 (C7 hps (⟨((n:Nat):Int),key⟩:AE) (.agg #[])):=ac;replace K0:=K0.ext a5;replace K0:=K0.trans ar (λx hlt hx=>(λq_ h_ _=>h_) x hx hlt);replace hM2:=ac;clear ac;refine kG ?_;replace a0:=(((a0.ext aa).kO ab (Aa aD)).ext a5).kO ar a7;refine jT<|jC (FP a0) ?_;rintro _ aV ⟨rfl,au⟩;refine jG ?_;refine kE (BP rfl rfl rfl) ?_;refine jJ func60 ?_;replace hM2:=hM2.ext au;replace K0:=K0.ext au;exact⟨_,rfl,rfl,hM2,K0⟩
def ZS (b lg m1 m2 m3:Nat)(lk st:Int)(hps:List (AE×Value))(n:Nat)(key:ByteArray)(a9:Option Addr)(bs:List UInt8)(c9:Nat)(w:World)(hbs:bs=([UInt8.ofNat 5]++Al n)++AL key)(hrc:Ax w a9 bs)(hb:AC w b [.int .i32 lk,.int .u32 0,jp lg,.int .i64 st,.map (some m1),.map (some m2),.map (some m3)] 94)(hM2:Aq w m2 hps)(n3:b≠m2)(hn:n<8)(hnm:AK key=true):
  Calls prog 60 #[jp b,.slice a9 bs.length c9] w (AU (λv_ w'=>v_= .bool true/\Aq w' m2 (GV (C7 hps (⟨((n:Nat):Int),key⟩:AE) (.agg #[])) (⟨((n:Nat):Int),key⟩:AE))/\Ae (one m2) w w')):=by
 have hbs2:bs=[UInt8.ofNat 5]++(Al n++(AL key++[])):=by rw[hbs];simp only[Aar,Aax]
 have htl:=CA (Bc hnm);have hvl:=Bb (n:=n) Zo;have hbl:bs.length<=200:=by rw[hbs];simp only[Aab];have:([UInt8.ofNat 5]:List UInt8).length=1:=rfl;omega
 refine kD (n:=157) func60 ?_;refine kS (GG (bs:=bs) hrc Zo) ?_;rintro _ ao ⟨ap,ah,rfl,a0,a8,ai⟩;replace a0:BK ao ap ah bs ([UInt8.ofNat 5]++(Al n++(AL key++[]))):=(congrArg (λr_=>BK ao ap ah bs r_) hbs2).mp a0;have aj:=Ay a8 hb.lt;have a4:=Ag a8 hM2.oL;have ak:∀q_,ah q_->q_<w.heap.size->(one m2) q_:=GY (Aac _) a8;clear a8;have K0:=(ai:As w _).to (S:=(one m2));refine jG ?_;refine kS (Gn _ _ _ _ _ 5 _ a0 rfl) ?_;rintro _ aJ ⟨rfl,aq,al⟩;replace K0:=K0.trans al (λx hlt hx=>ak x hx hlt);replace a0:=aq;clear aq;refine kG ?_;refine Ai.condF rfl ?_;refine kG ?_;refine Ai.condF rfl ?_;refine kG ?_;refine C8 ?_;refine jG ?_;refine kS (Js _ _ _ _ n _ a0 Zo) ?_;rintro _ aK ⟨⟨aL,aM,rfl,a2,ar⟩,au,am⟩;have az:=Ag ar a0.oL;clear ar;replace K0:=K0.trans am (λx hlt hx=>ak x hx hlt);replace a0:=au;clear au;refine Ii ?_;refine ET ?_;refine jV (Bp (b:=true) rfl) ?_;refine ET ?_;obtain⟨aN,aO,aA,av,aB,aC⟩:=a2.sl.el (i:=0) Zs;obtain rfl:((n:Nat):Int)=aA:=Option.some.inj av;refine jT<|jO (AY underlying185 ty3 rfl rfl aB Zs) ?_;refine jT<|jO (B9 (v:= .int .i64 ((n:Nat):Int)) (y:=((n:Nat):Int)) ty3 rfl aC rfl) ?_;refine jT<|jC (LG ((n:Nat):Int) _) ?_;rintro _ aP ⟨rfl,a5⟩;refine jG ?_;refine kE (Ed rfl rfl rfl) ?_;replace hb:=(((hb.ext ai).keep al aj).keep am aj).ext a5;replace hM2:=(((hM2.ext ai).kO al (Zf a4)).kO am (Zf a4)).ext a5;replace a0:=a0.ext a5;replace a2:=a2.ext a5;replace K0:=K0.ext a5;refine jF ?_ ?_
 ·intro hc82;exfalso;simp at hc82;omega
 intro hc82;refine jG ?_;refine kS (Pu _ _ _ _ key _ a0 hnm) ?_;rintro _ aQ ⟨rfl,aw,aa⟩;replace K0:=K0.trans aa (λx hlt hx=>ak x hx hlt);replace a0:=aw;clear aw;refine Ii ?_;refine ET ?_;replace a2:=a2.kO aa az;obtain⟨aR,aS,aD,aE,aF,ax⟩:=a2.sl.el (i:=0) Zs;obtain rfl:((n:Nat):Int)=aD:=Option.some.inj (av.symm.trans aE);refine jV (AY underlying185 ty3 rfl rfl aF Zs) ?_;refine kE (B9 (v:= .int .i64 ((n:Nat):Int)) (y:=((n:Nat):Int)) ty3 rfl ax rfl) ?_;refine jV (AO (cells:=#[.int .i64 ((n:Nat):Int),.string key]) Zk) ?_;refine kR ?_;intro aT aU a3 a1 ab;replace hb:=hb.keep aa aj;have aV:=Ak hb.lt a3;have aW:=Ak ax.lt a3;replace hM2:=hM2.kO aa (Zf a4);have an:=An hM2.oL a3;have aG:=An a0.oL a3;have:=Aaa K0.size a3;clear a3;refine jR<|jS a1 ?_;intro aX a1 ac;replace K0:=K0.ext ab;replace K0:=K0.n1 ac;refine jG ?_;refine Ai.drawS [6] [0,1,2,1003,1004,5,2006] ?_;intro aY a6;replace hb:=((hb.ext ab).kp ac).ext a6;replace a1:=a1.ext a6;refine kF (jb hb (jb a1 Jn)) ?_;refine jP ?_ (hx:=by exact λ_=>(AO (cells:=#[]) Zk));replace hM2:=((hM2.ext ab).kO ac (Aa an)).ext a6;refine jU rfl<|AB.mapUpdate (a:=(⟨((n:Nat):Int),key⟩:AE)) (v:= .agg #[]) underlying91 underlying110 IR rfl rfl rfl hM2 ?_;intro aH ad ae;replace ad:Aq aH m2 (C7 hps (⟨((n:Nat):Int),key⟩:AE) (.agg #[])):=ad;replace K0:=K0.ext a6;replace K0:=K0.trans ae (λx hlt hx=>(λq_ h_ _=>h_) x hx hlt);replace hM2:=ad;clear ad;refine kJ ?_;refine Ai.drawS [] [0,1,2,1003,1004,2005] ?_;intro aZ a7;replace hb:=(hb.keep ae (λe_=>n3 e_)).ext a7;replace a1:=(a1.keep ae an).ext a7;refine kF (jb hb (jb a1 Jn)) ?_;replace hM2:=hM2.ext a7;refine jU rfl<|AB.deleteMap (a:=(⟨((n:Nat):Int),key⟩:AE)) underlying91 underlying110 IR rfl rfl hM2 ?_;intro aI af ag;replace af:Aq aI m2 (GV (C7 hps (⟨((n:Nat):Int),key⟩:AE) (.agg #[])) (⟨((n:Nat):Int),key⟩:AE)):=af;replace K0:=K0.ext a7;replace K0:=K0.trans ag (λx hlt hx=>(λq_ h_ _=>h_) x hx hlt);replace hM2:=af;clear af;replace hb:=hb.keep ag (λe_=>n3 e_);replace a1:=a1.keep ag an;refine jG ?_;replace a0:=(((((a0.ext ab).kO ac (Aa aG)).ext a6).kO ae a4).ext a7).kO ag a4;refine jT<|jC (FP a0) ?_;rintro _ b0 ⟨rfl,ay⟩;refine jG ?_;refine kE (BP rfl rfl rfl) ?_;refine jJ func60 ?_;replace hM2:=hM2.ext ay;replace K0:=K0.ext ay;exact⟨_,rfl,rfl,hM2,K0⟩
end
section
attribute [local irreducible] Au Ap Co
def V1 {a b c:List UInt8}(h:a=b++c):a.drop (a.length-c.length)=c:=by
 rw[h,Aab,Nat.add_sub_cancel,AbG]
attribute [local irreducible] X
def ZT (x:Ab)(b:Nat)(m:Ab)(w:World)(hb:AC w b [.int .i64 m.node,.int .i64 m.life,.int .i64 m.count] 46):
  Calls prog 120 #[.agg #[.int .i64 x.node,.int .i64 x.life,.int .i64 x.count],jp b] w (AU (λv w'=>v= .bool (decide (AX x=AX m))/\As w w')):=by
 refine kD (n:=9) func120 ?_;refine kQ ?_;intro a6 a7 a1 a0 a5;have a8:=Ak hb.lt a1;have:w.heap.size<=a6:=a1;clear a1;have K0:=(a5:As w _);refine jG ?_;refine Ai.drawS [] [1000,1002,2001,2003,4,5] ?_;intro a9 a2;replace hb:=(hb.ext a5).ext a2;replace a0:=a0.ext a2;refine kF (jb hb (jb a0 Jn)) ?_;refine jU rfl<|jC (DN x _) ?_;rintro _ aa ⟨rfl,a3⟩;replace hb:=hb.ext a3;replace a0:=a0.ext a3;refine jG ?_;refine jU rfl<|jC (DN m _) ?_;rintro _ ab ⟨rfl,a4⟩;replace hb:=hb.ext a4;replace a0:=a0.ext a4;refine jG ?_;refine jP ?_ (hx:=by exact λ_=>(GK Zk rfl rfl (Ei (AX x) (AX m))));refine kL func120 ?_;replace K0:=((K0.ext a2).ext a3).ext a4;exact⟨_,rfl,rfl,K0⟩
def ZU (b lg m1 m2 m3:Nat)(lk st:Int)(qs:List (ByteArray×Value))(ma:Option Addr)(ml:List Ab)(mc:Nat)(ps:List (ByteArray×Value))(o:Option Kc)(n l c:Nat)(key:ByteArray)(a9:Option Addr)(bs:List UInt8)(c9:Nat)(w:World)(hbs:bs=((([UInt8.ofNat 6]++AL key)++Al n)++Al l)++Al c)(hrc:Ax w a9 bs)(hb:AC w b [.int .i32 lk,.int .u32 0,jp lg,.int .i64 st,.map (some m1),.map (some m2),.map (some m3)] 94)(hM1:Aq w m1 ps)(hM3:Aq w m3 qs)(hgm:(BU qs key).getD (.slice none 0 0)= .slice ma ml.length mc)(hms:Ax w ma ml)(hapM:∀x,ma=some x->ml≠ []->¬(λq_=>q_=m1\/q_=m3) x.block)(n2:b≠m1)(n3:b≠m3)(n5:m1≠m3)(hS:ml.Pairwise BI)(hM:∀x∈ml,AD (Ab.d x))(hnm:AK key=true)(hmay:AD (Ab.d (⟨((n:Nat):Int),((l:Nat):Int),((c:Nat):Int)⟩:Ab)))(hno:∀x∈ml,AX x≠AX (⟨((n:Nat):Int),((l:Nat):Int),((c:Nat):Int)⟩:Ab))(hml2:ml.length<=1000)(hget:BU ps key=o.map (λt=>(Kc.kv t).2))(hTo:∀t,o=some t->Bi w t.s t.v/\Bn t.v t.s/\∀q,BS t.s t.v q->¬(λq_=>q_=m1\/q_=m3) q):
  Calls prog 60 #[jp b,.slice a9 bs.length c9] w (AU (λv_ w'=>v_= .bool true/\(∃a' c',Aq w' m3 (C7 qs key (.slice a' (setM ml (Ab.d (⟨((n:Nat):Int),((l:Nat):Int),((c:Nat):Int)⟩:Ab))).length c'))/\Ax w' a' (setM ml (Ab.d (⟨((n:Nat):Int),((l:Nat):Int),((c:Nat):Int)⟩:Ab)))/\(∀q,own a' q->w.heap.size<=q)/\((o=none/\Aq w' m1 ps)\/∃t s',o=some t/\Aq w' m1 (C7 ps key (.agg #[.slice (((CY (Au t.v (AX (⟨((n:Nat):Int),((l:Nat):Int),((c:Nat):Int)⟩:Ab))) s').cart).entries.a) (((CY (Au t.v (AX (⟨((n:Nat):Int),((l:Nat):Int),((c:Nat):Int)⟩:Ab))) s').cart).entries.len) (((CY (Au t.v (AX (⟨((n:Nat):Int),((l:Nat):Int),((c:Nat):Int)⟩:Ab))) s').cart).entries.cap),.slice ((((CY (Au t.v (AX (⟨((n:Nat):Int),((l:Nat):Int),((c:Nat):Int)⟩:Ab))) s').cart).ctx).marks.a) ((((CY (Au t.v (AX (⟨((n:Nat):Int),((l:Nat):Int),((c:Nat):Int)⟩:Ab))) s').cart).ctx).marks.len) ((((CY (Au t.v (AX (⟨((n:Nat):Int),((l:Nat):Int),((c:Nat):Int)⟩:Ab))) s').cart).ctx).marks.cap),.slice ((((CY (Au t.v (AX (⟨((n:Nat):Int),((l:Nat):Int),((c:Nat):Int)⟩:Ab))) s').cart).ctx).cloud.a) ((((CY (Au t.v (AX (⟨((n:Nat):Int),((l:Nat):Int),((c:Nat):Int)⟩:Ab))) s').cart).ctx).cloud.len) ((((CY (Au t.v (AX (⟨((n:Nat):Int),((l:Nat):Int),((c:Nat):Int)⟩:Ab))) s').cart).ctx).cloud.cap)]))/\Bi w' s' (Au t.v (AX (⟨((n:Nat):Int),((l:Nat):Int),((c:Nat):Int)⟩:Ab)))/\Bn (Au t.v (AX (⟨((n:Nat):Int),((l:Nat):Int),((c:Nat):Int)⟩:Ab))) s'/\(∀q,BS s' (Au t.v (AX (⟨((n:Nat):Int),((l:Nat):Int),((c:Nat):Int)⟩:Ab))) q->w.heap.size<=q)))/\Ae (λq_=>q_=m1\/q_=m3) w w')):=by
 have hbs2:bs=[UInt8.ofNat 6]++(AL key++(Al n++(Al l++(Al c++[])))):=by rw[hbs];simp only[Aar,Aax]
 have htl:=CA (Bc hnm);have hmb:=hmay;simp only[AD,Ab.d]at hmb;have hv1:=Bb (n:=n) Zo;have hv2:=Bb (n:=l) Zo;have hv3:=Bb (n:=c) Zo;have hany:ml.any (λx=>decide (AX x=AX (⟨((n:Nat):Int),((l:Nat):Int),((c:Nat):Int)⟩:Ab)))=false:=by simpa using hno
 have hbl:bs.length<=200:=by rw[hbs];simp only[Aab];have:([UInt8.ofNat 6]:List UInt8).length=1:=rfl;omega
 refine kD (n:=157) func60 ?_;refine kS (GG (bs:=bs) hrc Zo) ?_;rintro _ ao ⟨ap,aj,rfl,a0,ab,ad⟩;replace a0:BK ao ap aj bs ([UInt8.ofNat 6]++(AL key++(Al n++(Al l++(Al c++[]))))):=(congrArg (λr_=>BK ao ap aj bs r_) hbs2).mp a0;have ak:=Ay ab hb.lt;have ae:=Ag ab hM1.oL;have af:=Ag ab hM3.oL;have al:∀q_,aj q_->q_<w.heap.size->(λq_=>q_=m1\/q_=m3) q_:=GY (Aac _) ab;clear ab;have K0:=(ad:As w _).to (S:=(λq_=>q_=m1\/q_=m3));refine jG ?_;refine kS (Gn _ _ _ _ _ 6 _ a0 rfl) ?_;rintro _ aL ⟨rfl,aq,ag⟩;replace K0:=K0.trans ag (λx hlt hx=>al x hx hlt);replace a0:=aq;clear aq;refine kG ?_;refine Ai.condF rfl ?_;refine kG ?_;refine Ai.condF rfl ?_;refine kG ?_;refine kH ?_;refine C8 ?_;refine jG ?_;refine kS (Pu _ _ _ _ key _ a0 hnm) ?_;rintro _ aM ⟨rfl,ar,ah⟩;replace K0:=K0.trans ah (λx hlt hx=>al x hx hlt);replace a0:=ar;clear ar;refine jG ?_;refine kS (Tt _ _ _ _ n l c _ a0 Zo Zo Zo) ?_;rintro _ aN ⟨⟨aO,aP,rfl,am,ax⟩,au,ai⟩;clear ax;replace K0:=K0.trans ai (λx hlt hx=>al x hx hlt);replace a0:=au;clear au;refine Ii ?_;refine ET ?_;refine jV (Bp (b:=true) rfl) ?_;refine ET ?_;refine jT<|jO (Bp (b:=true) rfl) ?_;refine kE (Ed rfl rfl rfl) ?_;refine kH ?_;obtain⟨aQ,aR,ay,az,aA,a1⟩:=am.sl.el (i:=0) Zs;obtain rfl:((n:Nat):Int)=ay:=Option.some.inj az;obtain⟨aS,aT,aB,aC,aD,a2⟩:=am.sl.el (i:=1) Zs;obtain rfl:((l:Nat):Int)=aB:=Option.some.inj aC;obtain⟨aU,aV,aE,aF,aG,a3⟩:=am.sl.el (i:=2) Zs;obtain rfl:((c:Nat):Int)=aE:=Option.some.inj aF;refine Ai.drawS [11] [0,1,1002,3,4,1005,6,7,1008,9,2010,2011] ?_;intro aW a5;replace a1:=a1.ext a5;replace a2:=a2.ext a5;replace a3:=a3.ext a5;refine jM (jl a1 (jl a2 (jl a3 Jn))) ?_;refine FU ?_;refine jP ?_ (hx:=by exact λ_=>(AY underlying185 ty3 rfl rfl aA Zs));refine jH ?_ (hx:=by exact(by rintro _ ⟨a1,a2,a3,-⟩;exact(B9 (v:= .int .i64 ((n:Nat):Int)) (y:=((n:Nat):Int)) ty3 rfl a1 rfl)));refine FU ?_;refine jP ?_ (hx:=by exact λ_=>(AY underlying185 ty3 rfl rfl aD Zs));refine jH ?_ (hx:=by exact(by rintro _ ⟨a1,a2,a3,-⟩;exact(B9 (v:= .int .i64 ((l:Nat):Int)) (y:=((l:Nat):Int)) ty3 rfl a2 rfl)));refine FU ?_;refine jP ?_ (hx:=by exact λ_=>(AY underlying185 ty3 rfl rfl aG Zs));refine jH ?_ (hx:=by exact(by rintro _ ⟨a1,a2,a3,-⟩;exact(B9 (v:= .int .i64 ((c:Nat):Int)) (y:=((c:Nat):Int)) ty3 rfl a3 rfl)));refine jP ?_ (hx:=by exact λ_=>(AO (cells:=#[.int .i64 ((n:Nat):Int),.int .i64 ((l:Nat):Int),.int .i64 ((c:Nat):Int)]) Zk));refine jU rfl<|jA ?_;intro av aX a4 a7 a6;replace hb:=((((hb.ext ad).keep ag ak).keep ah ak).keep ai ak).ext a5;have aY:=Ak hb.lt a4;have aZ:=Ak a1.lt a4;have b0:=Ak a2.lt a4;have b1:=Ak a3.lt a4;replace hM1:=((((hM1.ext ad).kO ag (Zf ae)).kO ah (Zf ae)).kO ai (Zf ae)).ext a5;have aH:=An hM1.oL a4;replace hM3:=((((hM3.ext ad).kO ag (Zf af)).kO ah (Zf af)).kO ai (Zf af)).ext a5;have aI:=An hM3.oL a4;replace a0:=a0.ext a5;have aJ:=An a0.oL a4;replace K0:=K0.ext a5;have:=Aaa K0.size a4;clear a4;replace a1:=a1.ext a6;replace a2:=a2.ext a6;replace a3:=a3.ext a6;refine jG ?_;refine jU rfl<|jS a7 ?_;intro b2 a7 ac;replace K0:=K0.ext a6;replace K0:=K0.n1 ac;refine jG ?_;refine kS (VZ (⟨((n:Nat):Int),((l:Nat):Int),((c:Nat):Int)⟩:Ab) _) ?_
 rintro _ b3 ⟨rfl,a8⟩;refine jG ?_;replace hb:=((hb.ext a6).kp ac).ext a8;replace hM1:=((hM1.ext a6).kO ac (Aa aH)).ext a8;replace hM3:=((hM3.ext a6).kO ac (Aa aI)).ext a8;replace a0:=((a0.ext a6).kO ac (Aa aJ)).ext a8;replace a7:=a7.ext a8;replace K0:=K0.ext a8;refine jF ?_ ?_
 ·intro hc137;exact absurd hmay (by simpa using hc137)
 intro hc137;refine jG ?_;refine jV (Di (v':= .slice ma ml.length mc) (CT underlying92 underlying9 rfl ty28 rfl rfl hM3) hgm) ?_;refine jV (Dm (a:=[]) (c:=[jp av]) rfl rfl) ?_;refine jR<|jC (EN _ _ _ 120 _ (λx=>decide (AX x=AX (⟨((n:Nat):Int),((l:Nat):Int),((c:Nat):Int)⟩:Ab))) en120.h _ (hms.keepN K0 hapM) Zo (λx_ _ w_ K_=>ZT x_ av (⟨((n:Nat):Int),((l:Nat):Int),((c:Nat):Int)⟩:Ab) w_ (a7.ext K_))) ?_;rintro _ aK ⟨rfl,aa⟩;refine jG ?_;replace hb:=hb.ext aa;replace hM1:=hM1.ext aa;replace hM3:=hM3.ext aa;replace a0:=a0.ext aa;replace a7:=a7.ext aa;replace K0:=K0.ext aa;refine jF ?_ ?_
 ·intro hc146;refine jG ?_;have hsz9:w.heap.size<=aK.heap.size:=K0.size;refine kS (NZ _ _ _ _ _ _ _ qs ma ml mc ps o key (⟨((n:Nat):Int),((l:Nat):Int),((c:Nat):Int)⟩:Ab) _ hb hM1 hM3 hgm (hms.keepN K0 hapM) Zo hapM n2 n3 n5 hS hM hmay hno Zo hget (λt_ e_=>have h_:=hTo t_ e_;⟨h_.1.kO K0 h_.2.2,h_.2⟩)) ?_;rintro r9 aw ⟨rfl,a9,c9,hMc9,hS9,hg9,hcs9,K9⟩;replace K0:=K0.trans K9 (λx hlt hx=>(λq_ h_ _=>h_) x hx hlt);have hz9:As aw aw:=Ae.refl _ _;refine jG ?_;replace a0:=a0.kO K9 (λq_ h1_ h_=>h_.elim (λe_=>(Zf ae) q_ e_ h1_) (λe_=>(Zf af) q_ e_ h1_));refine jT<|jC (FP a0) ?_;rintro _ b4 ⟨rfl,an⟩;refine jG ?_;refine kE (BP rfl rfl rfl) ?_;refine jJ func60 ?_;replace hb:=(hb.keep K9 (λh_=>h_.elim (λe_=>(λe_=>n2 e_) e_) (λe_=>(λe_=>n3 e_) e_))).ext an;replace hz9:=hz9.ext an;replace K0:=K0.ext an;exact⟨_,rfl,rfl,⟨a9,c9,hMc9.ext hz9,hS9.ext hz9,λq_ h_=>Aaa hsz9 (hg9 q_ h_),hcs9.imp (λh_=>⟨h_.1,h_.2.ext hz9⟩) (λ⟨t_,s_,e_,x1,x2,x3,x4,_⟩=>⟨t_,s_,e_,x1.ext hz9,x2.ext hz9,x3,λq_ h_=>Aaa hsz9 (x4 q_ h_)⟩)⟩,K0⟩
 intro hc146;exfalso;rw[hany]at hc146;simp at hc146
def ZV (b lg m1 m2 m3:Nat)(lk st:Int)(qs:List (ByteArray×Value))(ma:Option Addr)(ml:List Ab)(mc:Nat)(ps:List (ByteArray×Value))(o:Option Kc)(key:ByteArray)(v:MV)(rb:Nat)(Z:Nat->Prop)(a9:Option Addr)(bs:List UInt8)(c9:Nat)(w:World)(hbs:bs=CK key v)(hrc:Ax w a9 bs)(hb:AC w b [.int .i32 lk,.int .u32 0,jp lg,.int .i64 st,.map (some m1),.map (some m2),.map (some m3)] 94)(hM1:Aq w m1 ps)(hM3:Aq w m3 qs)(hgm:(BU qs key).getD (.slice none 0 0)= .slice ma ml.length mc)(hms:Ax w ma ml)(hapM:∀x,ma=some x->ml≠ []->¬(λq_=>Z q_\/q_=m1) x.block)(n2:b≠m1)(n5:m1≠m3)(hml2:ml.length<=1000)(hnm:AK key=true)(hcan:Dr v=0)(hent:Ez v.ent)(hvok:IY v)(hcl:Cw ml v=0)(hwn:wN (o.map (·.v)) (Ap ml v)=0)(hget:BU ps key=o.map (λt=>(Kc.kv t).2))(hTo:∀t,o=some t->Bi w t.s t.v/\Bn t.v t.s/\∀q,BS t.s t.v q->¬(λq_=>Z q_\/q_=m1) q)(hcap:bs.length<=c9)(hrd:BK w rb Z bs (AL key++Cv v))(hrcN:∀x,a9=some x->bs≠ []->¬(λq_=>Z q_\/q_=m1) x.block)(nZb:¬Z b)(nZ1:¬Z m1)(nZ3:¬Z m3):
  Calls prog 118 #[jp b,jp rb,.slice a9 bs.length c9] w (AU (λv_ w'=>v_= .bool true/\(∃s1,Aq w' m1 (C7 ps key (.agg #[.slice (((CY (wV (o.map (·.v)) (Ap ml v)) s1).cart).entries.a) (((CY (wV (o.map (·.v)) (Ap ml v)) s1).cart).entries.len) (((CY (wV (o.map (·.v)) (Ap ml v)) s1).cart).entries.cap),.slice ((((CY (wV (o.map (·.v)) (Ap ml v)) s1).cart).ctx).marks.a) ((((CY (wV (o.map (·.v)) (Ap ml v)) s1).cart).ctx).marks.len) ((((CY (wV (o.map (·.v)) (Ap ml v)) s1).cart).ctx).marks.cap),.slice ((((CY (wV (o.map (·.v)) (Ap ml v)) s1).cart).ctx).cloud.a) ((((CY (wV (o.map (·.v)) (Ap ml v)) s1).cart).ctx).cloud.len) ((((CY (wV (o.map (·.v)) (Ap ml v)) s1).cart).ctx).cloud.cap)]))/\Bi w' s1 (wV (o.map (·.v)) (Ap ml v))/\Bn (wV (o.map (·.v)) (Ap ml v)) s1/\(∀q,BS s1 (wV (o.map (·.v)) (Ap ml v)) q->w.heap.size<=q))/\Ae (λq_=>Z q_\/q_=m1) w w')):=by
 obtain⟨u,hu⟩:∃u_,u_=Ap ml v:=⟨_,rfl⟩;obtain⟨W,hW⟩:∃W_,W_=wV (o.map (·.v)) u:=⟨_,rfl⟩;rw[<-hu]at hwn;have hdrop:bs.drop (bs.length-(Cv v).length)=Cv v:=V1 (by rw[hbs,CK]);have htl:=CA (Bc hnm);have hel:=Hc hent hcan;have hbl:bs.length<=9100:=by rw[hbs,CK];simp only[Aab];have:([UInt8.ofNat 2]:List UInt8).length=1:=rfl;omega
 refine kD (n:=46) func118 ?_;refine kS (Pu _ _ _ _ key _ hrd hnm) ?_;rintro _ aC ⟨rfl,ak,ah⟩;have K0:=(Ae.refl (λq_=>Z q_\/q_=m1) w).trans ah (λx hlt hx=>(λq_ h_ _=>Or.inl h_) x hx hlt);replace hrd:=ak;clear ak;refine Ii ?_;refine ET ?_;refine kE (Bp (b:=true) rfl) ?_;refine kH ?_;refine kS (iA hrd) ?_;rintro _ aD ⟨rfl,aa⟩;refine jV (Dg (xs:=bs) underlying98 ty5 rfl rfl Zo) ?_;replace K0:=K0.ext aa;refine kS (iC v _ _ _ _ hdrop ((hrc.keepN K0 hrcN).from (bs.length-(Cv v).length) c9 hcap) hent hcan hvok) ?_;rintro _ aE ⟨al,rfl,ab,aF,ao,ac⟩;clear ao;have hokd:Bn v al:=⟨hvok,hent,ab.ent.le_cap⟩;refine kP ?_;intro aG aH a5 a2 a6;replace hb:=((hb.keep ah nZb).ext aa).ext ac;have aI:=Ak hb.lt a5;replace hM1:=((hM1.kO ah (λq_ h1 h2=>(λq_ h_ (e_:q_=m1)=>nZ1 (e_▸h_)) q_ h2 h1)).ext aa).ext ac;have ap:=An hM1.oL a5;replace hM3:=((hM3.kO ah (λq_ h1 h2=>(λq_ h_ (e_:q_=m3)=>nZ3 (e_▸h_)) q_ h2 h1)).ext aa).ext ac;have aq:=An hM3.oL a5;replace hrd:=(hrd.ext aa).ext ac;have ar:=An hrd.oL a5;have au:=An ab.oL a5;replace K0:=K0.ext ac;have:=Aaa K0.size a5;clear a5;refine jR<|jS a2 ?_;intro am a2 a7;replace K0:=K0.ext a6;replace K0:=K0.n1 a7;refine kG ?_;replace hb:=(hb.ext a6).kp a7;replace hM1:=(hM1.ext a6).kO a7 (Aa ap);replace hM3:=(hM3.ext a6).kO a7 (Aa aq);replace ab:=(ab.ext a6).kO a7 (Aa au);refine kS (QQ _ _ _ _ _ _ _ qs ma ml mc _ o _ v al _ hb hM1 hM3 hgm (hms.keepN K0 hapM) Zo ab.r hokd hget (λt_ e_=>have h_:=hTo t_ e_;⟨h_.1.kO K0 h_.2.2,h_.2.1⟩)) ?_;rintro r_ aJ ⟨hw_,a8⟩;rw[<-hu,<-hW]at hw_;replace hrd:=(hrd.ext a6).kO a7 (Aa ar);rcases hw_ with⟨hcn,_⟩|⟨_,⟨hwn9,_⟩|⟨_,s1,s2,rfl,hR1,hok1,hR2,hok2,hg1,hg2⟩⟩
 ·exact absurd hcl hcn
 ·exact absurd hwn hwn9
 have hg1d:∀q_,BS s1 W q_->am.heap.size<=q_:=λq_ h_=>hg1 q_ (cart_d q_ h_);have av:=Ag hg1d hM1.oL;have aw:=Bg K0.size hg1d;have hg2d:∀q_,BS s2 u q_->am.heap.size<=q_:=λq_ h_=>hg2 q_ (cart_d q_ h_);have aK:=Ag hg2d hM1.oL;clear hg1 hg2 hg1d hg2d;refine kP ?_;intro aL aM a1 a3 a4;replace hb:=hb.ext a8;have aN:=Ak hb.lt a1;replace a2:=a2.ext a8;have aO:=Ak a2.lt a1;replace hM1:=hM1.ext a8;have ax:=An hM1.oL a1;replace hM3:=hM3.ext a8;have aP:=An hM3.oL a1;replace hrd:=hrd.ext a8;have aQ:=An hrd.oL a1;have ay:=An hR1.oL a1;have aR:=An hR2.oL a1;replace K0:=K0.ext a8;have:=Aaa K0.size a1;clear a1;refine kR ?_;intro aS aT a0 ai ad;replace hb:=hb.ext a4;have aU:=Ak hb.lt a0;replace a2:=a2.ext a4;have aV:=Ak a2.lt a0;have aW:=Ak a3.lt a0;replace hM1:=hM1.ext a4;have az:=An hM1.oL a0;replace hM3:=hM3.ext a4;have aX:=An hM3.oL a0;replace hrd:=hrd.ext a4;have aY:=An hrd.oL a0;replace hR1:=hR1.ext a4;have aA:=An hR1.oL a0;replace hR2:=hR2.ext a4;have aZ:=An hR2.oL a0;replace K0:=K0.ext a4;have:=Aaa K0.size a0;clear a0;replace a3:=a3.ext ad;refine jR<|jS a3 ?_;intro b0 a3 ae;replace K0:=K0.ext ad;replace K0:=K0.n1 ae;replace ai:=ai.kp ae;refine jR<|jS ai ?_;intro b1 ai af;replace K0:=K0.n1 af;refine jG ?_;refine Ai.drawS [6] [0,1,2,1003,4,1005,2006] ?_;intro b2 ag;replace hb:=(((hb.ext ad).kp ae).kp af).ext ag;replace a3:=(a3.kp af).ext ag;refine kF (jb hb (jb a3 Jn)) ?_;replace hM1:=(((hM1.ext ad).kO ae (Aa ax)).kO af (Aa az)).ext ag;refine jU rfl<|AB.mapUpdate (v:= .agg #[.slice s1.ea W.ent.length s1.ec,.slice s1.ma W.mrk.length s1.mc,.slice s1.ca W.cl.length s1.cc]) underlying90 underlying9 rfl rfl rfl rfl hM1 ?_;intro aB aj an;replace aj:Aq aB m1 (C7 ps key (.agg #[.slice s1.ea W.ent.length s1.ec,.slice s1.ma W.mrk.length s1.mc,.slice s1.ca W.cl.length s1.cc])):=aj;replace K0:=K0.ext ag;replace K0:=K0.trans an (λx hlt hx=>(λq_ h_ _=>Or.inr h_) x hx hlt);replace hM1:=aj;clear aj;refine kL func118 ?_;subst hW;subst hu;replace hR1:=((((hR1.ext ad).kO ae (Aa ay)).kO af (Aa aA)).ext ag).kO an av;exact⟨_,rfl,rfl,⟨s1,hM1,hR1,hok1,aw⟩,K0⟩
def ZW (b lg m1 m2 m3:Nat)(lk st:Int)(qs:List (ByteArray×Value))(ma:Option Addr)(ml:List Ab)(mc:Nat)(ps:List (ByteArray×Value))(o:Option Kc)(key:ByteArray)(v:MV)(a9:Option Addr)(bs:List UInt8)(c9:Nat)(w:World)(hbs:bs=([UInt8.ofNat 2]++AL key)++Cv v)(hrc:Ax w a9 bs)(hb:AC w b [.int .i32 lk,.int .u32 0,jp lg,.int .i64 st,.map (some m1),.map (some m2),.map (some m3)] 94)(hM1:Aq w m1 ps)(hM3:Aq w m3 qs)(hgm:(BU qs key).getD (.slice none 0 0)= .slice ma ml.length mc)(hms:Ax w ma ml)(hapM:∀x,ma=some x->ml≠ []->¬(λq_=>q_=m1) x.block)(n2:b≠m1)(n5:m1≠m3)(hml2:ml.length<=1000)(hnm:AK key=true)(hcan:Dr v=0)(hent:Ez v.ent)(hvok:IY v)(hcl:Cw ml v=0)(hwn:wN (o.map (·.v)) (Ap ml v)=0)(hget:BU ps key=o.map (λt=>(Kc.kv t).2))(hTo:∀t,o=some t->Bi w t.s t.v/\Bn t.v t.s/\∀q,BS t.s t.v q->¬(λq_=>q_=m1) q)(n3:b≠m3)(hcap:bs.length<=c9)(hrc1:∀x,a9=some x->bs≠ []->¬(λq_=>q_=m1) x.block):
  Calls prog 60 #[jp b,.slice a9 bs.length c9] w (AU (λv_ w'=>v_= .bool true/\(∃s1,Aq w' m1 (C7 ps key (.agg #[.slice (((CY (wV (o.map (·.v)) (Ap ml v)) s1).cart).entries.a) (((CY (wV (o.map (·.v)) (Ap ml v)) s1).cart).entries.len) (((CY (wV (o.map (·.v)) (Ap ml v)) s1).cart).entries.cap),.slice ((((CY (wV (o.map (·.v)) (Ap ml v)) s1).cart).ctx).marks.a) ((((CY (wV (o.map (·.v)) (Ap ml v)) s1).cart).ctx).marks.len) ((((CY (wV (o.map (·.v)) (Ap ml v)) s1).cart).ctx).marks.cap),.slice ((((CY (wV (o.map (·.v)) (Ap ml v)) s1).cart).ctx).cloud.a) ((((CY (wV (o.map (·.v)) (Ap ml v)) s1).cart).ctx).cloud.len) ((((CY (wV (o.map (·.v)) (Ap ml v)) s1).cart).ctx).cloud.cap)]))/\Bi w' s1 (wV (o.map (·.v)) (Ap ml v))/\Bn (wV (o.map (·.v)) (Ap ml v)) s1/\(∀q,BS s1 (wV (o.map (·.v)) (Ap ml v)) q->w.heap.size<=q))/\Ae (λq_=>q_=m1) w w')):=by
 have hbs2:bs=[UInt8.ofNat 2]++(AL key++Cv v):=by rw[hbs];simp only[Aar,Aax]
 have htl:=CA (Bc hnm);have hel:=Hc hent hcan;have hbl:bs.length<=9100:=by rw[hbs];simp only[Aab];have:([UInt8.ofNat 2]:List UInt8).length=1:=rfl;omega
 refine kD (n:=157) func60 ?_;refine kS (GG (bs:=bs) hrc Zo) ?_;rintro _ a7 ⟨a6,a1,rfl,a2,a0,a3⟩;replace a2:BK a7 a6 a1 bs ([UInt8.ofNat 2]++(AL key++Cv v)):=(congrArg (λr_=>BK a7 a6 a1 bs r_) hbs2).mp a2;have a8:=Ay a0 hb.lt;have aa:=Ag a0 hM1.oL;have ab:=Ag a0 hM3.oL;have ae:∀q_,a1 q_->q_<w.heap.size->(λq_=>q_=m1) q_:=GY (Aac _) a0;have a4:=Bg (Aac _) a0;clear a0;have K0:=(a3:As w _).to (S:=(λq_=>q_=m1));refine jG ?_;refine kS (Gn _ _ _ _ _ 2 _ a2 rfl) ?_;rintro _ af ⟨rfl,ac,a5⟩;replace K0:=K0.trans a5 (λx hlt hx=>ae x hx hlt);replace a2:=ac;clear ac;refine kG ?_;refine kH ?_;refine C8 ?_;refine jG ?_;have hsz9:w.heap.size<=af.heap.size:=K0.size;replace hb:=(hb.ext a3).keep a5 a8;replace hM1:=(hM1.ext a3).kO a5 (Zf aa);replace hM3:=(hM3.ext a3).kO a5 (Zf ab);refine jR<|jC (ZV _ _ _ _ _ _ _ qs ma ml mc ps o key v a6 a1 a9 bs c9 _ (by rw[hbs,CK]) (hrc.keepN K0 hrc1) hb hM1 hM3 hgm (hms.keepN K0 hapM) (λx_ e_ n_ h_=>h_.elim (λy_=>absurd (EZ hms n_ ⟨x_,e_,rfl⟩) (Nat.not_lt.2 (a4 _ y_))) (λy_=>hapM x_ e_ n_ y_)) n2 n5 Zo hnm hcan hent hvok hcl hwn hget (λt_ e_=>have h_:=hTo t_ e_;⟨h_.1.kO K0 h_.2.2,h_.2.1,λq_ hq_ h9_=>h9_.elim (λy_=>absurd (h_.1.oL q_ hq_) (Nat.not_lt.2 (a4 q_ y_))) (h_.2.2 q_ hq_)⟩) hcap a2 (λx_ e_ n_ h_=>h_.elim (λy_=>absurd (EZ hrc n_ ⟨x_,e_,rfl⟩) (Nat.not_lt.2 (a4 _ y_))) (λy_=>hrc1 x_ e_ n_ y_)) a8 (λh_=>aa _ h_ rfl) (λh_=>ab _ h_ rfl)) ?_;rintro r9 ad ⟨rfl,hJ9,K9⟩;replace K0:=K0.trans K9 (λx hlt hx=>(λ(q_:Nat) (h_:a1 q_\/q_=m1) (hl_:q_<w.heap.size)=>h_.elim (λy_=>absurd hl_ (Nat.not_lt.2 (a4 q_ y_))) (λe_=>e_)) x hx hlt);have hz9:As ad ad:=Ae.refl _ _;refine kL func60 ?_;exact⟨_,rfl,rfl,(have ⟨s1_,x1,x2,x3,x4⟩:=hJ9;⟨s1_,x1.ext hz9,x2.ext hz9,x3,λq_ h_=>Aaa hsz9 (x4 q_ h_)⟩),K0⟩
end
section
attribute [local irreducible] Au Ap
section
variable {w w':World}{b d lg m1 m2 m3:Nat}{F F' Z S:Nat->Prop}{st:Int}{pl pl':List PF}{ts ts':List Kc}{ks ks':List Km}{hs hs':List AE}{s:KF}{key:ByteArray}{r:BM}
def Jv (w:World)(b lg d:Nat)(Z:Nat->Prop)(pl:List PF)(s:KF):Prop:=
 ∃(m1 m2 m3:Nat) (F:Nat->Prop) (st:Int) (ts:List Kc) (ks:List Km) (hs:List AE),Z=Fc b lg m1 m2 m3 F ts ks/\H7 w b d lg m1 m2 m3 F pl st ts ks hs/\Ds s st ts ks hs
def Jv.oL (h:Jv w b lg d Z pl s):∀q,Z q->q<w.heap.size:=by obtain⟨m1,m2,m3,F,st,ts,ks,hs,rfl,h,-⟩:=h;exact h.lts
def Jv.kO (h:Jv w b lg d Z pl s)(k:Ae S w w')(hn:∀q,Z q->¬S q):Jv w' b lg d Z pl s:=by
 obtain⟨m1,m2,m3,F,st,ts,ks,hs,rfl,h,ht⟩:=h;exact⟨m1,m2,m3,F,st,ts,ks,hs,rfl,h.keep k hn,ht⟩
def Jv.ext (h:Jv w b lg d Z pl s)(k:As w w'):Jv w' b lg d Z pl s:=h.kO k λ_ _=>id
def iG (w:World)(b lg d:Nat)(Z:Nat->Prop)(pl:List PF)(s:KF)(v:Value)(w':World):Prop:=
 v= .bool true/\∃Z':Nat->Prop,Jv w' b lg d Z' pl s/\AR w Z Z'/\Ae Z w w'
def PB {x:AE}(h:0<=x.owner):(⟨((x.owner.toNat:Nat):Int),x.key⟩:AE)=x:=by
 cases x;simp only[AE.mk.injEq,and_true];exact AaT h
def V2 {m:Ab}(h:AD (Ab.d m)):(⟨((m.node.toNat:Nat):Int),((m.life.toNat:Nat):Int),((m.count.toNat:Nat):Int)⟩:Ab)=m:=by
 cases m
 simp only[AD,Ab.d]at h;simp only[Ab.mk.injEq];exact⟨AaT h.1.1,AaT Zo,AaT Zo⟩
def QT {κ:Type}[DecidableEq κ]{ps:List (κ×Value)}{k:κ}{v:Value}(h:(ps.map (·.1)).Nodup):((C7 ps k v).map (·.1)).Nodup:=by
 rw[C7];split
 ·rename_i i v0 hm;obtain⟨j,hj,hv⟩:=Fj hm;rw[Aaq]at hj;subst hj;obtain⟨hl,he⟩:=List.getElem?_eq_some_iff.1 hv;rw[List.map_set];have h2:(ps.map (·.1))[i]'(by rw[Aad];exact hl)=k:=by rw[Ace,he]
  have h3:(ps.map (·.1)).set i k=ps.map (·.1):=by
   conv=>lhs;rw[<-h2]
   exact List.set_getElem_self _
  show((ps.map (·.1)).set i k).Nodup
  rw[h3];exact h
 rename_i hm;rw[Aam,Aa1];refine⟨h,by simp,λa ha b hb=> ?_⟩;obtain⟨p,hp,rfl⟩:=List.mem_map.1 ha;rw[Aaf,Aav,Aah]at hb;rw[hb];exact Fl hm p hp
def iH {a9 : Option Addr} {c9 : Nat} (h : Jv w b lg d Z pl s) (hL7 : 7 <= w.heap.size) (hr : Kn s r) (hrc : Ax w a9 (encK r)) (hcap : (encK r).length <= c9) (hap : ∀ x, a9 = some x -> encK r ≠ [] -> ¬ Z x.block) :
    Calls prog 60 #[jp b, .slice a9 (encK r).length c9] w (AU λv w' => iG w b lg d Z pl (Dz s r) v w') := by
  obtain ⟨m1, m2, m3, F, st, ts, ks, hs, rfl, H, T⟩ := h;obtain ⟨n1, n2, n3, n4, n5, n6, n7, n8, n9, n10⟩ := H.ne;obtain ⟨f1, f2, f3, f4, f5⟩ := H.nf;have q1 : Cn b m1 m2 m3 F b := .inr (.inl rfl);have q2 : Cn b m1 m2 m3 F m1 := .inr (.inr (.inl rfl));have q3 : Cn b m1 m2 m3 F m2 := .inr (.inr (.inr (.inl rfl)));have q4 : Cn b m1 m2 m3 F m3 := .inr (.inr (.inr (.inr rfl)));have hsz : (Fc b lg m1 m2 m3 F ts ks) b := .inl q1;cases r with
  | o n =>
    refine (ZP b lg m1 m2 m3 0 st n a9 _ c9 w rfl hrc H.blk hr).mono λe w' hh => ?_;obtain ⟨v, rfl, rfl, hb, K⟩ := hh;have K' : Ae (Cn b m1 m2 m3 F) w w' := K.mono λq _ (e : q = b) => e ▸ q1
    obtain ⟨a, c⟩ := H.step hL7 K' hb (H.disk.kO K λq hq (e : q = b) => f1 (e ▸ hq)) (AR.refl w F) (H.mc.kO K λq (e : q = m1) (e2 : q = b) => n2 (e2.symm.trans e)) (H.mh.kO K λq (e : q = m2) (e2 : q = b) => n3 (e2.symm.trans e)) (H.mm.kO K λq (e : q = m3) (e2 : q = b) => n4 (e2.symm.trans e)) (λt ht => .inl ht) (λx hx => .inl hx);exact ⟨_, rfl, rfl, _, ⟨m1, m2, m3, F, _, ts, ks, hs, rfl, a, ⟨rfl, T.c, T.m, T.h⟩⟩, c, K'.mono λq _ hq => Dd hq⟩
  | j key v =>
    obtain ⟨x1, x2, x3, x4, x5, x6⟩ := hr;obtain ⟨o, hget, ho, hco⟩ := H.lookC T key;obtain ⟨ma, mc, hgm, hms, hapM, hsort, hmay, hlen⟩ := H.lookM T key;rw [hco] at x6;refine (ZW b lg m1 m2 m3 0 st _ ma (s.m key) mc _ o key v a9 _ c9 w (by show CK key v = _; rw [CK]) hrc H.blk H.mc H.mm hgm hms (λx hx hn (e : x.block = m1) => hapM x hx hn (e ▸ q2)) n2 n9 hlen x1 x2 x3 x4 x5 x6 hget
      (λt ht => ⟨(H.cart t (ho t ht).1).1, (H.cart t (ho t ht).1).2.1, λq hq (e : q = m1) => (H.cart t (ho t ht).1).2.2 q hq (e ▸ q2)⟩) n4 hcap (λx hx hn (e : x.block = m1) => hap x hx hn (.inl (e ▸ q2)))).mono λe w' hh => ?_
    obtain ⟨v', rfl, rfl, ⟨s1, hM, hR1, hok1, hg1⟩, K⟩ := hh;have K' : Ae (Cn b m1 m2 m3 F) w w' := K.mono λq _ (e : q = m1) => e ▸ q2
    obtain ⟨ts', e, hts⟩ := DO (kv := Kc.kv) (x := ⟨key, _, s1⟩) (Gm H);have hM' : Aq w' m1 (ts'.map Kc.kv) := e ▸ hM;obtain ⟨a, c⟩ := H.step hL7 K' (H.blk.keep K n2) (H.disk.kO K λq hq (e : q = m1) => f3 (e ▸ hq)) (AR.refl w F) hM' (H.mh.kO K λq (e : q = m2) (e2 : q = m1) => n8 (e2.symm.trans e)) (H.mm.kO K λq (e : q = m3) (e2 : q = m1) => n9 (e2.symm.trans e)) (λt ht => ((hts t).1 ht).elim (λe => .inr (e ▸ ⟨hR1, hok1, hg1, λq hq hF => absurd (H.disk.oL q hF) (Nat.not_lt.2 (hg1 q hq))⟩)) (λe => .inl e.1)) (λx hx => .inl hx);have T' := T.put hts;refine ⟨_, rfl, rfl, _, ⟨m1, m2, m3, F, _, ts', ks, hs, rfl, a, ?_⟩, c, K'.mono λq _ hq => Dd hq⟩;rw [Dz, hco]; exact T'
  | d key =>
    refine (ZQ b lg m1 m2 m3 0 st _ key a9 _ c9 w rfl hrc H.blk H.mc n2 hr).mono λe w' hh => ?_;obtain ⟨v, rfl, rfl, hM, K⟩ := hh;have K' : Ae (Cn b m1 m2 m3 F) w w' := K.mono λq _ (e : q = m1) => e ▸ q2
    obtain ⟨ts', e, hts⟩ := Hy (kv := Kc.kv) (key := key) (Gm H);have hM' : Aq w' m1 (ts'.map Kc.kv) := e ▸ hM;obtain ⟨a, c⟩ := H.step hL7 K' (H.blk.keep K n2) (H.disk.kO K λq hq (e : q = m1) => f3 (e ▸ hq)) (AR.refl w F) hM' (H.mh.kO K λq (e : q = m2) (e2 : q = m1) => n8 (e2.symm.trans e)) (H.mm.kO K λq (e : q = m3) (e2 : q = m1) => n9 (e2.symm.trans e)) (λt ht => .inl ((hts t).1 ht).1) (λx hx => .inl hx);exact ⟨_, rfl, rfl, _, ⟨m1, m2, m3, F, _, ts', ks, hs, rfl, a, T.del hts⟩, c, K'.mono λq _ hq => Dd hq⟩
  | h x =>
    obtain ⟨⟨x1, x2⟩, x3⟩ := hr;refine (ZR b lg m1 m2 m3 0 st _ x.owner.toNat x.key a9 _ c9 w rfl hrc H.blk H.mh n3 Zo x3).mono λe w' hh => ?_;obtain ⟨v, rfl, rfl, hM, K⟩ := hh;rw [PB x1] at hM;have K' : Ae (Cn b m1 m2 m3 F) w w' := K.mono λq _ (e : q = m2) => e ▸ q3
    obtain ⟨hs', e, hhs⟩ := DO (kv := Ju) (x := x) (IS H);have hM' : Aq w' m2 (hs'.map Ju) := e ▸ hM;obtain ⟨a, c⟩ := H.step hL7 K' (H.blk.keep K n3) (H.disk.kO K λq hq (e : q = m2) => f4 (e ▸ hq)) (AR.refl w F) (H.mc.kO K λq (e : q = m1) (e2 : q = m2) => n8 (e.symm.trans e2)) hM' (H.mm.kO K λq (e : q = m3) (e2 : q = m2) => n10 (e2.symm.trans e)) (λt ht => .inl ht) (λx hx => .inl hx);refine ⟨_, rfl, rfl, _, ⟨m1, m2, m3, F, _, ts, ks, hs', rfl, a, T.hint λy => ?_⟩, c, K'.mono λq _ hq => Dd hq⟩;rw [hhs, T.h];by_cases c : y = x
    · simp [c]
    exact ⟨λk => .inr ⟨k.resolve_left c, c⟩, λk => .inr (k.resolve_left c).1⟩
  | u x =>
    obtain ⟨⟨x1, x2⟩, x3⟩ := hr;refine (ZS b lg m1 m2 m3 0 st _ x.owner.toNat x.key a9 _ c9 w rfl hrc H.blk H.mh n3 Zo x3).mono λe w' hh => ?_;obtain ⟨v, rfl, rfl, hM, K⟩ := hh;rw [PB x1] at hM;have K' : Ae (Cn b m1 m2 m3 F) w w' := K.mono λq _ (e : q = m2) => e ▸ q3
    obtain ⟨hs1, e1, hh1⟩ := DO (kv := Ju) (x := x) (IS H);rw [show C7 (hs.map Ju) x (.agg #[]) = hs1.map Ju from e1] at hM;obtain ⟨hs', e, hhs⟩ := Hy (kv := Ju) (l := hs1) (key := x) (by
      have := H.mh.nodup;have h2 := QT (v := (.agg #[] : Value)) (k := x) this;rw [show C7 (hs.map Ju) x (.agg #[]) = hs1.map Ju from e1, Aat] at h2;exact h2)
    have hM' : Aq w' m2 (hs'.map Ju) := e ▸ hM;obtain ⟨a, c⟩ := H.step hL7 K' (H.blk.keep K n3) (H.disk.kO K λq hq (e : q = m2) => f4 (e ▸ hq)) (AR.refl w F) (H.mc.kO K λq (e : q = m1) (e2 : q = m2) => n8 (e.symm.trans e2)) hM' (H.mm.kO K λq (e : q = m3) (e2 : q = m2) => n10 (e2.symm.trans e)) (λt ht => .inl ht) (λx hx => .inl hx);refine ⟨_, rfl, rfl, _, ⟨m1, m2, m3, F, _, ts, ks, hs', rfl, a, T.hint λy => ?_⟩, c, K'.mono λq _ hq => Dd hq⟩;rw [hhs, hh1, T.h];exact ⟨fun ⟨k1, k2⟩ => ⟨.inr ⟨k2, k1⟩, k1⟩, fun ⟨k1, k2⟩ => ⟨k2, (k1.resolve_left k2).1⟩⟩
  | r key m =>
    obtain ⟨x1, x2, x3, x4⟩ := hr;obtain ⟨o, hget, ho, hco⟩ := H.lookC T key;obtain ⟨ma, mc, hgm, hms, hapM, hsort, hmay, hlen⟩ := H.lookM T key;have hft : ∀ q, (q = m1 \/ q = m3) -> Cn b m1 m2 m3 F q := λq hq => hq.elim (λe => e ▸ q2) (λe => e ▸ q4)
    have hmn := V2 x2;have hres := ZU b lg m1 m2 m3 0 st _ ma (s.m key) mc _ o m.node.toNat m.life.toNat m.count.toNat key a9 _ c9 w rfl hrc H.blk H.mc H.mm hgm hms (λx hx hn e => hapM x hx hn (hft _ e)) n2 n4 n9 hsort hmay x1 (by rw [hmn]; exact x2) (by rw [hmn]; exact x3) hlen hget
      (λt ht => ⟨(H.cart t (ho t ht).1).1, (H.cart t (ho t ht).1).2.1, λq hq e => (H.cart t (ho t ht).1).2.2 q hq (hft q e)⟩)
    rw [hmn] at hres;refine hres.mono λe w' hh => ?_;obtain ⟨v, rfl, rfl, ⟨a', c', hMm, hS, hga, hcs⟩, K⟩ := hh;have K' : Ae (Cn b m1 m2 m3 F) w w' := K.mono λq _ hq => hft q hq
    obtain ⟨ks', e, hks'⟩ := DO (kv := Km.kv) (x := ⟨key, a', c', setM (s.m key) (Ab.d m)⟩) (LH H);have hMm' : Aq w' m3 (ks'.map Km.kv) := e ▸ hMm;have hD : AJ w' d F 4194304 pl := H.disk.kO K λq hq e => e.elim (λe => f3 (e ▸ hq)) (λe => f5 (e ▸ hq))
    have hMh : Aq w' m2 (hs.map Ju) := H.mh.kO K λq (e : q = m2) e2 => e2.elim (λe2 => n8 (e2.symm.trans e)) (λe2 => n10 (e.symm.trans e2))
    have hb := H.blk.keep K (λe => e.elim n2 n4);have hnew : Ax w' a' (setM (s.m key) (Ab.d m)) /\ (∀ q, own a' q -> w.heap.size <= q) /\ (∀ q, own a' q -> ¬ F q) /\ (setM (s.m key) (Ab.d m)).Pairwise BI /\ (∀ y ∈ setM (s.m key) (Ab.d m), AD (Ab.d y)) /\ (setM (s.m key) (Ab.d m)).length <= 1000 /\ setM (s.m key) (Ab.d m) ≠ [] :=
      ⟨hS, hga, λq hq hF => absurd (H.disk.oL q hF) (Nat.not_lt.2 (hga q hq)), E1 hsort, λy hy => (E0 hy).elim (λe => e ▸ x2) (hmay y), Aaa (IG _ _) x4, Ko⟩
    have T1 := T.mark hks';rcases hcs with ⟨rfl, hM⟩ | ⟨t, s', rfl, hM, hR', hok', hgd⟩
    · obtain ⟨a, c⟩ := H.step hL7 K' hb hD (AR.refl w F) hM hMh hMm' (λt ht => .inl ht) (λx hx => ((hks' x).1 hx).elim (λe => .inr (e ▸ hnew)) (λe => .inl e.1));refine ⟨_, rfl, rfl, _, ⟨m1, m2, m3, F, _, ts, ks', hs, rfl, a, ?_⟩, c, K'.mono λq _ hq => Dd hq⟩;refine ⟨T1.st, λk v => ?_, T1.m, T1.h⟩;rw [<- T.c];show Dy s.c key _ k = some v ↔ _
      by_cases e : k = key
      · subst e; rw [BD, hco]; exact Iff.rfl
      rw [BT e]
    obtain ⟨ts', e, hts⟩ := DO (kv := Kc.kv) (x := ⟨key, Au t.v (AX m), s'⟩) (Gm H);have hM' : Aq w' m1 (ts'.map Kc.kv) := e ▸ hM;obtain ⟨a, c⟩ := H.step hL7 K' hb hD (AR.refl w F) hM' hMh hMm' (λt ht => ((hts t).1 ht).elim (λe => .inr (e ▸ ⟨hR', hok', hgd, λq hq hF => absurd (H.disk.oL q hF) (Nat.not_lt.2 (hgd q hq))⟩)) (λe => .inl e.1)) (λx hx => ((hks' x).1 hx).elim (λe => .inr (e ▸ hnew)) (λe => .inl e.1));refine ⟨_, rfl, rfl, _, ⟨m1, m2, m3, F, _, ts', ks', hs, rfl, a, ?_⟩, c, K'.mono λq _ hq => Dd hq⟩;have T2 := T1.put hts;rw [Dz, hco]; exact T2
def LI (ts:List Kc)(ks:List Km):Nat->Prop:=λq=>(∃t∈ts,BS t.s t.v q)\/∃k∈ks,k.l≠ []/\own k.a q
structure FF (w:World)(ts:List Kc)(ks:List Km):Prop where
 cart:∀t∈ts,Bi w t.s t.v/\Bn t.v t.s
 mark:∀k∈ks,Ax w k.a k.l/\k.l.Pairwise BI/\(∀x∈k.l,AD (Ab.d x))/\k.l.length<=1000/\k.l≠ []
def FF.oL (h:FF w ts ks):∀q,LI ts ks q->q<w.heap.size:=by
 rintro q (⟨t,ht,hq⟩|⟨k,hk,hn,hq⟩)
 ·exact(h.cart t ht).1.oL q hq
 exact EZ (h.mark k hk).1 hn hq
def FF.kO (h:FF w ts ks)(k:Ae S w w')(hn:∀q,LI ts ks q->¬S q):FF w' ts ks:=
 ⟨λt ht=>⟨(h.cart t ht).1.kO k (λq hq=>hn q (.inl ⟨t,ht,hq⟩)),(h.cart t ht).2⟩,λx hx=>⟨(h.mark x hx).1.keepN k (λy hy he=>hn _ (.inr ⟨x,hx,he,y,hy,rfl⟩)),(h.mark x hx).2⟩⟩
def FF.ext (h:FF w ts ks)(k:As w w'):FF w' ts ks:=h.kO k λ_ _=>id
def H7.rest (h:H7 w b d lg m1 m2 m3 F pl st ts ks hs):FF w ts ks/\∀q,LI ts ks q->¬Cn b m1 m2 m3 F q:=by
 refine⟨⟨λt ht=>⟨(h.cart t ht).1,(h.cart t ht).2.1⟩,λk hk=>⟨(h.mark k hk).1,(h.mark k hk).2.2⟩⟩,?_⟩;rintro q (⟨t,ht,hq⟩|⟨k,hk,hn,x,hx,rfl⟩)
 ·exact(h.cart t ht).2.2 q hq
 exact(h.mark k hk).2.1 x hx hn
def H7.of (hb:AC w b [.int .i32 0,.int .u32 0,jp lg,.int .i64 st,.map (some m1),.map (some m2),.map (some m3)] 94)(hl:AC w lg [jp d] 161)(hD:AJ w d F 4194304 pl)(h1:Aq w m1 (ts.map Kc.kv))(h2:Aq w m2 (hs.map Ju))(h3:Aq w m3 (ks.map Km.kv))(hg:(∀q,F q->7<=q)/\7<=b/\7<=m1/\7<=m2/\7<=m3)
  (hne:b≠lg/\b≠m1/\b≠m2/\b≠m3/\m1≠lg/\m2≠lg/\m3≠lg/\m1≠m2/\m1≠m3/\m2≠m3) (hnf:¬F b/\¬F lg/\¬F m1/\¬F m2/\¬F m3) (hr:FF w ts ks) (ha:∀q,LI ts ks q->¬Cn b m1 m2 m3 F q):H7 w b d lg m1 m2 m3 F pl st ts ks hs:=
 ⟨hb,hl,hD,h1,h2,h3,λq hq=>by rcases hq with e|rfl|rfl|rfl|rfl<;>first|exact hg.1 _ e|exact hg.2.1|exact hg.2.2.1|exact hg.2.2.2.1|exact hg.2.2.2.2,hne,hnf,
  λt ht=>⟨(hr.cart t ht).1,(hr.cart t ht).2,λq hq=>ha q (.inl ⟨t,ht,hq⟩)⟩,λk hk=>⟨(hr.mark k hk).1,λx hx hn=>ha _ (.inr ⟨k,hk,hn,x,hx,rfl⟩),(hr.mark k hk).2⟩⟩
def kf0 :KF:=⟨0,λ_=>none,λ_=>[],λ_=>False⟩
def tells0 :Ds kf0 0 [] [] []:=⟨rfl,λ_ _=>⟨(λh=>nomatch h),(λ⟨_,h,_⟩=>nomatch h)⟩,λ_=> .inr ⟨(λ_ h=>nomatch h),rfl⟩,λ_=>⟨False.elim,(λh=>nomatch h)⟩⟩
def rest0 :FF w [] []:=⟨(λ_ h=>nomatch h),(λ_ h=>nomatch h)⟩
noncomputable def DI (s:KF)(rs:List BM):KF:=rs.foldl Dz s
def OkRun :KF->List BM->Prop
 |_,[]=>True
 |s,r::rs=>Kn s r/\OkRun (Dz s r) rs
def TJ {rs:List BM}{i:Nat}{r:BM}(h:rs[i]? =some r):DI s (rs.take (i+1))=Dz (DI s (rs.take i)) r:=by
 rw[DI,Cg h,Abg];rfl
def OkRun.at {rs : List BM} : ∀ {s : KF} {i : Nat}, OkRun s rs -> rs[i]? = some r -> Kn (DI s (rs.take i)) r := by
  induction rs with
  | nil => intro s i _ h; cases i <;> cases h
  | cons x rs ih =>
    intro s i h hx;cases i with
    | zero => obtain rfl := Option.some.inj hx; exact h.1
    | succ i => exact ih h.2 hx
end
end
section
attribute [local irreducible] Au Ap encK
section
variable {w w':World}{b d lg m1 m2 m3:Nat}{F Z:Nat->Prop}{pl:List PF}{s:KF}{r:BM}
def Hz {P:Nat->Prop}(hF:∀q,F q->P q)(hb:P b)(h1:P m1)(h2:P m2)(h3:P m3)(hl:P lg):∀q,Fc b lg m1 m2 m3 F [] [] q->P q:=by
 rintro q ((hq|rfl|rfl|rfl|rfl)|rfl|⟨_,hq,_⟩|⟨_,hq,_⟩)
 ·exact hF q hq
 ·exact hb
 ·exact h1
 ·exact h2
 ·exact h3
 ·exact hl
 ·cases hq
 cases hq
def ZX {a9:Option Addr}{c9:Nat}{bs:List UInt8}(hbs:bs=encK r)(h:Jv w b lg d Z pl s)(hL7:7<=w.heap.size)(hr:Kn s r)(ho:Af w 5 a9 c9 bs)(hap:∀q,Z q->¬own a9 q):
  Calls prog 60 #[jp b,.slice a9 bs.length c9] w (AU λv w'=>iG w b lg d Z pl (Dz s r) v w'):=by
 subst hbs;exact iH h hL7 hr ho.sl ho.le_cap λx hx _ hz=>hap _ hz ⟨x,hx,rfl⟩
def HA {α:Type}[Enc α]{T T':TypeId}{a:Option Addr}{cap:Nat}{xs:List α}{c:List Value}(h:Af w T a cap xs)(hb:AC w b c T')(hT:T≠T'):¬own a b:=by
 rintro⟨x,rfl,rfl⟩;rcases h.cases with⟨e,_⟩|⟨g,cur,e,hg,_⟩
 ·cases e
 obtain rfl:=Option.some.inj e;have:=hg.symm.trans hb
 simp only[Option.some.injEq,Obj.cells.injEq]at this;exact hT this.2.1
def QU {rs:List RB}{c:List Value}{T':TypeId}(h:Bk w rs)(hb:AC w b c T')(hT:5≠T'):¬Az rs b:=λ⟨r,hr,ho⟩=>HA (h r hr) hb hT ho
def ZY {rs:List RB}{ks:List BM}{i:Nat}{x:RB}(h:rs.map RB.b=ks.map encK)(hx:rs[i]? =some x):∃k,ks[i]? =some k/\x.b=encK k:=by
 have h2:=congrArg (λl=>l[i]?) h;simp only[Aaz,hx,AaL]at h2;cases hk:ks[i]? with
 |none=>rw[hk]at h2;cases h2
 |some k=>rw[hk]at h2;exact⟨k,rfl,Option.some.inj h2⟩
end
attribute [local irreducible] X
def N2 (d:Nat)(F:Nat->Prop)(pl:List PF)(rs0:List BM)(n:Nat)(w:World)(hD:AJ w d F 4194304 pl)(hL:A5 w)(hFG:∀q,F q->7<=q)(ho:(A7 4194304 pl).1=0)(hr0:(A7 4194304 pl).2.1=rs0.map encK)(hok:OkRun kf0 rs0)(hst:(DI kf0 rs0).st=((n:Nat):Int))(hn:n<1048575)(hl0:rs0.length<=1000000)(hA:(Aw 4194304 (A7 4194304 pl).2.2 ([UInt8.ofNat 1]++Al (n+1))).1=0):
  Calls prog 19 #[jp d] w (AU (λv w'=>∃b Z',v= .tuple #[jp b,.int .i64 0]/\GQ w' b d Z' (GN (Aw 4194304 (A7 4194304 pl).2.2 ([UInt8.ofNat 1]++Al (n+1))).2) (Dz (DI kf0 rs0) (.o (n+1)))/\AR w F Z'/\Ae F w w')):=by
 have hLs:=hL.size;refine kD (n:=65) func19 ?_;refine kS (YY _ _ _ _ _ hD hL hFG) ?_;rintro vv bS ⟨ai,a5,aC,aM,ax⟩;rcases ax with ax|ax
 ·obtain⟨bT,au,aN,a6,a0,rfl,a4,b2,b3,a1,a2,b4,bU,bV,bW,b5,b6⟩:=ax;have:w.heap.size<=a0:=Aaa (Aac _) b3;have b7:∀q_,ai q_->q_<w.heap.size->F q_:=aC.inS (λq_ h_ _=>h_) (Aac _);have aO:∀q_,ai q_->7<=q_:=λq_ h_=>(aC q_ h_).elim (hFG q_) (λh2_=>Aaa hLs (Aaa (Aac _) h2_));have K0:=(Ae.refl F w).trans aM (λx hlt hx=>(λq_ h_ _=>h_) x hx hlt);clear aC;have hnl1:=HA a1 a4 Zd;have hnl2:=QU a2 a4 Zd;have hrs9:a6.map RB.b=rs0.map encK:=b4.trans hr0;have hrl9:(a6.map RB.h).length=rs0.length:=by have h9:=congrArg List.length hrs9;rw[Aad,Aad]at h9;rw[Aad];exact h9
  refine kG ?_;refine jR<|AB.makeMap (κ:=ByteArray) ?_;intro a7 bX av ab aw;have b8:=Ag (BB av) a5.oL;have b9:=Ag (BB av) a1.oL;have ba:=Ag (BB av) a2.oL;have bb:=Ay (BB av) a4.lt;have aD:=Bg K0.size (BB av);clear av;refine jR<|AB.makeMap (κ:=AE) ?_;intro a8 bY ap aq ar;replace a5:=a5.ext aw;have bc:=Ag (BB ap) a5.oL;replace a1:=a1.ext aw;have be:=Ag (BB ap) a1.oL;replace a2:=a2.ext aw;have bg:=Ag (BB ap) a2.oL;replace a4:=a4.ext aw;have bh:=Ay (BB ap) a4.lt;have bi:=Ag (BB ap) ab.oL;replace K0:=K0.ext aw;have aE:=Bg K0.size (BB ap);clear ap;refine jR<|AB.makeMap (κ:=ByteArray) ?_;intro a9 bZ aj ay ak;replace a5:=a5.ext ar;have bj:=Ag (BB aj) a5.oL;replace a1:=a1.ext ar;have bk:=Ag (BB aj) a1.oL;replace a2:=a2.ext ar;have bl:=Ag (BB aj) a2.oL;replace a4:=a4.ext ar;have bm:=Ay (BB aj) a4.lt;replace ab:=ab.ext ar;have bn:=Ag (BB aj) ab.oL;have bo:=Ag (BB aj) aq.oL;replace K0:=K0.ext ar;have aF:=Bg K0.size (BB aj);clear aj;refine jV (AO (cells:=#[.int .i32 0,.int .u32 0,jp a0,.int .i64 0,.map (some a7),.map (some a8),.map (some a9)]) Zk) ?_;refine kQ ?_;intro a3 bp ac bq ad;replace a4:=a4.ext ak;have c0:=Ak a4.lt ac;replace a5:=a5.ext ak;have bs:=An a5.oL ac;replace a1:=a1.ext ak;have bt:=An a1.oL ac;replace a2:=a2.ext ak;have bu:=An a2.oL ac;replace ab:=ab.ext ak;have bv:=An ab.oL ac;replace aq:=aq.ext ak;have bw:=An aq.oL ac;have bx:=An ay.oL ac;replace K0:=K0.ext ak;have:=Aaa K0.size ac;clear ac;have hne9:a3≠a0/\a3≠a7/\a3≠a8/\a3≠a9/\a7≠a0/\a8≠a0/\a9≠a0/\a7≠a8/\a7≠a9/\a8≠a9:=⟨by omega,λe_=>bv e_,λe_=>bw e_,λe_=>bx e_,λe_=>bb e_.symm,λe_=>bh e_.symm,λe_=>bm e_.symm,λe_=>(Zf bi) _ rfl e_,λe_=>(Zf bn) _ rfl e_,λe_=>(Zf bo) _ rfl e_⟩;replace a5:=a5.ext ad;replace a4:=a4.ext ad;replace ab:=ab.ext ad;replace aq:=aq.ext ad;replace ay:=ay.ext ad;have hS9:Jv bp a3 a0 d (Fc a3 a0 a7 a8 a9 ai [] []) (A7 4194304 pl).2.2 (DI kf0 (rs0.take 0)):=⟨a7,a8,a9,ai,0,[],[],[],rfl,H7.of bq a4 a5 ab aq ay ⟨aO,by omega,Aaa hLs (aD _ rfl),Aaa hLs (aE _ rfl),Aaa hLs (aF _ rfl)⟩ hne9 ⟨bs,b2,(λe_=>(Zf b8) _ e_ rfl),(λe_=>(Zf bc) _ e_ rfl),(λe_=>(Zf bj) _ e_ rfl)⟩ rest0 (λq_ h_=>by rcases h_ with⟨_,h_,_⟩|⟨_,h_,_⟩<;>cases h_),tells0⟩;have bz:∀q_,(Fc a3 a0 a7 a8 a9 ai [] []) q_->¬own au q_:=Hz (P:=λq_=>¬own au q_) (Zf b5) bt (b9 _ rfl) (be _ rfl) (bk _ rfl) hnl1;have bA:∀q_,(Fc a3 a0 a7 a8 a9 ai [] []) q_->¬Az a6 q_:=Hz (P:=λq_=>¬Az a6 q_) (Zf b6) bu (ba _ rfl) (bg _ rfl) (bl _ rfl) hnl2;have hS0:∀q_,(Fc a3 a0 a7 a8 a9 ai [] []) q_->q_<w.heap.size->F q_:=Hz (P:=λq_=>q_<w.heap.size->F q_) b7 (λl_=>absurd l_ Zo) (λl_=>absurd l_ (Nat.not_lt.2 (aD _ rfl))) (λl_=>absurd l_ (Nat.not_lt.2 (aE _ rfl))) (λl_=>absurd l_ (Nat.not_lt.2 (aF _ rfl))) (λl_=>absurd l_ Zo);have hSG:∀q_,(Fc a3 a0 a7 a8 a9 ai [] []) q_->7<=q_:=Hz (P:=λq_=>7<=q_) aO Zo (Aaa hLs (aD _ rfl)) (Aaa hLs (aE _ rfl)) (Aaa hLs (aF _ rfl)) Zo;refine jG ?_;replace hL:=((((hL.keep aM hFG).ext aw).ext ar).ext ak).ext ad;replace a1:=a1.ext ad;replace a2:=a2.ext ad;replace K0:=K0.ext ad;refine Ai.loop (ι:=Nat) (λi ρ' w'=>∃Zk9:Nat->Prop,Holds ρ' [(4,jp a0),(7,jp a3),(25,.slice au ((a6.map RB.h).length) aN),(26,.int .i64 (((a6.map RB.h).length:Nat):Int)),(27,.int .i64 ((i:Nat):Int))]/\Ae F w w'/\(A5 w')/\(Af w' 98 au aN (a6.map RB.h))/\(Bk w' a6)/\(Jv w' a3 a0 d Zk9 ((A7 4194304 pl).2.2) (DI kf0 (rs0.take i)))/\(∀q_,Zk9 q_->¬own au q_)/\(∀q_,Zk9 q_->¬Az a6 q_)/\(∀q_,Zk9 q_->q_<w.heap.size->F q_)/\(∀q_,Zk9 q_->7<=q_)/\(i<=(a6.map RB.h).length)) (λi=>(a6.map RB.h).length-i) 0 ?_ ?_
  ·refine⟨_,⟨rfl,rfl,rfl,rfl,rfl,trivial⟩,K0,hL,a1,a2,hS9,bz,bA,hS0,hSG,?_⟩
   ·omega
  clear a1 a2 hS9;clear K0;rintro i c1 c2 ⟨Zk9,aP,K0,hL,a1,a2,aQ,aR,aG,aH,aI,hi⟩ ih1;obtain⟨ρ₀,rfl⟩:=aP.ex;clear aP;refine kK ?_ ?_
  ·intro hc28;obtain⟨c3,c4,hh_,hh,c5,c6⟩:=a1.sl.eo i;obtain⟨r,hr,hre,hrm⟩:=Lc hh;subst hre;obtain⟨k9,hk9,hkb⟩:=ZY hrs9 hr;refine jG ?_;refine kS (ZX hkb aQ (Aaa hLs K0.size) (OkRun.at hok hk9) (a2 r hrm) (λq_ h1_ h2_=>aG q_ h1_ ⟨r,hrm,h2_⟩)) ?_;rintro _ c7 ⟨rfl,az,aS,aA,aB⟩;rw[<-TJ hk9]at aS;have bB:∀q_,az q_->¬own au q_:=aA.apart aR a1.oL;have bC:∀q_,az q_->¬Az a6 q_:=aA.apart aG a2.oL;have bD:∀q_,az q_->q_<w.heap.size->F q_:=aA.inS aH K0.size;have bE:∀q_,az q_->7<=q_:=λq_ h_=>(aA q_ h_).elim (aI q_) (λh2_=>Aaa hLs (Aaa K0.size h2_));replace K0:=K0.trans aB (λx hlt hx=>aH x hx hlt);refine kE (Bp (b:=true) rfl) ?_;refine kH ?_;refine kC i ?_;refine ih1 (i+1) _ _ ?_ Zo;replace hL:=hL.keep aB aI;replace a1:=a1.kO aB (Zf aR);replace a2:=a2.kO aB (Zf aG);refine⟨_,⟨rfl,rfl,rfl,rfl,rfl,trivial⟩,K0,hL,a1,a2,aS,bB,bC,bD,bE,?_⟩
   omega
  intro hc28;have hie:i=(a6.map RB.h).length:=by omega
  have hil:rs0.take i=rs0:=AaB (by have h9:=congrArg List.length hrs9;rw[Aad,Aad]at h9;rw[hie,Aad];omega);have aT:=aQ;rw[hil]at aT;obtain⟨m1,m2,m3,F9,st9,ts9,ks9,hs9,hZ9,H9,T9⟩:=aT;obtain⟨hrest,hapr⟩:=H9.rest;obtain⟨n1,n2,n3,n4,n5,n6,n7,n8,n9,n10⟩:=H9.ne;obtain⟨f1,f2,f3,f4,f5⟩:=H9.nf;obtain rfl:st9=((n:Nat):Int):=T9.st.symm.trans hst;have hZ0:∀q_,Fc a3 a0 m1 m2 m3 F9 ts9 ks9 q_->q_<w.heap.size->F q_:=hZ9▸aH;have hZG:∀q_,Fc a3 a0 m1 m2 m3 F9 ts9 ks9 q_->7<=q_:=hZ9▸aI;have hbS:=H9.blk;have hlS:=H9.log;have hDS:=H9.disk;have hM1:=H9.mc;have hM2:=H9.mh;have hM3:=H9.mm;refine kK ?_ ?_
  ·intro hc40;exfalso;omega
  intro hc40;refine jG ?_;refine jV (AA (c:=((n+1:Nat):Int)) (Av rfl rfl Zo Zo) rfl) ?_;refine jR<|AB.buildSlice ([((n+1:Nat):Int)]:List Int) underlying185 ty3 rfl rfl Ze ?_;intro bF c8 bG bH ae;clear bG;refine jR<|jC (Pz 1 (n+1) (some ⟨bF,0,none⟩) (([((n+1:Nat):Int)]:List Int).length) _ Zd bH.sl Zo) ?_;rintro _ c9 ⟨ca,cb,rfl,bI,aU,af⟩;replace hDS:=hDS.ext ae;have bJ:=Ag aU hDS.oL;clear aU;replace hL:=(hL.ext ae).ext af;replace hlS:=(hlS.ext ae).ext af;replace hDS:=hDS.ext af;refine jR<|jC (Ef (EY _ _ _ _ _ _ ([UInt8.ofNat 1]++Al (n+1)) _ _ hlS hDS f2 hL (λq_ h_=>hZG q_ (Or.inl (Or.inl h_))) bI.sl (λx_ hx_=>bJ _ ⟨x_,hx_,rfl⟩)) hA rfl) ?_;rintro _ cc ⟨al,rfl,bK,ag,am⟩;replace hbS:=(hbS.ext ae).ext af;have aV:¬al a3:=ag.not f1 hbS.lt;have aJ:¬al a0:=ag.not f2 hlS.lt;replace hM1:=(hM1.ext ae).ext af;have aW:∀q_,al q_->¬one m1 q_:=ag.apart (λq_ h_ (e_:q_=m1)=>f3 (e_▸h_)) hM1.oL;replace hM2:=(hM2.ext ae).ext af;have aX:∀q_,al q_->¬one m2 q_:=ag.apart (λq_ h_ (e_:q_=m2)=>f4 (e_▸h_)) hM2.oL;replace hM3:=(hM3.ext ae).ext af;have aY:∀q_,al q_->¬one m3 q_:=ag.apart (λq_ h_ (e_:q_=m3)=>f5 (e_▸h_)) hM3.oL;replace hrest:=(hrest.ext ae).ext af;have aZ:∀q_,al q_->¬LI ts9 ks9 q_:=ag.apart (λq_ h_ h2_=>hapr q_ h2_ (Or.inl h_)) hrest.oL;replace K0:=(K0.ext ae).ext af;have b0:∀q_,al q_->q_<w.heap.size->F q_:=ag.inS (λq_ h_=>hZ0 q_ (Or.inl (Or.inl h_))) K0.size;have aK:∀q_,al q_->7<=q_:=λq_ h_=>(ag q_ h_).elim ((λq_ h_=>hZG q_ (Or.inl (Or.inl h_))) q_) (λh2_=>Aaa hLs (Aaa K0.size h2_));replace K0:=K0.trans am (λx hlt hx=>(λq_ h_=>hZ0 q_ (Or.inl (Or.inl h_))) x hx hlt);clear ag;refine kI ?_;replace hL:=hL.keep am (λq_ h_=>hZG q_ (Or.inl (Or.inl h_)));replace hlS:=hlS.keep am f2;refine kS (YX _ _ _ _ _ _ hlS bK aJ hL aK) ?_;rintro _ cd ⟨aa,rfl,aL,ah,an⟩;replace hbS:=hbS.keep am f1;have b1:¬aa a3:=ah.not aV hbS.lt;have bL:¬aa a0:=ah.not aJ hlS.lt;replace hM1:=hM1.kO am (λq_ h1 h2=>(λq_ h_ (e_:q_=m1)=>f3 (e_▸h_)) q_ h2 h1);have bM:∀q_,aa q_->¬one m1 q_:=ah.apart aW hM1.oL;replace hM2:=hM2.kO am (λq_ h1 h2=>(λq_ h_ (e_:q_=m2)=>f4 (e_▸h_)) q_ h2 h1);have bN:∀q_,aa q_->¬one m2 q_:=ah.apart aX hM2.oL;replace hM3:=hM3.kO am (λq_ h1 h2=>(λq_ h_ (e_:q_=m3)=>f5 (e_▸h_)) q_ h2 h1);have bO:∀q_,aa q_->¬one m3 q_:=ah.apart aY hM3.oL;replace hrest:=hrest.kO am (λq_ h1 h2=>(λq_ h_ h2_=>hapr q_ h2_ (Or.inl h_)) q_ h2 h1);have bP:∀q_,aa q_->¬LI ts9 ks9 q_:=ah.apart aZ hrest.oL;have bQ:∀q_,aa q_->q_<w.heap.size->F q_:=ah.inS b0 K0.size;have bR:∀q_,aa q_->7<=q_:=λq_ h_=>(ah q_ h_).elim (aK q_) (λh2_=>Aaa hLs (Aaa K0.size h2_));replace K0:=K0.trans an (λx hlt hx=>b0 x hx hlt);clear ah;refine jG ?_;refine Ai.condF rfl ?_;replace hbS:=hbS.keep an aV;refine jG ?_;refine kC n ?_;refine jR<|jS hbS ?_;intro ce hbS ao;replace K0:=K0.n1 ao;refine kM func19 ?_;have hap2:∀q_,LI ts9 ks9 q_->¬Cn a3 m1 m2 m3 aa q_:=λq_ h_ e_=>e_.elim (λx_=>bP q_ x_ h_) (λx_=>hapr q_ h_ (Or.inr x_));replace hL:=(hL.keep an aK).keep ao Zw;replace hlS:=(hlS.keep an aJ).kp ao;replace hM1:=(hM1.kO an (Zf aW)).kO ao (Zx (λe_=>n2 e_));replace hM2:=(hM2.kO an (Zf aX)).kO ao (Zx (λe_=>n3 e_))
  replace hM3:=(hM3.kO an (Zf aY)).kO ao (Zx (λe_=>n4 e_));replace hrest:=(hrest.kO an (Zf aZ)).kO ao (Zx (λh_=>hapr _ h_ (Or.inr (Or.inl rfl))));replace aL:=aL.kO ao (Aa b1);have hmv:AR w F (Fc a3 a0 m1 m2 m3 aa ts9 ks9):=by
   have hz:∀q_,Fc a3 a0 m1 m2 m3 F9 ts9 ks9 q_->F q_\/w.heap.size<=q_:=λq_ h_=>(Abn q_ w.heap.size).elim (λl_=> .inl (hZ0 q_ h_ l_)) .inr;rintro q_ ((h_|h_)|h_)
   ·exact(Abn q_ w.heap.size).elim (λl_=> .inl (bQ q_ h_ l_)) .inr
   ·exact hz q_ (.inl (.inr h_))
   exact hz q_ (.inr h_)
  exact⟨_,rfl,a3,_,rfl,⟨a0,m1,m2,m3,aa,_,ts9,ks9,hs9,rfl,H7.of hbS hlS aL hM1 hM2 hM3 ⟨bR,(hZG _ (Or.inl (Or.inr (Or.inl rfl)))),(hZG _ (Or.inl (Or.inr (Or.inr (Or.inl rfl))))),(hZG _ (Or.inl (Or.inr (Or.inr (Or.inr (Or.inl rfl)))))),(hZG _ (Or.inl (Or.inr (Or.inr (Or.inr (Or.inr rfl))))))⟩ H9.ne ⟨b1,bL,(λe_=>bM _ e_ rfl),(λe_=>bN _ e_ rfl),(λe_=>bO _ e_ rfl)⟩ hrest hap2,⟨rfl,T9.c,T9.m,T9.h⟩⟩,hmv,K0⟩
 exact absurd ho ax.1
end
end Go.Proofs.YtjkaicjmfgekjaaGreatDoor
